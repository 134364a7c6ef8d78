/- copy, clear, append of zeros. -/
import Derived.Test.YthbenojbjjgnaaaGreatUAb
set_option linter.unusedVariables false
set_option linter.unusedSimpArgs false
set_option linter.unusedSectionVars false
section
namespace Go.Abs
variable {P : Program} {tab : Tab} {σ : Sg}
def Md (P : Program) (s : Sem Value) (σ : Sg) (v : AV) (h' : Nat → Option AO) : Prop :=
 ∃ σ' x,s.run P σ.w = .ok x σ'.w ∧ σ'.h = h' ∧ σ'.dead = σ.dead ∧ Le σ σ' ∧ SR σ' ∧ VR σ' v x
def MdU (P : Program) (s : Sem Unit) (σ : Sg) (h' : Nat → Option AO) : Prop :=
 ∃ σ',s.run P σ.w = .ok () σ'.w ∧ σ'.h = h' ∧ σ'.dead = σ.dead ∧ Le σ σ' ∧ SR σ'
def Fresh (σ : Sg) (st : Nat) : Prop := σ.h st = none ∧ ¬ σ.dead st
theorem chunks_flatten (s : Nat) : ∀ (k : Nat) (cs : List AV),cs.length = k * s → (chunks s k cs).flatten = cs
 | 0,cs,h => by simp at h; subst h; rfl
 | k + 1,cs,h => by
  simp only [chunks,List.flatten_cons]
  rw [chunks_flatten s k (cs.drop s) (by rw [List.length_drop,h,Nat.succ_mul]; omega)]
  exact List.take_append_drop s cs
theorem chunks_length (s : Nat) : ∀ (k : Nat) (cs : List AV),(chunks s k cs).length = k
 | 0,_ => rfl
 | k + 1,cs => by simp [chunks,chunks_length s k]
theorem chunks_all (s : Nat) : ∀ (k : Nat) (cs : List AV),cs.length = k * s → ∀ e ∈ chunks s k cs,e.length = s
 | 0,_,_ => by simp [chunks]
 | k + 1,cs,h => by
  intro e he
  simp only [chunks,List.mem_cons] at he
  rcases he with rfl | he
  ·rw [List.length_take,h,Nat.succ_mul]; omega
  ·exact chunks_all s k (cs.drop s) (by rw [List.length_drop,h,Nat.succ_mul]; omega) e he
theorem make_md (sr : SR σ) {st : Nat} (hfr : Fresh σ st) (es : List (List AV)) (s : Nat) {vs : List Value} (tail : List Value) (t : TypeId) (hv : VRs σ es.flatten vs) (hs : ∀ e ∈ es,e.length = s) :
  ∃ σ',σ'.w = σ.w.alloc (.cells (vs ++ tail).toArray t) ∧ σ'.h = upd σ.h st (some (.cells es s 0)) ∧ σ'.dead = σ.dead ∧ Le σ σ' ∧ SR σ' ∧ σ'.r st = σ.w.heap.size ∧
   σ'.w.heap[σ'.r st]? = some (.cells (vs ++ tail).toArray t (0,0)) := by
 obtain ⟨l,sr'⟩ := new_row sr (n := st) es s 0 tail t (0,0) hfr.2 (.inl hfr.1) hv hs (by omega)
 refine ⟨σ.make st (.cells (vs ++ tail).toArray t (0,0)) (.cells es s 0),rfl,rfl,rfl,l,sr',upd_same _ _ _,?_⟩
 rw [show (σ.make st (.cells (vs ++ tail).toArray t (0,0)) (.cells es s 0)).r st = σ.w.heap.size from upd_same _ _ _]
 exact heap_alloc_at _ _
theorem newVar_ok (tabOk : TabOK P tab) (sr : SR σ) {st : Nat} (hfr : Fresh σ st) {t : TypeId} {d : TyD} (hd : tab t = some d) {cs : List AV} {v : Value} {vs : List Value} (hc : v.cells = vs.toArray) (hv : VRs σ cs vs) {r : Res}
  (h : newVarA tab st d cs = some r) : ∃ o,r.e = .loc [] [(st,o)] 1 ∧ Md P (do pure (.pointer (some (← newVar t v)))) σ r.v (upd σ.h st (some o)) := by
 have run : (do pure (.pointer (some (← newVar t v))) : Sem Value).run P σ.w = .ok (.pointer (some ⟨σ.w.heap.size,0,none⟩)) (σ.w.alloc (.cells vs.toArray t)) := by
  simp only [newVar,newRow,Sem.run_bind,run_newObj,Result.andThen_ok,Sem.run_pure,hc]
  rfl
 have fin : ∀ es s g,es.flatten = cs → (∀ e ∈ es,e.length = s) → es.length = g → Md P (do pure (.pointer (some (← newVar t v)))) σ (.pt st g 0 0) (upd σ.h st (some (.cells es s 0))) := by
  intro es s g he hs hg
  obtain ⟨σ',h1,h2,h3,l,sr',hr,_⟩ := make_md sr hfr es s [] t (by rw [he]; exact hv) hs
  refine ⟨σ',.pointer (some ⟨σ.w.heap.size,0,none⟩),by rw [run,h1]; simp,h2,h3,l,sr',?_⟩
  have := VR.pt (σ := σ') (n := st) (i := 0) (fo := 0) (es := es) (s := s) (fz := 0) (by rw [h2]; exact upd_same _ _ _)
  rw [hg,hr] at this
  simpa using this
 unfold newVarA at h
 split at h
 ·split at h
  ·rename_i n e hk de hde
   split at h
   ·rename_i hl
    cases h
    exact ⟨_,rfl,fin _ _ _ (chunks_flatten _ _ _ hl) (chunks_all _ _ _ hl) (chunks_length _ _ _)⟩
   ·cases h
  ·cases h
 ·cases h
  exact ⟨_,rfl,fin _ _ _ (by simp) (by simp) rfl⟩
theorem alloc_ok (tabOk : TabOK P tab) (sr : SR σ) {st : Nat} (hfr : Fresh σ st) {t : TypeId} {d : TyD} (hd : tab t = some d) {r : Res} (h : newVarA tab st d (d.zero.map .sc) = some r) :
  ∃ o,r.e = .loc [] [(st,o)] 1 ∧ Md P (Instr.alloc t true (.tuple #[])) σ r.v (upd σ.h st (some o)) := by
 have D := tabOk t d hd
 obtain ⟨z,hz,hzc,_⟩ := D.run_zero σ.w
 obtain ⟨o,h1,σ',x,h2,h3⟩ := newVar_ok (P := P) tabOk sr hfr hd (v := z) (vs := d.zero) (by rw [← hzc]) (vrs_sc _ D.zsc) h
 refine ⟨o,h1,σ',x,?_,h3⟩
 have : Instr.alloc t true (.tuple #[]) = (do let zero ← zeroValue t; pure (.pointer (some (← newVar t zero)))) := rfl
 rw [this]
 simp only [Sem.run_bind,hz,Result.andThen_ok]
 simpa only [Sem.run_bind] using h2
theorem box_ok (tabOk : TabOK P tab) (sr : SR σ) {st : Nat} (hfr : Fresh σ st) {t : TypeId} {d : TyD} (hd : tab t = some d) {x : AV} {xv : Value} (hx : VR σ x xv) {cs : List AV} (hc : cellsOf x = some cs) {r : Res}
  (h : newVarA tab st d cs = some r) : ∃ o,r.e = .loc [] [(st,o)] 1 ∧ Md P (Instr.box t xv) σ r.v (upd σ.h st (some o)) := by
 obtain ⟨vs,h1,h2,_⟩ := cells_vr hx hc
 exact newVar_ok tabOk sr hfr hd h1 h2 h
theorem store_ok (tabOk : TabOK P tab) (sr : SR σ) {H : Heap} {t : TypeId} {d : TyD} (hd : tab t = some d) {a x : AV} {av xv : Value} (ha : VR σ a av) (hx : VR σ x xv) {r : Res}
  (h : storeA H d a x = some r) (hf : Foot H σ r) : ∃ rd m o,r.e = .loc rd [(m,o)] 0 ∧ r.v = undefA ∧ MdU P (Instr.storeAt t av xv) σ (upd σ.h m (some o)) := by
 have D := tabOk t d hd
 unfold storeA at h
 split at h
 ·rename_i m g i fo cs hcs
  split at h
  ·rename_i es s fz ho
   split at h
   ·rename_i hcond
    obtain ⟨hg,hcl,hst,hfz⟩ := hcond
    obtain ⟨vs,hc1,hc2,_⟩ := cells_vr hx hcs
    have hvl := hc2.length
    have fin : ∀ (es' : List (List AV)) (o : Nat),σ.h m = some (.cells es s fz) → es'.flatten = es.flatten.take o ++ cs ++ es.flatten.drop (o + cs.length) → o + cs.length ≤ es.flatten.length → fz * s ≤ o → es.length ≤ es'.length → (∀ e ∈ es',e.length = s) → o = i * s + fo →
      MdU P (Instr.storeAt t av xv) σ (upd σ.h m (some (.cells es' s fz))) := by
     intro es' o hm hfl hle hfo hlen hall ho
     subst ho
     obtain ⟨arr,t0,rg,full,q1,qj,q2,q3,q4,q5,q6,q7⟩ := sr.obj m _ hm
     have hfull := q3.length
     obtain ⟨l,sr'⟩ := write_own sr hm hc2 hfl (by omega) hfo hlen hall q1 (by omega)
     refine ⟨σ.write m (i * s + fo) vs (.cells es' s fz),?_,rfl,rfl,l,sr'⟩
     rw [ha.pt_inv sr hm hg]
     have hone := storables_vr hc2 hst
     have hrun : (storeCells ⟨σ.r m,i * s + fo,none⟩ vs 0).run P σ.w = .ok () (σ.w.setCells (σ.r m) (i * s + fo + 0) vs) := by
      refine run_storeCells_cells (P := P) (σ.r m) (i * s + fo) vs 0 σ.w (fun j hj => ?_) (fun j hj => ?_) hone
      ·rw [cell_of_heap q1]
       simp only [Option.isSome_iff_exists]
       exact ⟨_,Array.getElem?_eq_getElem (by omega)⟩
      ·have := q2 (i * s + fo + 0 + j) (by omega)
       simp only [World.frozen?,q1]
       simpa using fun h1 => Nat.le_of_not_lt fun h2 => this ⟨h1,h2⟩
     simp only [Nat.add_zero] at hrun
     simp only [Instr.storeAt,Instr.sureAddr,Sem.run_bind,Sem.run_pure,Result.andThen_ok,storeVar,D.run_sizeOf,hc1]
     have hsz : vs.toArray.size = d.size := by simp; omega
     rw [if_neg (by simpa using hsz)]
     simpa [Sg.write] using hrun
    split at h
    ·rename_i e he
     have hil := (List.getElem?_eq_some_iff.1 he).1
     split at h
     ·rename_i hle
      cases h
      have hm : σ.h m = some (.cells es s fz) := by rw [← hf _ _ _ rfl m (by simp)]; exact ho
      obtain ⟨arr,t0,rg,full,q1,qj,q2,q3,q4,q5,q6,q7⟩ := sr.obj m _ hm
      have hel := q4 e (List.mem_of_getElem? he)
      have hfl := flatten_length q4
      have hspl : (splice e fo cs).length = s := by simp [splice]; omega
      refine ⟨_,m,_,rfl,rfl,fin _ (i * s + fo) hm ?_ ?_ ?_ (by simp) ?_ rfl⟩
      ·have hset : es.set i (splice e fo cs) = es.take i ++ splice e fo cs :: es.drop (i + 1) := List.set_eq_take_append_cons_drop.trans (by simp [hil])
       have hes : es = es.take i ++ e :: es.drop (i + 1) := by
        rw [← (List.getElem?_eq_some_iff.1 he).2,List.getElem_cons_drop hil,List.take_append_drop]
       have htl : (es.take i).flatten.length = i * s := by rw [flatten_take i q4,List.length_take]; have := Nat.mul_le_mul_right s (Nat.le_of_lt hil); omega
       have key : ∀ (A B C : List AV),A.length = i * s → B.length = s → A ++ splice B fo cs ++ C = (A ++ B ++ C).take (i * s + fo) ++ cs ++ (A ++ B ++ C).drop (i * s + fo + cs.length) := by
        intro A B C hA hB
        rw [List.append_assoc A B C,List.take_append,List.drop_append,List.take_append,List.drop_append,hA,hB]
        rw [List.take_of_length_le (by omega),List.drop_of_length_le (show A.length ≤ i * s + fo + cs.length by omega)]
        rw [show i * s + fo - i * s = fo by omega,show i * s + fo + cs.length - i * s = fo + cs.length by omega,show fo - s = 0 by omega,show fo + cs.length - s = 0 by omega]
        simp [splice,List.append_assoc]
       rw [hset]
       have e1 : (es.take i ++ splice e fo cs :: es.drop (i + 1)).flatten = (es.take i).flatten ++ splice e fo cs ++ (es.drop (i + 1)).flatten := by simp
       have e2 : es.flatten = (es.take i).flatten ++ e ++ (es.drop (i + 1)).flatten := by
        conv => lhs; rw [hes]
        simp [List.append_assoc]
       rw [e1,key _ _ _ htl hel,← e2]
      ·rw [hfl]
       have := Nat.mul_le_mul_right s (show i + 1 ≤ es.length by omega)
       rw [Nat.succ_mul] at this
       omega
      ·exact Nat.le_trans (Nat.mul_le_mul_right s hfz) (Nat.le_add_right _ _)
      ·intro x hx
       rcases List.mem_or_eq_of_mem_set hx with hx | rfl
       ·exact q4 x hx
       ·exact hspl
     ·split at h
      ·rename_i hsp
       obtain ⟨hfo,hs0,hmod,hig⟩ := hsp
       cases h
       subst hfo
       have hm : σ.h m = some (.cells es s fz) := by rw [← hf _ _ _ rfl m (by simp)]; exact ho
       obtain ⟨arr,t0,rg,full,q1,qj,q2,q3,q4,q5,q6,q7⟩ := sr.obj m _ hm
       have hfl := flatten_length q4
       have hks : cs.length = d.size / s * s := by
        have := Nat.div_add_mod d.size s
        rw [hmod,Nat.mul_comm] at this
        omega
       have hb := Nat.mul_le_mul_right s hig
       rw [Nat.add_mul] at hb
       refine ⟨_,m,_,rfl,rfl,fin _ (i * s) hm ?_ ?_ ?_ ?_ ?_ (by omega)⟩
       ·rw [List.flatten_append,List.flatten_append,chunks_flatten s _ _ hks,flatten_take i q4,flatten_drop _ q4,hks,Nat.add_mul]
       ·rw [hfl,hks,hg]; omega
       ·exact Nat.mul_le_mul_right s hfz
       ·simp [chunks_length]; omega
       ·intro x hx
        simp only [List.mem_append] at hx
        rcases hx with (hx | hx) | hx
        ·exact q4 x (List.mem_of_mem_take hx)
        ·exact chunks_all s _ _ hks x hx
        ·exact q4 x (List.mem_of_mem_drop hx)
      ·cases h
    ·cases h
   ·cases h
  ·cases h
 ·cases h
end Go.Abs
end
section
namespace Go.Abs
variable {P : Program} {tab : Tab} {σ : Sg}
theorem range_repeat {s : Nat} (zl : List Value) (hz : zl.length = s) : ∀ n,(List.range (n * s)).map (fun j => zl.toArray[j % zl.toArray.size]!) = (List.replicate n zl).flatten
 | 0 => by simp
 | n + 1 => by
  rw [Nat.succ_mul,Nat.add_comm (n * s) s,List.range_add,List.map_append,List.replicate_succ,List.flatten_cons,List.map_map]
  have hsz : zl.toArray.size = s := by simpa using hz
  congr 1
  ·apply List.ext_getElem?
   intro j
   rw [List.getElem?_map]
   by_cases hj : j < s
   ·have h1 : j < zl.length := by omega
    rw [List.getElem?_range hj]
    simp only [Option.map_some,hsz,Nat.mod_eq_of_lt hj]
    simp [h1]
   ·rw [List.getElem?_eq_none (by simp; omega),List.getElem?_eq_none (by omega)]
    rfl
  ·rw [← range_repeat zl hz n]
   apply List.map_congr_left
   intro j _
   simp only [Function.comp,hsz,Nat.add_mod_left]
theorem replicate_vr {l : List Value} (h : l.all scalarB = true) : ∀ n,VRs σ (List.replicate n (l.map AV.sc)).flatten (List.replicate n l).flatten
 | 0 => .nil
 | n + 1 => by
  simp only [List.replicate_succ,List.flatten_cons]
  exact (vrs_sc l h).append (replicate_vr h n)
theorem flatten_set {s : Nat} {es : List (List AV)} (hs : ∀ e ∈ es,e.length = s) {i : Nat} (hi : i < es.length) {c : List AV} (hc : c.length = s) :
  (es.set i c).flatten = es.flatten.take (i * s) ++ c ++ es.flatten.drop (i * s + c.length) := by
 rw [List.set_eq_take_append_cons_drop,if_pos hi,List.flatten_append,List.flatten_cons,flatten_take i hs,flatten_drop (i + 1) hs,Nat.succ_mul,hc,List.append_assoc]
theorem setParts_fill {s : Nat} : ∀ {ps : List (Nat × AV)} {es es' : List (List AV)},setParts s es ps = some es' → (∀ e ∈ es,e.length = s) →
  fillParts (fun i => some (i * s,s)) es.flatten ps = some es'.flatten ∧ (∀ e ∈ es',e.length = s) ∧ es'.length = es.length
 | [],es,es',h,hs => by cases h; exact ⟨rfl,hs,rfl⟩
 | (i,v) :: r,es,es',h,hs => by
  simp only [setParts] at h
  split at h
  ·rename_i cs hcs
   split at h
   ·rename_i hcond
    obtain ⟨hl,hi⟩ := hcond
    have hset : ∀ e ∈ es.set i cs,e.length = s := fun e he => by
     rcases List.mem_or_eq_of_mem_set he with he | rfl
     ·exact hs e he
     ·exact hl
    obtain ⟨h1,h2,h3⟩ := setParts_fill h hset
    refine ⟨?_,h2,by simpa using h3⟩
    have hfl := flatten_length hs
    have := Nat.mul_le_mul_right s (show i + 1 ≤ es.length by omega)
    rw [Nat.succ_mul] at this
    simp only [fillParts,hcs]
    rw [if_pos ⟨hl,by omega⟩]
    rw [flatten_set hs hi hl] at h1
    exact h1
   ·cases h
  ·cases h
theorem buildSlice_ok (tabOk : TabOK P tab) (sr : SR σ) {st : Nat} (hfr : Fresh σ st) {t e : TypeId} (hu : P.underlying t = some (.slice e)) {de : TyD} (hde : tab e = some de) {len : Nat}
  (hc : len * de.size ≤ 2 ^ 20 ∧ de.zero.length = de.size ∧ de.size ≠ 0) {aps : List (Nat × AV)} {ps : Array (Nat × Value)} (h1 : aps.map (·.1) = ps.toList.map (·.1))
  (h2 : VRs σ (aps.map (·.2)) (ps.toList.map (·.2))) {es : List (List AV)} (h : setParts de.size (List.replicate len (de.zero.map .sc)) aps = some es) :
  Md P (Instr.buildSlice t len ps) σ (.sl st len 0 len (some len)) (upd σ.h st (some (.cells es de.size 0))) := by
 have De := tabOk e de hde
 obtain ⟨z,hz,hzc,_⟩ := De.run_zero σ.w
 obtain ⟨hf,hall,hlen⟩ := setParts_fill h (fun x hx => by rw [List.eq_of_mem_replicate hx]; simpa using hc.2.1)
 rw [List.length_replicate] at hlen
 let arr0 : Array Value := (List.replicate len de.zero).flatten.toArray
 obtain ⟨arr',ha,hb,_⟩ := fill_vr h1 h2 (arr := arr0) (by simpa [arr0] using replicate_vr De.zsc len) hf
 obtain ⟨σ',w1,w2,w3,l,sr',hr,hblk⟩ := make_md sr hfr es de.size [] e hb hall
 refine ⟨σ',.slice (some ⟨σ.w.heap.size,0,none⟩) len len,?_,w2,w3,l,sr',?_⟩
 ·have hzl : z.cells.toList.length = de.size := by rw [hzc]; exact hc.2.1
  have e0 : (Array.range (len * de.size)).map (fun x => z.cells[x % z.cells.size]!) = arr0 := by
   apply Array.ext'
   rw [Array.toList_map,Array.toList_range]
   have := range_repeat (s := de.size) z.cells.toList hzl len
   rw [show z.cells.toList.toArray = z.cells from Array.toArray_toList] at this
   rw [this,hzc]
  have e1 : (Array.range (len * de.size)).map (fun x => (if len * de.size = 0 then #[] else z.cells)[x % (if len * de.size = 0 then #[] else z.cells).size]!) = arr0 := by
   split
   ·rename_i h0
    have : len = 0 := by
     rcases Nat.mul_eq_zero.1 h0 with h | h
     ·exact h
     ·exact absurd h hc.2.2
    subst this
    simp [arr0]
   ·exact e0
  unfold Instr.buildSlice
  simp only [Sem.run_bind,run_under hu,Result.andThen_ok,De.run_sizeOf]
  rw [if_neg (by omega)]
  by_cases h0 : len * de.size = 0
  ·rw [if_pos h0] at e1 ⊢
   simp only [Sem.run_bind,Sem.run_pure,Result.andThen_ok,e1,ha,newRow,run_newObj,w1,List.append_nil,Array.toArray_toList]
   rfl
  ·rw [if_neg h0] at e1 ⊢
   simp only [Sem.run_bind,Sem.run_pure,Result.andThen_ok,hz,e1,ha,newRow,run_newObj,w1,List.append_nil,Array.toArray_toList]
   rfl
 ·have hlen' := hb.length
  rw [flatten_length hall,hlen] at hlen'
  have := VR.sl (σ := σ') (n := st) (off := 0) (len := len) (cap' := len) (cap := some len) (es := es) (s := de.size) (fz := 0) (by rw [w2]; exact upd_same _ _ _) hblk (by omega)
   (by simp only [List.append_nil,List.size_toArray,Nat.zero_add]; omega) (Nat.le_refl _) ⟨fun c e => by cases e; exact ⟨rfl,by omega⟩,fun e => by cases e⟩
  rw [hr,hlen] at this
  simpa using this
theorem makeMap_ok (sr : SR σ) {st : Nat} (hfr : Fresh σ st) {t kt et : TypeId} (hu : P.underlying t = some (.map kt et)) {r : Option Value} (hr : ∀ v,r = some v → ∃ k n,v = .int k n) :
  Md P (Instr.makeMap t r) σ (.mp st) (upd σ.h st (some (.map [] [] [] 0 false))) := by
 obtain ⟨l,sr'⟩ := new_map sr hfr.2 hfr.1
 refine ⟨σ.make st (.map #[] 0) (.map [] [] [] 0 false),.map (some σ.w.heap.size),?_,rfl,rfl,l,sr',?_⟩
 ·have fin : (do pure (.map (some (← newObj (.map #[] 0)))) : Sem Value).run P σ.w = .ok (.map (some σ.w.heap.size)) (σ.w.alloc (.map #[] 0)) := by
   simp only [Sem.run_bind,run_newObj,Result.andThen_ok,Sem.run_pure]; rfl
  cases r with
  | none => exact fin
  | some v =>
   obtain ⟨k,n,rfl⟩ := hr v rfl
   unfold Instr.makeMap
   simp only [Sem.run_bind,run_under hu,Result.andThen_ok,asInt,asIntOf,Sem.run_pure,run_newObj]
   rfl
 ·have := VR.mp (σ := σ.make st (.map #[] 0) (.map [] [] [] 0 false)) (n := st) (upd_same _ _ _)
  rwa [show (σ.make st (.map #[] 0) (.map [] [] [] 0 false)).r st = σ.w.heap.size from upd_same _ _ _] at this
theorem makeSlice_ok (tabOk : TabOK P tab) (sr : SR σ) {st : Nat} (hfr : Fresh σ st) {t e : TypeId} (hu : P.underlying t = some (.slice e)) {de : TyD} (hde : tab e = some de) {li ci : Int} {lk ck : IntKind}
  (hc : 0 ≤ li ∧ li ≤ ci ∧ ci ≤ 2 ^ 40 ∧ de.bytes * ci ≤ 2 ^ 47 ∧ de.zero.length = de.size) :
  Md P (Instr.makeSlice t (.int lk li) (.int ck ci)) σ (.sl st li.toNat 0 li.toNat (if li = ci then some li.toNat else none)) (upd σ.h st (some (.cells (List.replicate li.toNat (de.zero.map .sc)) de.size 0))) := by
 have De := tabOk e de hde
 obtain ⟨z,hz,hzc,_⟩ := De.run_zero σ.w
 obtain ⟨i,hi,hisz,hib⟩ := De.run_info σ.w
 obtain ⟨h0,hle,h40,h47,hzl0⟩ := hc
 have hall : ∀ x ∈ List.replicate li.toNat (de.zero.map AV.sc),x.length = de.size := fun x hx => by rw [List.eq_of_mem_replicate hx]; simpa using hzl0
 have hallc : ∀ x ∈ List.replicate ci.toNat (de.zero.map AV.sc),x.length = de.size := fun x hx => by rw [List.eq_of_mem_replicate hx]; simpa using hzl0
 obtain ⟨σ',w1,w2,w3,l,sr',hr,hblk⟩ := make_md sr hfr (List.replicate li.toNat (de.zero.map .sc)) de.size (List.replicate (ci.toNat - li.toNat) de.zero).flatten e (replicate_vr De.zsc li.toNat) hall
 have happ : (List.replicate li.toNat de.zero).flatten ++ (List.replicate (ci.toNat - li.toNat) de.zero).flatten = (List.replicate ci.toNat de.zero).flatten := by
  rw [← List.flatten_append,List.replicate_append_replicate,show li.toNat + (ci.toNat - li.toNat) = ci.toNat by omega]
 refine ⟨σ',.slice (some ⟨σ.w.heap.size,0,none⟩) li.toNat ci.toNat,?_,w2,w3,l,sr',?_⟩
 ·have hzl : z.cells.toList.length = de.size := by rw [hzc]; exact hzl0
  have wr : ∀ x : Int,0 ≤ x → x ≤ 2 ^ 40 → IntKind.i64.wrap x = x := fun x h1 h2 => by
   rw [show IntKind.i64.wrap x = if x % 18446744073709551616 ≥ 9223372036854775808 then x % 18446744073709551616 - 18446744073709551616 else x % 18446744073709551616 by simp [IntKind.wrap,IntKind.bits,IntKind.signed]]
   split <;> omega
  have e1 : (Array.range (ci.toNat * de.size)).map (fun x => (if ci.toNat * de.size = 0 then #[] else z.cells)[x % (if ci.toNat * de.size = 0 then #[] else z.cells).size]!) = ((List.replicate li.toNat de.zero).flatten ++ (List.replicate (ci.toNat - li.toNat) de.zero).flatten).toArray := by
   rw [happ]
   split
   ·rename_i hq
    have : (List.replicate ci.toNat de.zero).flatten = [] := by
     apply List.eq_nil_of_length_eq_zero
     have := (replicate_vr (σ := σ) De.zsc ci.toNat).length
     rw [flatten_length hallc,List.length_replicate] at this
     omega
    rw [this,hq]
    simp
   ·apply Array.ext'
    rw [Array.toList_map,Array.toList_range]
    have := range_repeat (s := de.size) z.cells.toList hzl ci.toNat
    rw [show z.cells.toList.toArray = z.cells from Array.toArray_toList] at this
    rw [this,hzc]
  have tl : ∀ x : Int,0 ≤ x → x ≤ ci → (decide (x < 0) || decide ((i.bytes : Int) * x > 2 ^ 48)) = false := by
   intro x h1 h2
   have h3 : (i.bytes : Int) * x ≤ (i.bytes : Int) * ci := Int.mul_le_mul_of_nonneg_left h2 (by omega)
   rw [hib] at h3 ⊢
   simp
   omega
  unfold Instr.makeSlice
  simp only [Sem.run_bind,run_under hu,Result.andThen_ok,asInt,asIntOf,Sem.run_pure,hi,wr li h0 (by omega),wr ci (by omega) h40]
  have hcnd : ((decide (ci < 0) || decide ((i.bytes : Int) * ci > 2 ^ 48)) || decide (li < 0) || decide (li > ci)) = false := by
   rw [tl ci (by omega) (Int.le_refl _)]
   simp
   omega
  simp only [hcnd,Bool.false_eq_true,if_false,Sem.run_bind,run_askRoom,Result.andThen_ok,De.run_sizeOf]
  by_cases h0 : ci.toNat * de.size = 0
  ·rw [if_pos h0] at e1 ⊢
   simp only [Sem.run_bind,Sem.run_pure,Result.andThen_ok,e1,newRow,run_newObj,w1]
   rfl
  ·rw [if_neg h0] at e1 ⊢
   simp only [Sem.run_bind,Sem.run_pure,Result.andThen_ok,hz,e1,newRow,run_newObj,w1]
   rfl
 ·have hlen' := (replicate_vr (σ := σ) De.zsc ci.toNat).length
  rw [flatten_length hallc,List.length_replicate] at hlen'
  rw [happ] at hblk
  have := VR.sl (σ := σ') (n := st) (off := 0) (len := li.toNat) (cap' := ci.toNat) (cap := if li = ci then some li.toNat else none) (s := de.size) (fz := 0) (by rw [w2]; exact upd_same _ _ _) hblk (by simp)
   (by simp only [List.size_toArray,Nat.zero_add]; omega) (by omega) ⟨fun c e => by
    split at e
    ·rename_i hq; cases e; subst hq; exact ⟨rfl,by simp⟩
    ·(cases e),fun _ => by rw [List.length_replicate]; omega⟩
  rw [hr,List.length_replicate] at this
  simpa using this
end Go.Abs
end
section
namespace Go.Abs
variable {P : Program} {tab : Tab} {σ : Sg}
theorem ba_eq {a b : ByteArray} (h : (a == b) = true) : a = b := by
 obtain ⟨a⟩ := a
 obtain ⟨b⟩ := b
 have : (a == b) = true := h
 rw [eq_of_beq this]
theorem ba_refl (a : ByteArray) : (a == a) = true := by
 obtain ⟨a⟩ := a
 show (a == a) = true
 simp
theorem sameKey_eq {a b : Value} (h : sameKey a b = some true) : a = b := by
 unfold sameKey at h
 split at h
 ·split at h
  ·rename_i hk
   simp only [Option.some.injEq,beq_iff_eq] at h
   rw [hk,h]
  ·cases h
 ·simp only [Option.some.injEq] at h
  rw [ba_eq h]
 ·simp only [Option.some.injEq,beq_iff_eq] at h
  rw [h]
 ·cases h
theorem sameBits_key {kv x : Value} (h : sameKey kv x = some true) (n : Nat) : Instr.sameBits n x kv = true := by
 have e := sameKey_eq h
 subst e
 unfold sameKey at h
 split at h
 ·simp [Instr.sameBits]
 ·simp [Instr.sameBits,ba_refl]
 ·simp [Instr.sameBits]
 ·cases h
theorem run_setObj {r : Nat} {es : Array MapEntry} {clock : Nat} {w : World} (h : w.heap[r]? = some (.map es clock)) (o : Obj) : (setObj r o).run P w = .ok () { w with heap := w.heap.setIfInBounds r o } := by
 simp [setObj,Sem.run,h]
theorem map_modify_same {α β : Type} (f : α → β) (g : α → α) : ∀ (l : List α) (i : Nat),(∀ a,l[i]? = some a → f (g a) = f a) → (l.modify i g).map f = l.map f
 | [],_,_ => by simp
 | a :: r,0,h => by simp [h a rfl]
 | a :: r,i + 1,h => by simp [map_modify_same f g r i (fun b hb => h b (by simpa using hb))]
theorem map_modify_set {α β : Type} (f : α → β) (g : α → α) (b : β) (h : ∀ a,f (g a) = b) : ∀ (l : List α) (i : Nat),(l.modify i g).map f = (l.map f).set i b
 | [],_ => by simp
 | a :: r,0 => by simp [h]
 | a :: r,i + 1 => by simp [map_modify_set f g b h r i]
theorem find_entry {kt : TypeId} {u : TypeDesc} {kv : Value} (huk : P.underlying kt = some u) (hsame : ∀ x r,sameKey kv x = some r → Instr.sameNow u kv x = some r) {ks vs : List Value} {es : Array MapEntry} (he : Ents ks vs es)
  {i : Nat} (h : findK kv ks 0 = some (some i)) (w : World) : ∃ e,es[i]? = some e ∧ (Instr.findKey kt kv es.toList).run P w = .ok (some (i,e.val)) w ∧ e.key = kv ∧ vs[i]? = some e.val := by
 obtain ⟨h1,h2⟩ := run_findKey huk hsame he h w
 obtain ⟨hi,x,hx,hsx⟩ := h2 i rfl
 have hes : ∃ e,es.toList[i]? = some e := by
  have : i < es.toList.length := by rw [← he.1] at hi; simpa using hi
  exact ⟨_,List.getElem?_eq_getElem this⟩
 obtain ⟨e,hee⟩ := hes
 have hv : vs[i]? = some e.val := by rw [← he.2,List.getElem?_map,hee]; rfl
 have hk : ks[i]? = some e.key := by rw [← he.1,List.getElem?_map,hee]; rfl
 rw [hx] at hk
 cases hk
 refine ⟨e,by rw [← Array.getElem?_toList]; exact hee,?_,(sameKey_eq hsx).symm,hv⟩
 rw [h1]
 simp [hv]
theorem update_ok (tabOk : TabOK P tab) (sr : SR σ) {H : Heap} {t : TypeId} {d : TyD} (hd : tab t = some d) {m k x : AV} {mv kv xv : Value} (hm : VR σ m mv) (hk : VR σ k kv) (hx : VR σ x xv) {r : Res}
  (h : updateA tab H d m k x = some r) (hf : Foot H σ r) : ∃ rd n o,r.e = .loc rd [(n,o)] 0 ∧ r.v = undefA ∧ MdU P (Instr.mapUpdate t mv kv xv) σ (upd σ.h n (some o)) := by
 have D := tabOk t d hd
 have hu := D.under
 unfold updateA at h
 split at h
 ·rename_i kt et hkk
  simp only [KOK,hkk] at hu
  split at h
  ·rename_i dk hdk
   have Dk := tabOk kt dk hdk
   split at h
   ·rename_i n kv0 hkv
    obtain ⟨rfl,hchk,u,huk,hsame⟩ := keyA_vr tabOk Dk hkv hk
    split at h
    ·rename_i ks vs bs clock ho
     have main : σ.h n = some (.map ks vs bs clock false) → ∀ (ks' : List Value) (vs' : List AV) (bs' : List Nat) (clock' : Nat) (es' : Array MapEntry) (vv : List Value),VRs σ vs' vv → Ents ks' vv es' → es'.toList.map (·.born) = bs' →
       (∀ ents,σ.w.heap[σ.r n]? = some (.map ents clock) → (Instr.mapUpdate t mv kv xv).run P σ.w = .ok () { σ.w with heap := σ.w.heap.setIfInBounds (σ.r n) (.map es' clock') }) →
       MdU P (Instr.mapUpdate t mv kv xv) σ (upd σ.h n (some (.map ks' vs' bs' clock' false))) := by
      intro hn ks' vs' bs' clock' es' vv h1 h2 h3 h4
      obtain ⟨ents,vs0,q1,_⟩ := sr.obj n _ hn
      obtain ⟨l,sr'⟩ := write_map sr hn (clock' := clock') h1 h2 h3
      exact ⟨σ.setMap n es' clock' (.map ks' vs' bs' clock' false),h4 ents q1,rfl,rfl,l,sr'⟩
     split at h
     ·rename_i i hfk
      split at h
      ·rename_i hi
       cases h
       have hn : σ.h n = some (.map ks vs bs clock false) := by rw [← hf _ _ _ rfl n (by simp)]; exact ho
       refine ⟨_,n,_,rfl,rfl,?_⟩
       obtain ⟨ents,vs0,q1,q2,q3,q4,q5⟩ := sr.obj n _ hn
       obtain ⟨e,he,hrun,hek,hev⟩ := find_entry huk hsame q3 hfk σ.w
       refine main hn ks (vs.set i x) bs clock (ents.modify i fun e => { e with key := kv,val := xv }) (vs0.set i xv) (q2.set i hx) ⟨?_,?_⟩ ?_ (fun ents' he' => ?_)
       ·rw [Array.toList_modify,map_modify_same MapEntry.key _ _ _ (fun a ha => by
         rw [Array.getElem?_toList,he] at ha; cases ha; exact hek.symm)]
        exact q3.1
       ·rw [Array.toList_modify,map_modify_set MapEntry.val _ xv (fun _ => rfl),q3.2]
       ·rw [Array.toList_modify,map_modify_same MapEntry.born _ _ _ (by intros; rfl)]
        exact q4
       ·rw [q1] at he'
        cases he'
        have hst : (Instr.keyThatStays (((ents[i]?).map (·.key)).getD kv) kv).run P σ.w = .ok kv σ.w := by
         rw [he]
         simp only [Option.map_some,Option.getD_some,hek,Instr.keyThatStays]
         have : sameKey kv kv = some true := by
          obtain ⟨_,h2⟩ := run_findKey (P := P) huk hsame q3 hfk σ.w
          obtain ⟨_,y,_,hy⟩ := h2 i rfl
          have := sameKey_eq hy
          rwa [← this] at hy
         rw [if_pos (sameBits_key this _)]
         rfl
        rw [hm.mp_inv sr hn]
        simp only [Instr.mapUpdate,Sem.run_bind,run_under hu,Result.andThen_ok,run_getObj_map q1,hchk,hrun,hst,run_setObj q1]
      ·cases h
     ·rename_i hfk
      cases h
      have hn : σ.h n = some (.map ks vs bs clock false) := by rw [← hf _ _ _ rfl n (by simp)]; exact ho
      refine ⟨_,n,_,rfl,rfl,?_⟩
      obtain ⟨ents,vs0,q1,q2,q3,q4,q5⟩ := sr.obj n _ hn
      obtain ⟨hrun,_⟩ := run_findKey (P := P) huk hsame q3 hfk σ.w
      refine main hn (ks ++ [kv]) (vs ++ [x]) (bs ++ [clock]) (clock + 1) (ents.push { key := kv,val := xv,born := clock }) (vs0 ++ [xv]) (q2.append (VRs.one hx)) ⟨by simp [q3.1],by simp [q3.2]⟩ (by simp [q4]) (fun ents' he' => ?_)
      rw [q1] at he'
      cases he'
      rw [hm.mp_inv sr hn]
      simp only [Instr.mapUpdate,Sem.run_bind,run_under hu,Result.andThen_ok,run_getObj_map q1,hchk,hrun,Option.bind_none,run_setObj q1]
     ·cases h
    ·cases h
   ·cases h
  ·cases h
 ·cases h
theorem entry_ok (tabOk : TabOK P tab) (sr : SR σ) {H : Heap} {t : TypeId} {d : TyD} (hd : tab t = some d) {m k : AV} {mv kv : Value} (hm : VR σ m mv) (hk : VR σ k kv) {r : Res}
  (h : entryA tab H d m k = some r) (hf : Foot H σ r) : ∃ rd n o,r.e = .loc rd [(n,o)] 0 ∧ Md P (Instr.mapEntry t mv kv) σ r.v (upd σ.h n (some o)) := by
 have D := tabOk t d hd
 have hu := D.under
 unfold entryA at h
 split at h
 ·rename_i kt et hkk
  simp only [KOK,hkk] at hu
  split at h
  ·rename_i dk de hdk hde
   have Dk := tabOk kt dk hdk
   have De := tabOk et de hde
   split at h
   ·rename_i n kv0 hkv
    obtain ⟨rfl,hchk,u,huk,hsame⟩ := keyA_vr tabOk Dk hkv hk
    split at h
    ·rename_i ks vs bs clock ho
     have main : σ.h n = some (.map ks vs bs clock false) → ∀ (ks' : List Value) (vs' : List AV) (bs' : List Nat) (clock' : Nat) (es' : Array MapEntry) (vv : List Value) (z : AV) (zv : Value),VRs σ vs' vv → Ents ks' vv es' → es'.toList.map (·.born) = bs' → VR σ z zv →
       (∀ ents,σ.w.heap[σ.r n]? = some (.map ents clock) → (Instr.mapEntry t mv kv).run P σ.w = .ok zv { σ.w with heap := σ.w.heap.setIfInBounds (σ.r n) (.map es' clock') }) →
       Md P (Instr.mapEntry t mv kv) σ z (upd σ.h n (some (.map ks' vs' bs' clock' false))) := by
      intro hn ks' vs' bs' clock' es' vv z zv h1 h2 h3 hz h4
      obtain ⟨ents,vs0,q1,_⟩ := sr.obj n _ hn
      obtain ⟨l,sr'⟩ := write_map sr hn (clock' := clock') h1 h2 h3
      exact ⟨σ.setMap n es' clock' (.map ks' vs' bs' clock' false),zv,h4 ents q1,rfl,rfl,l,sr',hz.mono l⟩
     split at h
     ·rename_i i hfk
      split at h
      ·rename_i v b hv hb
       cases h
       have hn : σ.h n = some (.map ks vs bs clock false) := by rw [← hf _ _ _ rfl n (by simp)]; exact ho
       refine ⟨_,n,_,rfl,?_⟩
       obtain ⟨ents,vs0,q1,q2,q3,q4,q5⟩ := sr.obj n _ hn
       obtain ⟨e,he,hrun,hek,hev⟩ := find_entry huk hsame q3 hfk σ.w
       obtain ⟨y,hy,hyv⟩ := q2.get hv
       rw [hev] at hy
       cases hy
       have hborn : e.born = b := by
        have : (ents.toList.map (·.born))[i]? = some e.born := by rw [List.getElem?_map,Array.getElem?_toList,he]; rfl
        rw [q4,hb] at this
        cases this; rfl
       refine main hn ks vs bs clock (ents.modify i fun e => { e with key := kv }) vs0 _ (.tuple #[e.val,goInt b]) q2 ⟨?_,?_⟩ ?_ (.tup (ds := [e.val,goInt b]) (.cons hyv (.cons (.tree (.sc rfl)) .nil))) (fun ents' he' => ?_)
       ·rw [Array.toList_modify,map_modify_same MapEntry.key _ _ _ (fun a ha => by
         rw [Array.getElem?_toList,he] at ha; cases ha; exact hek.symm)]
        exact q3.1
       ·rw [Array.toList_modify,map_modify_same MapEntry.val _ _ _ (by intros; rfl)]
        exact q3.2
       ·rw [Array.toList_modify,map_modify_same MapEntry.born _ _ _ (by intros; rfl)]
        exact q4
       ·rw [q1] at he'
        cases he'
        have hst : (Instr.keyThatStays (((ents[i]?).map (·.key)).getD kv) kv).run P σ.w = .ok kv σ.w := by
         rw [he]
         simp only [Option.map_some,Option.getD_some,hek,Instr.keyThatStays]
         have : sameKey kv kv = some true := by
          obtain ⟨_,h2⟩ := run_findKey (P := P) huk hsame q3 hfk σ.w
          obtain ⟨_,y,_,hy⟩ := h2 i rfl
          have := sameKey_eq hy
          rwa [← this] at hy
         rw [if_pos (sameBits_key this _)]
         rfl
        rw [hm.mp_inv sr hn]
        simp only [Instr.mapEntry,Sem.run_bind,run_under hu,Result.andThen_ok,run_getObj_map q1,hchk,hrun,hst,run_setObj q1,Sem.run_pure]
        rw [he]
        simp [hborn]
      ·cases h
     ·rename_i hfk
      split at h
      ·rename_i z hz
       cases h
       have hn : σ.h n = some (.map ks vs bs clock false) := by rw [← hf _ _ _ rfl n (by simp)]; exact ho
       refine ⟨_,n,_,rfl,?_⟩
       obtain ⟨ents,vs0,q1,q2,q3,q4,q5⟩ := sr.obj n _ hn
       obtain ⟨hrun,_⟩ := run_findKey (P := P) huk hsame q3 hfk σ.w
       obtain ⟨zv,hzr,hzv⟩ := zeroOf_vr (σ := σ) De hz
       refine main hn (ks ++ [kv]) (vs ++ [z]) (bs ++ [clock]) (clock + 1) (ents.push { key := kv,val := zv,born := clock }) (vs0 ++ [zv]) _ (.tuple #[zv,goInt clock]) (q2.append (VRs.one hzv)) ⟨by simp [q3.1],by simp [q3.2]⟩ (by simp [q4])
        (.tup (ds := [zv,goInt clock]) (.cons hzv (.cons (.tree (.sc rfl)) .nil))) (fun ents' he' => ?_)
       rw [q1] at he'
       cases he'
       rw [hm.mp_inv sr hn]
       simp only [Instr.mapEntry,Sem.run_bind,run_under hu,Result.andThen_ok,run_getObj_map q1,hchk,hrun,Option.bind_none,hzr,run_setObj q1,Sem.run_pure]
      ·cases h
     ·cases h
    ·cases h
   ·cases h
  ·cases h
 ·cases h
theorem findIdx_born : ∀ (es : List MapEntry) (bs : List Nat) (b : Int),es.map (·.born) = bs → es.findIdx? (fun e => (e.born : Int) == b) = bs.findIdx? (fun c : Nat => Int.ofNat c == b)
 | [],_,_,rfl => rfl
 | e :: es,_,b,rfl => by
  simp only [List.map_cons,List.findIdx?_cons]
  rw [findIdx_born es _ b rfl]
  rfl
theorem entryStore_ok (sr : SR σ) {H : Heap} {t : TypeId} {m s x : AV} {mv sv xv : Value} (hm : VR σ m mv) (hs : VR σ s sv) (hx : VR σ x xv) {r : Res}
  (h : entryStoreA H m s x = some r) (hf : Foot H σ r) : ∃ rd n o,r.e = .loc rd [(n,o)] 0 ∧ r.v = undefA ∧ MdU P (Instr.entryStore t mv sv xv) σ (upd σ.h n (some o)) := by
 unfold entryStoreA at h
 split at h
 ·rename_i n b hb
  split at h
  ·rename_i ks vs bs clock ho
   split at h
   ·rename_i i hi
    split at h
    ·rename_i hlt
     cases h
     have hn : σ.h n = some (.map ks vs bs clock false) := by rw [← hf _ _ _ rfl n (by simp)]; exact ho
     refine ⟨_,n,_,rfl,rfl,?_⟩
     obtain ⟨ents,vs0,q1,q2,q3,q4,q5⟩ := sr.obj n _ hn
     obtain ⟨k,rfl,rfl⟩ := hs.int_inv hb
     have h2 : Ents ks (vs0.set i xv) (ents.modify i fun e => { e with val := xv }) := by
      refine ⟨?_,?_⟩
      ·rw [Array.toList_modify,map_modify_same MapEntry.key _ _ _ (by intros; rfl)]; exact q3.1
      ·rw [Array.toList_modify,map_modify_set MapEntry.val _ xv (fun _ => rfl),q3.2]
     obtain ⟨l,sr'⟩ := write_map sr hn (clock' := clock) (q2.set i hx) h2 (bs' := bs) (by rw [Array.toList_modify,map_modify_same MapEntry.born _ _ _ (by intros; rfl)]; exact q4)
     refine ⟨σ.setMap n (ents.modify i fun e => { e with val := xv }) clock (.map ks (vs.set i x) bs clock false),?_,rfl,rfl,l,sr'⟩
     rw [hm.mp_inv sr hn]
     have hfi : ents.findIdx? (fun e => (e.born : Int) == b) = some i := by
      have := List.findIdx?_toArray (fun e : MapEntry => (e.born : Int) == b) ents.toList
      rw [Array.toArray_toList] at this
      rw [this,findIdx_born _ _ _ q4]
      exact hi
     simp only [Instr.entryStore,Sem.run_bind,run_getObj_map q1,Result.andThen_ok,asInt,asIntOf,Sem.run_pure,hfi,run_setObj q1]
     rfl
    ·cases h
   ·cases h
  ·cases h
 ·cases h
theorem delete_ok (tabOk : TabOK P tab) (sr : SR σ) {H : Heap} {t : TypeId} {d : TyD} (hd : tab t = some d) {m k : AV} {mv kv : Value} (hm : VR σ m mv) (hk : VR σ k kv) {r : Res} (ts : Array TypeId) (hts : ts[0]? = some t) (ty : TypeId)
  (h : deleteA tab H d m k = some r) (hf : Foot H σ r) : ∃ rd n o,r.e = .loc rd [(n,o)] 0 ∧ Md P (Builtin.delete_ ts ty #[mv,kv]) σ r.v (upd σ.h n (some o)) := by
 have D := tabOk t d hd
 have hu := D.under
 unfold deleteA at h
 split at h
 ·rename_i kt et hkk
  simp only [KOK,hkk] at hu
  split at h
  ·rename_i dk hdk
   have Dk := tabOk kt dk hdk
   split at h
   ·rename_i n kv0 hkv
    obtain ⟨rfl,hchk,u,huk,hsame⟩ := keyA_vr tabOk Dk hkv hk
    have e0 : (#[mv,kv] : Array Value)[0]? = some mv := rfl
    have e1 : (#[mv,kv] : Array Value)[1]? = some kv := rfl
    split at h
    ·rename_i ks vs bs clock ho
     split at h
     ·rename_i i hfk
      cases h
      have hn : σ.h n = some (.map ks vs bs clock false) := by rw [← hf _ _ _ rfl n (by simp)]; exact ho
      refine ⟨_,n,_,rfl,?_⟩
      obtain ⟨ents,vs0,q1,q2,q3,q4,q5⟩ := sr.obj n _ hn
      obtain ⟨e,he,hrun,hek,hev⟩ := find_entry huk hsame q3 hfk σ.w
      have era : ∀ {xs : List AV} {ds : List Value} (j : Nat),VRs σ xs ds → VRs σ (xs.eraseIdx j) (ds.eraseIdx j) := by
       intro xs ds j hh
       rw [List.eraseIdx_eq_take_drop_succ,List.eraseIdx_eq_take_drop_succ]
       exact (hh.take j).append (hh.drop (j + 1))
      have mapE : ∀ {β : Type} (f : MapEntry → β) (l : List MapEntry) (j : Nat),(l.eraseIdx j).map f = (l.map f).eraseIdx j := by
       intro β f l j
       rw [List.eraseIdx_eq_take_drop_succ,List.eraseIdx_eq_take_drop_succ,List.map_append,List.map_take,List.map_drop]
      obtain ⟨l,sr'⟩ := write_map sr hn (clock' := clock) (es' := ents.eraseIdxIfInBounds i) (era i q2) (ks' := ks.eraseIdx i) ⟨by rw [Array.toList_eraseIdxIfInBounds,mapE,q3.1],by rw [Array.toList_eraseIdxIfInBounds,mapE,q3.2]⟩ (bs' := bs.eraseIdx i)
       (by rw [Array.toList_eraseIdxIfInBounds,mapE,q4])
      refine ⟨σ.setMap n (ents.eraseIdxIfInBounds i) clock (.map (ks.eraseIdx i) (vs.eraseIdx i) (bs.eraseIdx i) clock false),_,?_,rfl,rfl,l,sr',.tree (.sc rfl)⟩
      rw [hm.mp_inv sr hn] at e0 e1 ⊢
      simp only [Builtin.delete_,hts,e0,e1,Sem.run_bind,run_under hu,Result.andThen_ok,run_getObj_map q1,hchk,hrun,run_setObj q1,Sem.run_pure]
      rfl
     ·rename_i hfk
      cases h
      have hn : σ.h n = some (.map ks vs bs clock false) := by rw [← hf _ _ _ rfl n (by simp)]; exact ho
      refine ⟨_,n,_,rfl,?_⟩
      obtain ⟨ents,vs0,q1,q2,q3,q4,q5⟩ := sr.obj n _ hn
      obtain ⟨hrun,_⟩ := run_findKey (P := P) huk hsame q3 hfk σ.w
      obtain ⟨l,sr'⟩ := write_map sr hn (clock' := clock) q2 q3 q4
      refine ⟨σ.setMap n ents clock (.map ks vs bs clock false),_,?_,rfl,rfl,l,sr',.tree (.sc rfl)⟩
      rw [hm.mp_inv sr hn] at e0 e1 ⊢
      simp only [Builtin.delete_,hts,e0,e1,Sem.run_bind,run_under hu,Result.andThen_ok,run_getObj_map q1,hchk,hrun,Option.bind_none,run_setObj q1,Sem.run_pure]
      rfl
     ·cases h
    ·cases h
   ·cases h
  ·cases h
 ·cases h
end Go.Abs
end
section
namespace Go.Abs
variable {P : Program} {tab : Tab} {σ : Sg}
structure Src (P : Program) (σ : Sg) (s : Nat) (xs : List (List AV)) (xv : Value) (vs : List Value) : Prop where
 len : ∀ w,(Builtin.lenOf xv).run P w = .ok xs.length w
 vrs : VRs σ xs.flatten vs
 all : ∀ e ∈ xs,e.length = s
 cells : ∀ k w,k ≤ xs.length → w.heap = σ.w.heap → (Builtin.firstCells s k xv).run P w = .ok (vs.take (k * s)).toArray w
theorem cell_heap {w w' : World} (h : w'.heap = w.heap) (a : Addr) : w'.cell? a = w.cell? a := by simp [World.cell?,h]
theorem run_loads {w : World} {b o : Nat} {vs : List Value} (h : w.rangeAt b o vs) (k : Nat) (hk : k ≤ vs.length) : (loadCells ⟨b,o,none⟩ k).run P w = .ok (vs.take k).toArray w := by
 have := run_loadCells_list (P := P) w ⟨b,o,none⟩ (vs.take k) (fun j v hv => by
  rw [Addr.add_mid]
  refine h j v ?_
  rw [List.getElem?_take] at hv
  split at hv
  ·exact hv
  ·cases hv)
 rwa [List.length_take,Nat.min_eq_left hk] at this
theorem run_loadsR {w w' : World} {I : Nat → Nat → Prop} {J : Nat → Prop} {es : List (List AV)} {a : Addr} {vs : List Value} (ht : TVs w I J es.flatten vs) (hr : es ≠ [] → Row w I a vs) (hw : w'.heap = w.heap) (k : Nat) (hk : k ≤ vs.length) : (loadCells a k).run P w' = .ok (vs.take k).toArray w' := by
 cases es with
 | nil =>
  cases ht
  cases Nat.le_zero.1 hk
  rfl
 | cons e es =>
  obtain ⟨b,o,sp⟩ := a
  obtain ⟨rfl,hr⟩ := hr (by simp)
  exact run_loads (fun j v hv => by rw [cell_heap hw]; exact (hr j v hv).2) k hk
theorem shown_src (sr : SR σ) {H : Heap} {s : Nat} {x : AV} {xv : Value} (hx : VR σ x xv) {xs : List (List AV)} {rd : List Nat} (h : shown H s x = some (xs,rd)) (hf : ∀ m ∈ rd,look H.objs m = σ.h m) :
  (∃ vs,Src P σ s xs xv vs) ∧ ∃ a l c,xv = .slice a l c := by
 unfold shown at h
 split at h
 ·cases h
  obtain ⟨rfl,_⟩ := hx.sc_inv
  exact ⟨⟨[],fun _ => rfl,.nil,by simp,fun k w _ _ => by simp only [Builtin.firstCells,List.take_nil]; rfl⟩,_,_,_,rfl⟩
 ·rename_i es c
  split at h
  ·rename_i hall
   cases h
   obtain ⟨a,vs,s',cap,rfl,ht,hr,hs,_,_⟩ := hx.isl_inv
   have hss : ∀ e ∈ xs,e.length = s := fun e he => by have := (List.all_eq_true.1 hall) e he; simpa using this
   refine ⟨⟨vs,fun _ => rfl,ht.vrs,hss,fun k w hk hw => ?_⟩,_,_,_,rfl⟩
   have hl := ht.length
   rw [flatten_length hss] at hl
   simp only [Builtin.firstCells]
   exact run_loadsR ht hr hw _ (by rw [hl]; exact Nat.mul_le_mul_right s hk)
  ·cases h
 ·rename_i n g off len cap
  split at h
  ·rename_i es s' fz ho
   split at h
   ·rename_i hcond
    obtain ⟨hg,hs,hol⟩ := hcond
    cases h
    subst hs
    have hn : σ.h n = some (.cells es s' fz) := by rw [← hf n (by simp)]; exact ho
    obtain ⟨cap',arr,t',rg,rfl,hw,hl,hr,hle,hcap⟩ := hx.sl_inv sr hn hg
    obtain ⟨arr0,t0,rg0,full,q1,qj,q2,q3,q4,q5,q6,q7⟩ := sr.obj n _ hn
    have hsub : ∀ e ∈ (es.drop off).take len,e.length = s' := fun e he => q4 e (List.mem_of_mem_drop (List.mem_of_mem_take he))
    have hv : VRs σ ((es.drop off).take len).flatten ((full.drop (off * s')).take (len * s')) := by
     rw [flatten_take len (fun e he => q4 e (List.mem_of_mem_drop he)),flatten_drop off q4]
     exact (q3.drop _).take _
    have hlen : ((es.drop off).take len).length = len := by simp; omega
    refine ⟨⟨_,fun _ => by rw [hlen]; rfl,hv,hsub,fun k w hk hw' => ?_⟩,_,_,_,rfl⟩
    have hvl := hv.length
    rw [flatten_length hsub,hlen] at hvl
    simp only [Builtin.firstCells]
    refine run_loads (fun j v hjv => ?_) _ (by rw [hvl]; exact Nat.mul_le_mul_right s' (by omega))
    rw [cell_heap hw',cell_of_heap q1]
    refine q6 _ v ?_
    rw [List.getElem?_take] at hjv
    split at hjv
    ·rw [List.getElem?_drop] at hjv; exact hjv
    ·cases hjv
   ·cases h
  ·cases h
 ·cases h
theorem string_src (x : ByteArray) : Src P σ 1 (bytesOf x) (.string x) (x.data.toList.map fun b => .int .u8 b.toNat) := by
 have hfl : (bytesOf x).flatten = x.data.toList.map fun b => AV.sc (.int .u8 b.toNat) := by
  unfold bytesOf
  induction x.data.toList with
  | nil => rfl
  | cons b r ih => simp [ih]
 have hlen : (bytesOf x).length = x.size := by
  show (x.data.toList.map _).length = x.data.size
  simp
 refine ⟨fun w => by rw [hlen]; rfl,?_,by simp [bytesOf],fun k w hk _ => ?_⟩
 ·rw [hfl]
  have : ∀ l : List UInt8,VRs σ (l.map fun b => AV.sc (.int .u8 b.toNat)) (l.map fun b => .int .u8 b.toNat) := by
   intro l
   induction l with
   | nil => exact .nil
   | cons b r ih => exact .cons (.tree (.sc rfl)) ih
  exact this _
 ·simp only [Builtin.firstCells,Sem.run_pure]
  congr 1
  apply Array.ext'
  rw [Array.toList_map,Nat.mul_one,List.toList_toArray,← List.map_take]
  congr 1
  simp [ByteArray.extract,ByteArray.copySlice]
theorem over_ok (sr : SR σ) {n g off len : Nat} {cap : Option Nat} {xv : Value} {es : List (List AV)} {s fz : Nat} (hx : VR σ (.sl n g off len cap) xv) (hn : σ.h n = some (.cells es s fz)) (hg : es.length = g)
  {new : List (List AV)} {vs : List Value} (hv : VRs σ new.flatten vs) (hall : ∀ e ∈ new,e.length = s) {at_ : Nat} (hat : at_ + new.length ≤ g) (hfz : fz ≤ at_) (hst : ∀ e ∈ new,e.all AV.storable = true) :
  ∃ σ',(∀ w,w.heap = σ.w.heap → (storeCells ⟨σ.r n,at_ * s,none⟩ vs 0).run P w = .ok () (w.setCells (σ.r n) (at_ * s) vs)) ∧ σ'.w = σ.w.setCells (σ.r n) (at_ * s) vs ∧
   σ'.h = upd σ.h n (some (.cells (es.take at_ ++ new ++ es.drop (at_ + new.length)) s fz)) ∧ σ'.dead = σ.dead ∧ σ'.r = σ.r ∧ Le σ σ' ∧ SR σ' := by
 obtain ⟨arr,t0,rg,full,q1,qj,q2,q3,q4,q5,q6,q7⟩ := sr.obj n _ hn
 have hfl := flatten_length q4
 have hfull := q3.length
 have hnl := flatten_length hall
 have hvl := hv.length
 have hb := Nat.mul_le_mul_right s hat
 rw [Nat.add_mul] at hb
 have e1 : (es.take at_ ++ new ++ es.drop (at_ + new.length)).flatten = es.flatten.take (at_ * s) ++ new.flatten ++ es.flatten.drop (at_ * s + new.flatten.length) := by
  rw [List.flatten_append,List.flatten_append,flatten_take at_ q4,flatten_drop _ q4,hnl,Nat.add_mul]
 obtain ⟨l,sr'⟩ := write_own sr hn hv e1 (by rw [hfl,hg]; omega) (Nat.mul_le_mul_right s hfz) (by simp; omega) (fun e he => by
  simp only [List.mem_append] at he
  rcases he with (he | he) | he
  ·exact q4 e (List.mem_of_mem_take he)
  ·exact hall e he
  ·exact q4 e (List.mem_of_mem_drop he)) q1 (by rw [hvl,hnl]; rw [hfl,hg] at hfull; omega)
 refine ⟨σ.write n (at_ * s) vs (.cells (es.take at_ ++ new ++ es.drop (at_ + new.length)) s fz),fun w hw => ?_,rfl,rfl,rfl,rfl,l,sr'⟩
 have hone : ∀ v ∈ vs,v.oneCell' = true := storables_vr hv (by
  rw [List.all_eq_true]
  intro x hx
  obtain ⟨e,he,hxe⟩ := List.mem_flatten.1 hx
  exact (List.all_eq_true.1 (hst e he)) x hxe)
 have := run_storeCells_cells (P := P) (σ.r n) (at_ * s) vs 0 w (fun j hj => by
  rw [cell_heap hw,cell_of_heap q1]
  simp only [Option.isSome_iff_exists]
  exact ⟨_,Array.getElem?_eq_getElem (by rw [hvl,hnl] at hj; rw [hfl,hg] at hfull; omega)⟩) (fun j hj => by
  have := q2 (at_ * s + 0 + j) (by rw [hvl,hnl] at hj; rw [hfl,hg] at hfull; omega)
  simp only [World.frozen?,hw,q1]
  simpa using fun h1 => Nat.le_of_not_lt fun h2 => this ⟨h1,h2⟩) hone
 simpa using this
end Go.Abs
end
section
namespace Go.Abs
variable {P : Program} {tab : Tab} {σ : Sg}
theorem growBy_le (n : Nat) : ∀ (k c : Nat),Builtin.growBy n k c ≤ max c (n + (n + 768) / 4)
 | 0,c => Nat.le_max_left _ _
 | k + 1,c => by
  simp only [Builtin.growBy]
  split
  ·exact Nat.le_max_left _ _
  ·rename_i h
   have := growBy_le n k (c + (c + 768) / 4)
   omega
theorem nextcap_le {n c : Nat} (h : c < n) : Builtin.nextslicecap n c ≤ 2 * n + 192 := by
 unfold Builtin.nextslicecap
 split
 ·omega
 ·split
  ·omega
  ·have := growBy_le n 4 c
   omega
section run
variable {t e xt : TypeId} {de : TyD} {ts : Array TypeId} {ux : TypeDesc} {base : Option Addr} {sLen sCap n : Nat} {xv : Value} {w : World}
def notInt : TypeDesc → Prop
 | .int _ => False
 | _ => True
theorem run_append_fit (De : DescOK P e de) (h0 : ts[0]? = some t) (h1 : ts[1]? = some xt) (hu : P.underlying t = some (.slice e)) (hx : P.underlying xt = some ux) (hn : notInt ux) (ty : TypeId)
  (hl : (Builtin.lenOf xv).run P w = .ok n w) (hle : sLen + n ≤ sCap) {arr : Array Value} (hf : (Builtin.firstCells de.size n xv).run P w = .ok arr w) {w' : World}
  (hs : (match base with | some a => storeCells (a.add (sLen * de.size)) arr.toList | none => pure () : Sem Unit).run P w = .ok () w') :
  (Builtin.append_ ts ty #[.slice base sLen sCap,xv]).run P w = .ok (.slice base (sLen + n) sCap) w' := by
 have e0 : (#[.slice base sLen sCap,xv] : Array Value)[0]? = some (.slice base sLen sCap) := rfl
 have e1 : (#[.slice base sLen sCap,xv] : Array Value)[1]? = some xv := rfl
 unfold Builtin.append_
 simp only [h0,e0,e1,Sem.run_bind,run_under hu,Result.andThen_ok,De.run_sizeOf,h1,run_under hx]
 cases ux <;> first | exact hn.elim | skip
 all_goals
  simp only [Sem.run_bind,Sem.run_pure,Result.andThen_ok,hl,Bool.false_eq_true,if_false,if_pos hle,hf,Bool.not_false,if_true]
  cases base with
  | none => simp only [Sem.run_pure] at hs; cases hs; rfl
  | some a => simp only [Sem.run_bind,hs,Result.andThen_ok,Sem.run_pure]
theorem imax : (IntKind.i64.max : Int) = 9223372036854775807 := rfl
def drawnCap (w : World) (need cap : Nat) (e : TypeId) : Nat := (Question.appendCap need cap e).cut (w.tape w.drawn (.appendCap need cap e))
theorem drawnCap_ge (w : World) (need cap : Nat) (e : TypeId) : need ≤ drawnCap w need cap e := Nat.le_add_right _ _
theorem run_append_grow (De : DescOK P e de) (h0 : ts[0]? = some t) (h1 : ts[1]? = some xt) (hu : P.underlying t = some (.slice e)) (hx : P.underlying xt = some ux) (hn : notInt ux) (ty : TypeId)
  (hl : (Builtin.lenOf xv).run P w = .ok n w) (hle : ¬ sLen + n ≤ sCap) (hroom : roomOk de.bytes (sLen + n) = true) {old new : Array Value}
  (ho : (Builtin.firstCells de.size sLen (.slice base sLen sCap)).run P w.drew = .ok old w.drew) (hf : (Builtin.firstCells de.size n xv).run P w.drew = .ok new w.drew) :
  ∃ tail : Array Value,tail.size = (drawnCap w (sLen + n) sCap e - (sLen + n)) * de.zero.length ∧
  (Builtin.append_ ts ty #[.slice base sLen sCap,xv]).run P w = .ok (.slice (some ⟨w.heap.size,0,none⟩) (sLen + n) (drawnCap w (sLen + n) sCap e)) (w.drew.alloc (.cells (old ++ new ++ tail) e)) := by
 have e0 : (#[.slice base sLen sCap,xv] : Array Value)[0]? = some (.slice base sLen sCap) := rfl
 have e1 : (#[.slice base sLen sCap,xv] : Array Value)[1]? = some xv := rfl
 obtain ⟨i,hi,hisz,hib⟩ := De.run_infos
 obtain ⟨z,hz,hzc,_⟩ := De.run_zero w.drew
 simp only [roomOk,Bool.and_eq_true,decide_eq_true_eq] at hroom
 have hmax : ¬ (((sLen + n : Nat) : Int) > IntKind.i64.max) := by rw [imax]; omega
 have hcap : ¬ (Builtin.nextslicecap (sLen + n) sCap * i.bytes > 2 ^ 48) := by
  rw [hib]
  have := Nat.mul_le_mul_right de.bytes (nextcap_le (n := sLen + n) (c := sCap) (by omega))
  omega
 have hq : (choose (.appendCap (sLen + n) sCap e)).run P w = .ok (drawnCap w (sLen + n) sCap e) w.drew := by
  simp only [run_choose,Question.forced]
  rfl
 refine ⟨Builtin.zeroCells z.cells (drawnCap w (sLen + n) sCap e - (sLen + n)),?_,?_⟩
 ·have : z.cells.size = de.zero.length := by rw [← hzc]; simp
  simp [Builtin.zeroCells,this]
 ·unfold Builtin.append_
  simp only [h0,e0,e1,Sem.run_bind,run_under hu,Result.andThen_ok,De.run_sizeOf,h1,run_under hx]
  cases ux <;> first | exact hn.elim | skip
  all_goals
   simp only [Sem.run_bind,Sem.run_pure,Result.andThen_ok,hl,Bool.false_eq_true,if_false,if_neg hle,hi,if_neg hcap,false_or,hmax,false_and,hq,run_askRoom,ho,hf,Bool.not_false,if_true,hz,newRow,run_newObj]
   rfl
theorem run_append_zeros (De : DescOK P e de) (h0 : ts[0]? = some t) (h1 : ts[1]? = some xt) (hu : P.underlying t = some (.slice e)) {k : IntKind} (hx : P.underlying xt = some (.int k)) (ty : TypeId)
  {kk : IntKind} {l : Int} (hl : 0 < l ∧ l ≤ 2 ^ 40) (hroom : roomOk de.bytes l.toNat = true) (hzl : de.zero.length = de.size) :
  ∃ tail : Array Value,tail.size = (drawnCap w l.toNat 0 e - l.toNat) * de.zero.length ∧
  (Builtin.append_ ts ty #[.slice none 0 0,.int kk l]).run P w = .ok (.slice (some ⟨w.heap.size,0,none⟩) l.toNat (drawnCap w l.toNat 0 e)) (w.drew.alloc (.cells ((List.replicate l.toNat de.zero).flatten.toArray ++ tail) e)) := by
 have e0 : (#[.slice none 0 0,.int kk l] : Array Value)[0]? = some (.slice none 0 0) := rfl
 have e1 : (#[.slice none 0 0,.int kk l] : Array Value)[1]? = some (.int kk l) := rfl
 obtain ⟨i,hi,hisz,hib⟩ := De.run_infos
 obtain ⟨z,hz,hzc,_⟩ := De.run_zero w.drew
 simp only [roomOk,Bool.and_eq_true,decide_eq_true_eq] at hroom
 have hw : IntKind.i64.wrap l = l := by
  rw [show IntKind.i64.wrap l = if l % 18446744073709551616 ≥ 9223372036854775808 then l % 18446744073709551616 - 18446744073709551616 else l % 18446744073709551616 by simp [IntKind.wrap,IntKind.bits,IntKind.signed]]
  split <;> omega
 have hmax : ¬ (((0 + l.toNat : Nat) : Int) > IntKind.i64.max) := by rw [imax]; omega
 have hcap : ¬ (Builtin.nextslicecap (0 + l.toNat) 0 * i.bytes > 2 ^ 48) := by
  rw [hib]
  have := Nat.mul_le_mul_right de.bytes (nextcap_le (n := 0 + l.toNat) (c := 0) (by omega))
  rw [Nat.zero_add] at this ⊢
  omega
 have hb : ¬ (l * (i.bytes : Int) > 2 ^ 48) := by
  rw [hib]
  have h2 : l.toNat * de.bytes ≤ (2 * l.toNat + 192) * de.bytes := Nat.mul_le_mul_right de.bytes (by omega)
  have h3 : (l.toNat * de.bytes : Nat) ≤ 2 ^ 48 := by omega
  have h4 : ((l.toNat * de.bytes : Nat) : Int) = l * (de.bytes : Int) := by rw [Int.natCast_mul,Int.toNat_of_nonneg (by omega)]
  omega
 have hq : (choose (.appendCap (0 + l.toNat) 0 e)).run P w = .ok (drawnCap w l.toNat 0 e) w.drew := by
  simp only [run_choose,Question.forced,Nat.zero_add]
  rfl
 have hzz : z.cells.size = de.zero.length := by rw [← hzc]; simp
 have hrep : Builtin.zeroCells z.cells l.toNat = (List.replicate l.toNat de.zero).flatten.toArray := by
  apply Array.ext'
  rw [Builtin.zeroCells,Array.toList_map,Array.toList_range]
  have := range_repeat (s := de.zero.length) z.cells.toList (by rw [hzc]) l.toNat
  rw [show z.cells.toList.toArray = z.cells from Array.toArray_toList,hzc] at this
  rw [hzz,List.toList_toArray]
  rw [hzz] at this
  exact this
 have hle : ¬ (0 + l.toNat ≤ 0) := by omega
 have hl0 : ¬ (l < 0) := by omega
 refine ⟨Builtin.zeroCells z.cells (drawnCap w l.toNat 0 e - l.toNat),by simp [Builtin.zeroCells,hzz],?_⟩
 unfold Builtin.append_
 simp only [h0,e0,e1,Sem.run_bind,run_under hu,Result.andThen_ok,De.run_sizeOf,h1,run_under hx,Sem.run_pure,asInt,asIntOf,hw,hl0,if_false,hi,if_neg hb,if_true,if_neg hle,hmax,false_and,if_neg hcap,hq,run_askRoom]
 have hfc : (Builtin.firstCells de.size 0 (.slice none 0 0)).run P w.drew = .ok #[] w.drew := rfl
 have hap : (if (!true) = true then Builtin.firstCells de.size l.toNat (.int kk l)
      else if l.toNat * de.size = 0 then pure #[]
       else do
        let q ← zeroValue e
        pure (Builtin.zeroCells q.cells l.toNat) : Sem (Array Value)).run P w.drew = .ok (List.replicate l.toNat de.zero).flatten.toArray w.drew := by
  rw [if_neg (by simp)]
  split
  ·rename_i h00
   have : (List.replicate l.toNat de.zero).flatten = [] := by
    apply List.eq_nil_of_length_eq_zero
    rw [List.length_flatten,List.map_replicate,List.sum_replicate_nat,hzl]
    exact h00
   rw [this]; rfl
  ·simp only [Sem.run_bind,hz,Result.andThen_ok,Sem.run_pure,hrep]
 simp only [hfc,Result.andThen_ok,hap,hz,newRow,Sem.run_bind,run_newObj,Sem.run_pure,Nat.zero_add,Array.empty_append]
 rfl
end run
theorem grown_ok (sr : SR σ) {st : Nat} (hd : ¬ σ.dead st) {s : Nat} {es : List (List AV)} (hn : σ.h st = none ∨ ∃ es0 fz0,σ.h st = some (.cells es0 s fz0) ∧ es0.length < es.length) {fz : Nat} {vs : List Value} {t : TypeId}
  (hv : VRs σ es.flatten vs) (hs : ∀ e ∈ es,e.length = s) {tail : Array Value} {cap : Nat} (hcap : es.length ≤ cap) (htail : tail.size = (cap - es.length) * s) :
  ∃ σ',σ'.w = σ.w.drew.alloc (.cells (vs.toArray ++ tail) t) ∧ σ'.h = upd σ.h st (some (.cells es s fz)) ∧ σ'.dead = σ.dead ∧ Le σ σ' ∧ SR σ' ∧
   VR σ' (.sl st es.length 0 es.length none) (.slice (some ⟨σ.w.heap.size,0,none⟩) es.length cap) := by
 have sr0 := sr_drew sr
 have l0 := le_drew σ
 obtain ⟨l,sr'⟩ := new_row (σ := σ.drew) sr0 (n := st) es s fz tail.toList t (0,0) hd hn (hv.mono l0) hs (by omega)
 refine ⟨σ.drew.make st (.cells (vs ++ tail.toList).toArray t (0,0)) (.cells es s fz),?_,rfl,rfl,l0.trans sr0 l sr',sr',?_⟩
 ·show σ.w.drew.alloc _ = _
  congr 2
  apply Array.ext'
  simp
 ·have hr : (σ.drew.make st (.cells (vs ++ tail.toList).toArray t (0,0)) (.cells es s fz)).r st = σ.w.heap.size := upd_same _ _ _
  have hvl := hv.length
  rw [flatten_length hs] at hvl
  have hblk : (σ.drew.make st (.cells (vs ++ tail.toList).toArray t (0,0)) (.cells es s fz)).w.heap[(σ.drew.make st (.cells (vs ++ tail.toList).toArray t (0,0)) (.cells es s fz)).r st]? = some (.cells (vs ++ tail.toList).toArray t (0,0)) := by
   rw [hr]; exact heap_alloc_at σ.w.drew _
  have := VR.sl (σ := σ.drew.make st (.cells (vs ++ tail.toList).toArray t (0,0)) (.cells es s fz)) (n := st) (off := 0) (len := es.length) (cap' := cap) (cap := none) (es := es) (s := s) (fz := fz) (upd_same _ _ _) hblk (by omega) (by
   simp only [List.size_toArray,List.length_append,Array.length_toList,Nat.zero_add]
   rw [hvl,htail,← Nat.add_mul]
   exact Nat.mul_le_mul_right s (by omega)) hcap ⟨fun c e => (by cases e),fun _ => by omega⟩
  rw [hr] at this
  simpa using this
theorem append_ok (tabOk : TabOK P tab) (sr : SR σ) {H : Heap} {st : Nat} (hfr : Fresh σ st) {t e xt : TypeId} {de : TyD} (hde : tab e = some de) {ts : Array TypeId} (h0 : ts[0]? = some t) (h1 : ts[1]? = some xt)
  (hu : P.underlying t = some (.slice e)) {ux : TypeDesc} (hxt : P.underlying xt = some ux) (hni : notInt ux) (ty : TypeId) {s : AV} {sv xv : Value} (hs : VR σ s sv) {xs : List (List AV)} {vs : List Value} (hx : Src P σ de.size xs xv vs)
  {rd : List Nat} {r : Res} (h : appendA H st de s xs rd = some r) (hf : Foot H σ r) (hfd : ∀ m ∈ rd,look H.objs m = σ.h m) :
  ∃ rd' ups nw,r.e = .loc rd' ups nw ∧ ((∃ m o,ups = [(m,o)] ∧ (m = st ∨ nw = 0) ∧ nw ≤ 1 ∧ Md P (Builtin.append_ ts ty #[sv,xv]) σ r.v (upd σ.h m (some o))) ∨ (ups = [] ∧ nw = 0 ∧ Qt P (Builtin.append_ ts ty #[sv,xv]) σ r.v)) := by
 have De := tabOk e de hde
 have hvl := hx.vrs.length
 rw [flatten_length hx.all] at hvl
 have hfc0 : ∀ w,w.heap = σ.w.heap → (Builtin.firstCells de.size xs.length xv).run P w = .ok vs.toArray w := fun w hw => by
  have := hx.cells xs.length w (Nat.le_refl _) hw
  rwa [List.take_of_length_le (by omega)] at this
 -- a new row out of old elements
 have fresh : ∀ (old : List (List AV)) (rd' : List Nat) (base : Option Addr) (cap' : Nat) (ovs : List Value),sv = .slice base old.length cap' → ¬ old.length + xs.length ≤ cap' → roomOk de.bytes (old.length + xs.length) = true →
   VRs σ old.flatten ovs → (∀ q ∈ old,q.length = de.size) → (Builtin.firstCells de.size old.length sv).run P σ.w.drew = .ok ovs.toArray σ.w.drew →
   Md P (Builtin.append_ ts ty #[sv,xv]) σ (.sl st (old.length + xs.length) 0 (old.length + xs.length) none) (upd σ.h st (some (.cells (old ++ xs) de.size 0))) := by
  rintro old rd' base cap' ovs rfl hle hroom hov hoall hof
  obtain ⟨tail,ht,hrun⟩ := run_append_grow (P := P) (n := xs.length) De h0 h1 hu hxt hni ty (hx.len σ.w) hle hroom hof (hfc0 _ rfl)
  have hl : (old ++ xs).length = old.length + xs.length := by simp
  obtain ⟨σ',w1,w2,w3,l,sr',hvr⟩ := grown_ok (σ := σ) sr hfr.2 (.inl hfr.1) (es := old ++ xs) (s := de.size) (fz := 0) (t := e) (vs := ovs ++ vs) (by rw [List.flatten_append]; exact hov.append hx.vrs) (fun q hq => by
   rcases List.mem_append.1 hq with hq | hq
   ·exact hoall q hq
   ·exact hx.all q hq) (tail := tail) (cap := drawnCap σ.w (old.length + xs.length) cap' e) (by rw [hl]; exact drawnCap_ge _ _ _ _) (by rw [hl,← De.zlen]; exact ht)
  rw [hl] at hvr
  exact ⟨σ',.slice (some ⟨σ.w.heap.size,0,none⟩) (old.length + xs.length) (drawnCap σ.w (old.length + xs.length) cap' e),by rw [hrun,w1]; simp,w2,w3,l,sr',hvr⟩
 unfold appendA at h
 simp only [] at h
 split at h
 ·-- nothing to append
  rename_i hxl
  have hxl0 : xs = [] := List.eq_nil_of_length_eq_zero hxl
  subst hxl0
  have hvs : vs = [] := List.eq_nil_of_length_eq_zero (by simpa using hvl)
  subst hvs
  have fin : ∀ base len cap',sv = .slice base len cap' → len ≤ cap' → (base ≠ none ∨ True) → Qt P (Builtin.append_ ts ty #[sv,xv]) σ s := by
   rintro base len cap' rfl hle _
   refine ⟨.slice base len cap',?_,hs⟩
   have := run_append_fit (P := P) (n := 0) (base := base) (sLen := len) (sCap := cap') De h0 h1 hu hxt hni ty (hx.len σ.w) (by omega) (hfc0 _ rfl) (w' := σ.w) (by cases base <;> rfl)
   simpa using this
  split at h
  ·cases h
   obtain ⟨rfl,_⟩ := hs.sc_inv
   exact ⟨_,_,_,rfl,.inr ⟨rfl,rfl,fin none 0 0 rfl (Nat.le_refl _) (.inr trivial)⟩⟩
  ·cases h
   obtain ⟨a,vs',s',cap,rfl,_,_,_,hc,_⟩ := hs.isl_inv
   exact ⟨_,_,_,rfl,.inr ⟨rfl,rfl,fin _ _ _ rfl hc (.inr trivial)⟩⟩
  ·cases h
   cases hs with
   | tree h => cases h
   | sl hn hw hl hr hle hc => exact ⟨_,_,_,rfl,.inr ⟨rfl,rfl,fin _ _ _ rfl hle (.inr trivial)⟩⟩
   | stale h => obtain ⟨_,a,c,rfl,hle⟩ := h; exact ⟨_,_,_,rfl,.inr ⟨rfl,rfl,fin _ _ _ rfl hle (.inr trivial)⟩⟩
  ·cases h
 ·rename_i hxl
  split at h
  ·-- the nil slice
   split at h
   ·rename_i hroom
    cases h
    obtain ⟨rfl,_⟩ := hs.sc_inv
    exact ⟨_,_,_,rfl,.inl ⟨st,_,rfl,.inl rfl,Nat.le_refl _,fresh [] [] none 0 [] rfl (by simp only [List.length_nil]; omega) (by simpa using hroom) .nil (by simp) rfl⟩⟩
   ·cases h
  ·-- a tree that is full
   rename_i es
   split at h
   ·rename_i hall
    split at h
    ·rename_i hroom
     cases h
     have hall' : ∀ q ∈ es,q.length = de.size := fun q hq => by have := (List.all_eq_true.1 hall) q hq; simpa using this
     obtain ⟨a,ovs,s',cap,rfl,ht,hr,hss,hc,hcd⟩ := hs.isl_inv
     have hcap := hcd rfl
     have hovl := ht.length
     rw [flatten_length hall'] at hovl
     refine ⟨_,_,_,rfl,.inl ⟨st,_,rfl,.inl rfl,Nat.le_refl _,fresh es [] _ cap ovs rfl (by omega) hroom ht.vrs hall' ?_⟩⟩
     have := run_loadsR (P := P) (w' := σ.w.drew) ht hr rfl (es.length * de.size) (by omega)
     rw [List.take_of_length_le (by omega)] at this
     exact this
    ·cases h
   ·cases h
  ·-- an own slice
   rename_i n g off len cap
   split at h
   ·rename_i es s' fz ho
    split at h
    ·rename_i hcond
     obtain ⟨hg,hss,hol⟩ := hcond
     subst hss
     have getn : ∀ (v : AV) (o : AO),some r = some ⟨v,.loc (n :: rd) [(n,o)] 0⟩ → σ.h n = some (.cells es de.size fz) := fun v o e => by
      cases e; rw [← hf _ _ _ rfl n (by simp)]; exact ho
     -- written in place
     have inplace : ∀ v,(if fz ≤ off + len ∧ xs.all (·.all AV.storable) then some ⟨.sl n g off (len + xs.length) cap,.loc (n :: rd) [(n,.cells (es.take (off + len) ++ xs ++ es.drop (off + len + xs.length)) de.size fz)] 0⟩ else none) = some v → v = r →
       off + len + xs.length ≤ g → (∀ c,cap = some c → len + xs.length ≤ c) →
       ∃ rd' ups nw,r.e = .loc rd' ups nw ∧ ((∃ m o,ups = [(m,o)] ∧ (m = st ∨ nw = 0) ∧ nw ≤ 1 ∧ Md P (Builtin.append_ ts ty #[sv,xv]) σ r.v (upd σ.h m (some o))) ∨ (ups = [] ∧ nw = 0 ∧ Qt P (Builtin.append_ ts ty #[sv,xv]) σ r.v)) := by
      intro v hv hvr hle hcl
      split at hv
      ·rename_i hcc
       obtain ⟨hfz,hst⟩ := hcc
       subst hvr
       cases hv
       have hn := getn _ _ rfl
       refine ⟨_,_,_,rfl,.inl ⟨n,_,rfl,.inr rfl,by omega,?_⟩⟩
       obtain ⟨cap',arr,t',rg,rfl,hw,hl,hr,hle',hcap⟩ := hs.sl_inv sr hn hg
       obtain ⟨σ',w0,w1,w2,w3,w4,l,sr'⟩ := over_ok (P := P) sr hs hn hg hx.vrs hx.all (at_ := off + len) hle hfz (fun q hq => (List.all_eq_true.1 hst) q hq)
       refine ⟨σ',.slice (some ⟨σ.r n,off * de.size,none⟩) (len + xs.length) cap',?_,w2,w3,l,sr',?_⟩
       ·have hfit : len + xs.length ≤ cap' := by
         cases hcc : cap with
         | none => have := hcap.2 hcc; omega
         | some c => have := (hcap.1 c hcc).1; have := hcl c hcc; omega
        refine run_append_fit (P := P) De h0 h1 hu hxt hni ty (hx.len σ.w) hfit (hfc0 _ rfl) ?_
        simp only [Addr.add_mid]
        have := w0 σ.w rfl
        rw [Nat.add_mul] at this
        rw [w1,Nat.add_mul]
        exact this
       ·have hl2 : (es.take (off + len) ++ xs ++ es.drop (off + len + xs.length)).length = es.length := by simp; omega
        have hmv := hs.mono l
        obtain ⟨arr0,t0,rg0,full,q1,qj,q2,q3,q4,q5,q6,q7⟩ := sr'.obj n _ (by rw [w2]; exact upd_same _ _ _)
        have hasz : arr0.size = arr.size := by
         rw [w4,w1,heap_setCells _ _ _ _ _ _ _ hw] at q1
         cases q1
         exact arrSet_size _ _ _
        have := VR.sl (σ := σ') (n := n) (off := off) (len := len + xs.length) (cap' := cap') (cap := cap) (by rw [w2]; exact upd_same _ _ _) q1 (by rw [hl2]; omega) (by rw [hasz]; exact hr) (by
         cases hcc : cap with
         | none => have := hcap.2 hcc; omega
         | some c => have := (hcap.1 c hcc).1; have := hcl c hcc; omega) (by rw [hl2,hg]; exact hcap)
        rw [hl2,hg,w4] at this
        exact this
      ·cases hv
     split at h
     ·rename_i c
      split at h
      ·rename_i hoc
       split at h
       ·rename_i hlc
        exact inplace _ h rfl (by omega) (fun c' e => by cases e; exact hlc)
       ·rename_i hlc
        split at h
        ·rename_i hroom
         cases h
         have hn : σ.h n = some (.cells es de.size fz) := by rw [← hf _ _ _ rfl n (by simp)]; exact ho
         obtain ⟨cap',arr,t',rg,rfl,hw,hl,hr,hle',hcap⟩ := hs.sl_inv sr hn hg
         obtain ⟨arr0,t0,rg0,full,q1,qj,q2,q3,q4,q5,q6,q7⟩ := sr.obj n _ hn
         have hsub : ∀ e ∈ (es.drop off).take len,e.length = de.size := fun e he => q4 e (List.mem_of_mem_drop (List.mem_of_mem_take he))
         have hov : VRs σ ((es.drop off).take len).flatten ((full.drop (off * de.size)).take (len * de.size)) := by
          rw [flatten_take len (fun e he => q4 e (List.mem_of_mem_drop he)),flatten_drop off q4]
          exact (q3.drop _).take _
         have hlen : ((es.drop off).take len).length = len := by simp; omega
         have hovl := hov.length
         rw [flatten_length hsub,hlen] at hovl
         have hcc := (hcap.1 c rfl).1
         refine ⟨_,_,_,rfl,.inl ⟨st,_,rfl,.inl rfl,Nat.le_refl _,fresh _ [] (some ⟨σ.r n,off * de.size,none⟩) cap' _ (by rw [hlen]) (by rw [hlen]; omega) hroom hov hsub ?_⟩⟩
         rw [hlen]
         have := run_loads (P := P) (w := σ.w.drew) (b := σ.r n) (o := off * de.size) (vs := (full.drop (off * de.size)).take (len * de.size)) (fun j v hv => by
          rw [World.cell?_drew,cell_of_heap q1]
          refine q6 _ v ?_
          rw [List.getElem?_take] at hv
          split at hv
          ·rw [List.getElem?_drop] at hv; exact hv
          ·cases hv) (len * de.size) (by omega)
         rw [List.take_of_length_le (by omega)] at this
         exact this
        ·cases h
      ·cases h
     ·split at h
      ·rename_i hle
       exact inplace _ h rfl hle (fun c e => by cases e)
      ·rename_i hgt
       split at h
       ·rename_i hcc
        obtain ⟨hoff,hlg,hfz,hroom,hst⟩ := hcc
        cases h
        subst hoff
        subst hlg
        have hn : σ.h n = some (.cells es de.size fz) := by rw [← hf _ _ _ rfl n (by simp)]; exact ho
        obtain ⟨cap',arr,t',rg,rfl,hw,hl,hr,hle',hcap⟩ := hs.sl_inv sr hn hg
        obtain ⟨arr0,t0,rg0,full,q1,qj,q2,q3,q4,q5,q6,q7⟩ := sr.obj n _ hn
        rw [hw] at q1
        cases q1
        have hfull := q3.length
        have hfl := flatten_length q4
        have hall2 : ∀ q ∈ es ++ xs,q.length = de.size := fun q hq => by
         rcases List.mem_append.1 hq with hq | hq
         ·exact q4 q hq
         ·exact hx.all q hq
        have hl2 : (es ++ xs).length = len + xs.length := by simp; omega
        refine ⟨_,_,_,rfl,.inl ⟨n,_,rfl,.inr rfl,by omega,?_⟩⟩
        by_cases hfit : len + xs.length ≤ cap'
        ·-- the array has room
         have hb := Nat.mul_le_mul_right de.size hfit
         rw [Nat.add_mul] at hb
         rw [Nat.zero_add] at hr
         obtain ⟨l,sr'⟩ := write_own sr hn hx.vrs (es' := es ++ xs) (o := es.flatten.length) (by rw [List.flatten_append,List.take_length,List.drop_of_length_le (Nat.le_add_right _ _),List.append_nil]) (Nat.le_refl _) (by rw [hfl,hg]; exact Nat.mul_le_mul_right _ hfz) (by simp) hall2 hw (by rw [hfl,hg]; omega)
         refine ⟨σ.write n es.flatten.length vs (.cells (es ++ xs) de.size fz),.slice (some ⟨σ.r n,0 * de.size,none⟩) (len + xs.length) cap',?_,rfl,rfl,l,sr',?_⟩
         ·refine run_append_fit (P := P) De h0 h1 hu hxt hni ty (hx.len σ.w) hfit (hfc0 _ rfl) ?_
          simp only [Addr.add_mid]
          have := run_storeCells_cells (P := P) (σ.r n) (0 * de.size + len * de.size) vs 0 σ.w (fun j hj => by
           rw [cell_of_heap hw]
           simp only [Option.isSome_iff_exists]
           exact ⟨_,Array.getElem?_eq_getElem (by omega)⟩) (fun j hj => by
           have := q2 (0 * de.size + len * de.size + 0 + j) (by omega)
           simp only [World.frozen?,hw]
           simpa using fun h1 => Nat.le_of_not_lt fun h2 => this ⟨h1,h2⟩) (storables_vr hx.vrs (by
           rw [List.all_eq_true]
           intro x hxx
           obtain ⟨e',he',hxe⟩ := List.mem_flatten.1 hxx
           exact (List.all_eq_true.1 ((List.all_eq_true.1 hst) e' he')) x hxe))
          show _ = Result.ok () (σ.w.setCells (σ.r n) es.flatten.length vs)
          rw [this,hfl,hg]
          simp
         ·have hblk : (σ.write n es.flatten.length vs (.cells (es ++ xs) de.size fz)).w.heap[σ.r n]? = some (.cells (arrSet arr es.flatten.length vs) t' rg) := heap_setCells vs _ σ.w (σ.r n) arr t' rg hw
          have := VR.sl (σ := σ.write n es.flatten.length vs (.cells (es ++ xs) de.size fz)) (n := n) (off := 0) (len := len + xs.length) (cap' := cap') (cap := none) (upd_same _ _ _) hblk (by rw [hl2]; omega)
           (by rw [arrSet_size,Nat.zero_add]; exact hr) hfit ⟨fun c e => (by cases e),fun _ => by rw [hl2]; omega⟩
          rw [hl2] at this
          exact this
        ·-- it has not
         obtain ⟨tail,ht,hrun⟩ := run_append_grow (P := P) (n := xs.length) (base := some ⟨σ.r n,0 * de.size,none⟩) De h0 h1 hu hxt hni ty (hx.len σ.w) hfit hroom (old := full.toArray) (by
          have := run_loads (P := P) (w := σ.w.drew) (b := σ.r n) (o := 0 * de.size) (vs := full) (fun j v hv => by
           rw [World.cell?_drew,cell_of_heap hw]
           have := q6 _ v hv
           simpa using this) (len * de.size) (by rw [hfull,hfl,hg]; exact Nat.le_refl _)
          rw [List.take_of_length_le (by rw [hfull,hfl,hg]; exact Nat.le_refl _)] at this
          simpa only [Builtin.firstCells] using this) (hfc0 _ rfl)
         obtain ⟨σ',w1,w2,w3,l,sr',hvr⟩ := grown_ok (σ := σ) sr (st := n) (sr.alive n _ hn) (.inr ⟨es,fz,hn,by simp; omega⟩) (es := es ++ xs) (s := de.size) (fz := fz) (t := e) (vs := full ++ vs) (by rw [List.flatten_append]; exact q3.append hx.vrs) hall2
          (tail := tail) (cap := drawnCap σ.w (len + xs.length) cap' e) (by rw [hl2]; exact drawnCap_ge _ _ _ _) (by rw [hl2,← De.zlen]; exact ht)
         rw [hl2] at hvr
         exact ⟨σ',_,by rw [hrun,w1]; simp,w2,w3,l,sr',hvr⟩
       ·cases h
    ·cases h
   ·cases h
  ·cases h
end Go.Abs
end
section
namespace Go.Abs
variable {P : Program} {tab : Tab} {σ : Sg}
def Ends (P : Program) (s : Sem Value) (σ : Sg) (st : Nat) (r : Res) : Prop :=
 ∃ rd ups nw,r.e = .loc rd ups nw ∧ ((∃ m o,ups = [(m,o)] ∧ (m = st ∨ nw = 0) ∧ nw ≤ 1 ∧ Md P s σ r.v (upd σ.h m (some o))) ∨ (ups = [] ∧ nw = 0 ∧ Qt P s σ r.v))
theorem overwrite_ok (sr : SR σ) {H : Heap} {dst : AV} {dv : Value} (hd : VR σ dst dv) {s : Nat} {new : List (List AV)} {vs : List Value} (hv : VRs σ new.flatten vs) (hall : ∀ e ∈ new,e.length = s) {v : AV} {rd : List Nat} {r : Res}
  (h : overwrite H dst s new v rd = some r) (hf : Foot H σ r) {sem : Sem Value} {x : Value} (hx : ∀ σ',VR σ' v x)
  (hrun : ∀ w',(∀ base len cap,dv = .slice base len cap → (match base with | some a => storeCells a vs | none => pure () : Sem Unit).run P σ.w = .ok () w') → sem.run P σ.w = .ok x w')
  (hsl : ∃ base len cap,dv = .slice base len cap) (st : Nat) : Ends P sem σ st r := by
 unfold overwrite at h
 split at h
 ·rename_i hl
  have : new = [] := List.eq_nil_of_length_eq_zero hl
  subst this
  cases hv
  cases h
  refine ⟨_,_,_,rfl,.inr ⟨rfl,rfl,x,hrun σ.w (fun base len cap e => ?_),hx σ⟩⟩
  cases base <;> rfl
 ·split at h
  ·rename_i n g off len cap
   split at h
   ·rename_i es s' fz ho
    split at h
    ·rename_i hc
     obtain ⟨hg,hs,hnl,hol,hfz,hst⟩ := hc
     subst hs
     cases h
     have hn : σ.h n = some (.cells es s' fz) := by rw [← hf _ _ _ rfl n (by simp)]; exact ho
     obtain ⟨cap',arr,t',rg,rfl,hw,hl,hr,hle,hcap⟩ := hd.sl_inv sr hn hg
     obtain ⟨σ',w0,w1,w2,w3,w4,l,sr'⟩ := over_ok (P := P) sr hd hn hg hv hall (at_ := off) (by omega) hfz (fun q hq => (List.all_eq_true.1 hst) q hq)
     refine ⟨_,_,_,rfl,.inl ⟨n,_,rfl,.inr rfl,by omega,σ',x,?_,w2,w3,l,sr',hx σ'⟩⟩
     refine hrun _ (fun base len' cap'' e => ?_)
     cases e
     simp only []
     rw [w0 σ.w rfl,w1]
    ·cases h
   ·cases h
  ·cases h
theorem copy_ok (tabOk : TabOK P tab) (sr : SR σ) {H : Heap} {t : TypeId} {d : TyD} (hd : tab t = some d) {dst src : AV} {dv sv : Value} (hdv : VR σ dst dv) (hsv : VR σ src sv) {r : Res} (ts : Array TypeId) (hts : ts[0]? = some t) (ty : TypeId)
  (h : copyA tab H d dst src = some r) (hf : Foot H σ r) (st : Nat) : Ends P (Builtin.copy_ ts ty #[dv,sv]) σ st r := by
 have D := tabOk t d hd
 have hu := D.under
 have e0 : (#[dv,sv] : Array Value)[0]? = some dv := rfl
 have e1 : (#[dv,sv] : Array Value)[1]? = some sv := rfl
 unfold copyA at h
 split at h
 ·rename_i e hk
  simp only [KOK,hk] at hu
  split at h
  ·rename_i de hde
   have De := tabOk e de hde
   simp only [] at h
   split at h
   ·rename_i es rd dl hsrc hdl
    have hfr : ∀ m ∈ rd,look H.objs m = σ.h m := by
     intro m hm
     unfold overwrite at h
     split at h
     ·cases h; exact hf _ _ _ rfl m hm
     ·split at h
      ·split at h
       ·split at h
        ·cases h; exact hf _ _ _ rfl m (by simp [hm])
        ·cases h
       ·cases h
      ·cases h
    have hS : ∃ vs,Src P σ de.size es sv vs := by
     split at hsrc
     ·rename_i x
      split at hsrc
      ·rename_i h1
       cases hsrc
       obtain ⟨rfl,_⟩ := hsv.sc_inv
       rw [h1]
       exact ⟨_,string_src x⟩
      ·cases hsrc
     ·exact (shown_src sr hsv hsrc hfr).1
    obtain ⟨vs,hS⟩ := hS
    have hD : ∃ base cap,dv = .slice base dl cap ∧ (base = none → dl = 0) := by
     split at hdl
     ·cases hdl
      obtain ⟨rfl,_⟩ := hdv.sc_inv
      exact ⟨none,0,rfl,fun _ => rfl⟩
     ·cases hdl
      cases hdv with
      | tree h => cases h
      | sl => exact ⟨_,_,rfl,fun e => by cases e⟩
      | stale h => obtain ⟨_,a,c,rfl,_⟩ := h; exact ⟨_,_,rfl,fun e => by cases e⟩
     ·cases hdl
    obtain ⟨base,cap,rfl,hbn⟩ := hD
    have hall : ∀ q ∈ es.take dl,q.length = de.size := fun q hq => hS.all q (List.mem_of_mem_take hq)
    have hv : VRs σ (es.take dl).flatten (vs.take (dl * de.size)) := by
     rw [flatten_take dl hS.all]; exact hS.vrs.take _
    refine overwrite_ok sr hdv hv hall h hf (x := goInt (min es.length dl : Nat)) (fun σ' => .tree (.sc rfl)) (fun w' hw => ?_) ⟨_,_,_,rfl⟩ st
    have hs := hw _ _ _ rfl
    have hfc := hS.cells (min es.length dl) σ.w (Nat.min_le_left _ _) rfl
    have htk : vs.take (min es.length dl * de.size) = vs.take (dl * de.size) := by
     have hvl := hS.vrs.length
     rw [flatten_length hS.all] at hvl
     by_cases hle : es.length ≤ dl
     ·rw [Nat.min_eq_left hle,List.take_of_length_le (by omega),List.take_of_length_le (by rw [hvl]; exact Nat.mul_le_mul_right _ hle)]
     ·rw [Nat.min_eq_right (by omega)]
    rw [htk] at hfc
    have hmin : Nat.min es.length dl = min es.length dl := rfl
    unfold Builtin.copy_
    simp only [hts,e0,e1,Sem.run_bind,run_under hu,Result.andThen_ok,hS.len,De.run_sizeOf,hmin,hfc]
    cases base with
    | none =>
     simp only [Sem.run_pure] at hs
     cases hs
     rfl
    | some a =>
     simp only [Sem.run_bind,List.toList_toArray,hs,Result.andThen_ok,Sem.run_pure]
   ·cases h
  ·cases h
 ·cases h
theorem clear_ok (tabOk : TabOK P tab) (sr : SR σ) {H : Heap} {t : TypeId} {d : TyD} (hd : tab t = some d) {x : AV} {xv : Value} (hx : VR σ x xv) {r : Res} (ts : Array TypeId) (hts : ts[0]? = some t) (ty : TypeId)
  (h : clearA tab H d x = some r) (hf : Foot H σ r) (st : Nat) : Ends P (Builtin.clear_ ts ty #[xv]) σ st r := by
 have D := tabOk t d hd
 have hu := D.under
 have e0 : (#[xv] : Array Value)[0]? = some xv := rfl
 unfold clearA at h
 split at h
 ·rename_i e hk
  simp only [KOK,hk] at hu
  split at h
  ·rename_i de hde
   have De := tabOk e de hde
   obtain ⟨z,hz,hzc,_⟩ := De.run_zero σ.w
   split at h
   ·cases h
    obtain ⟨rfl,_⟩ := hx.sc_inv
    refine ⟨_,_,_,rfl,.inr ⟨rfl,rfl,.tuple #[],?_,.tree (.sc rfl)⟩⟩
    unfold Builtin.clear_
    simp only [hts,e0,Sem.run_bind,run_under hu,Result.andThen_ok,Sem.run_pure]
   ·rename_i n g off len cap
    have hD : ∃ a c,xv = .slice (some a) len c := by
     cases hx with
     | tree h => cases h
     | sl => exact ⟨_,_,rfl⟩
     | stale h => obtain ⟨_,a,c,rfl,_⟩ := h; exact ⟨_,_,rfl⟩
    obtain ⟨a,c,rfl⟩ := hD
    refine overwrite_ok sr hx (replicate_vr De.zsc len) (s := de.size) (fun q hq => by rw [List.eq_of_mem_replicate hq]; simpa using De.zlen) h hf (x := .tuple #[]) (fun σ' => .tree (.sc rfl)) (fun w' hw => ?_) ⟨_,_,_,rfl⟩ st
    have hs := hw _ _ _ rfl
    simp only [] at hs
    have hzz : z.cells.size = de.zero.length := by rw [← hzc]; simp
    have hrep : (Builtin.zeroCells z.cells len).toList = (List.replicate len de.zero).flatten := by
     rw [Builtin.zeroCells,Array.toList_map,Array.toList_range]
     have := range_repeat (s := de.zero.length) z.cells.toList (by rw [hzc]) len
     rw [show z.cells.toList.toArray = z.cells from Array.toArray_toList,hzc] at this
     rw [hzz]
     rw [hzz] at this
     exact this
    unfold Builtin.clear_
    simp only [hts,e0,Sem.run_bind,run_under hu,Result.andThen_ok]
    cases len with
    | zero =>
     simp only [List.replicate_zero,List.flatten_nil] at hs
     cases hs
     rfl
    | succ len => simp only [Sem.run_bind,hz,Result.andThen_ok,hrep,hs,Sem.run_pure]
   ·cases h
  ·cases h
 ·rename_i kt et hk
  simp only [KOK,hk] at hu
  split at h
  ·rename_i n
   split at h
   ·rename_i ks vs bs clock ho
    cases h
    have hn : σ.h n = some (.map ks vs bs clock false) := by rw [← hf _ _ _ rfl n (by simp)]; exact ho
    obtain ⟨ents,vs0,q1,q2,q3,q4,q5⟩ := sr.obj n _ hn
    obtain ⟨l,sr'⟩ := write_map sr hn (clock' := clock) (es' := #[]) (ks' := []) (bs' := []) (vs' := []) (xs' := []) .nil ⟨rfl,rfl⟩ rfl
    refine ⟨_,_,_,rfl,.inl ⟨n,_,rfl,.inr rfl,by omega,σ.setMap n #[] clock (.map [] [] [] clock false),.tuple #[],?_,rfl,rfl,l,sr',.tree (.sc rfl)⟩⟩
    have hxv := hx.mp_inv sr hn
    subst hxv
    unfold Builtin.clear_
    simp only [hts,e0,Sem.run_bind,run_under hu,Result.andThen_ok,run_getObj_map q1,run_setObj q1,Sem.run_pure]
    rfl
   ·cases h
  ·cases h
 ·cases h
theorem append_zeros_ok (tabOk : TabOK P tab) (sr : SR σ) {H : Heap} {st : Nat} (hfr : Fresh σ st) {t e xt : TypeId} {de : TyD} (hde : tab e = some de) {ts : Array TypeId} (h0 : ts[0]? = some t) (h1 : ts[1]? = some xt)
  (hu : P.underlying t = some (.slice e)) {k kk : IntKind} (hxt : P.underlying xt = some (.int k)) (ty : TypeId) {n : Int} (hn : 0 < n ∧ n ≤ 2 ^ 40 ∧ de.zero.length = de.size) {r : Res}
  (h : appendA H st de (.sc (.slice none 0 0)) (List.replicate n.toNat (de.zero.map .sc)) [] = some r) : Ends P (Builtin.append_ ts ty #[.slice none 0 0,.int kk n]) σ st r := by
 have De := tabOk e de hde
 unfold appendA at h
 simp only [List.length_replicate,List.length_nil,Nat.zero_add,List.nil_append] at h
 split at h
 ·omega
 ·split at h
  ·rename_i hroom
   cases h
   obtain ⟨tail,ht,hrun⟩ := run_append_zeros (P := P) (w := σ.w) (kk := kk) De h0 h1 hu hxt ty (l := n) ⟨hn.1,hn.2.1⟩ hroom hn.2.2
   have hl : (List.replicate n.toNat (de.zero.map AV.sc)).length = n.toNat := List.length_replicate
   obtain ⟨σ',w1,w2,w3,l,sr',hvr⟩ := grown_ok (σ := σ) sr hfr.2 (.inl hfr.1) (es := List.replicate n.toNat (de.zero.map .sc)) (s := de.size) (fz := 0) (t := e) (replicate_vr De.zsc n.toNat) (fun q hq => by
    rw [List.eq_of_mem_replicate hq]; simpa using hn.2.2) (tail := tail) (cap := drawnCap σ.w n.toNat 0 e) (by rw [hl]; exact drawnCap_ge _ _ _ _) (by rw [hl,← hn.2.2]; exact ht)
   rw [hl] at hvr
   exact ⟨_,_,_,rfl,.inl ⟨st,_,rfl,.inl rfl,Nat.le_refl _,σ',_,by rw [hrun,w1],w2,w3,l,sr',hvr⟩⟩
  ·cases h
end Go.Abs
end
