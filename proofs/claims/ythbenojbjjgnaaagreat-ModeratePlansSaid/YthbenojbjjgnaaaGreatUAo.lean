/- Data of the run. -/
import Derived.Test.YthbenojbjjgnaaaGreatUAk
import Derived.Test.YthbenojbjjgnaaaGreatProg
import Derived.Shelf.Spec.SlicesInsertGrow
import Derived.KernelRfl
import Derived.Test.YthbenojbjjgnaaaGreatUAn
import Derived.Test.YthbenojbjjgnaaaGreatUAl
set_option linter.unusedVariables false
set_option linter.unusedSimpArgs false
set_option linter.unusedSectionVars false
section
namespace Go.Proofs.RLP
open Go.Proofs
open Go.Shelf Go.RowKit Go.Lib
theorem mixed29 : Tryz.prog.follows .mixedOrders = true := by kernel_rfl
set_option maxHeartbeats 4000000 in
set_option maxRecDepth 100000 in
theorem insert_shift (b g c i vb vc : Nat) (w w1 w2 : World) (hi : i < g) (hroom : g + 1 ≤ c) (hc63 : g ≤ 1000000)
  (hov : ∀ o lb cb,(callFunc 282 #[.slice (some ⟨vb,0,none⟩) 1 vc,.slice (some ⟨b,o,none⟩) lb cb]).run Tryz.prog w = .ok (.value (.bool false)) w)
  (hcp1 : ∀ ty dc sc,(Builtin.copy_ #[22,22] ty #[.slice (some ⟨b,(i + 1) * 29,none⟩) (g - i) dc,.slice (some ⟨b,i * 29,none⟩) (g + 1 - i) sc]).run Tryz.prog w.drew = .ok (goInt ((g : Int) - (i : Int))) w1)
  (hcp2 : ∀ ty dc,(Builtin.copy_ #[22,22] ty #[.slice (some ⟨b,i * 29,none⟩) (g + 1 - i) dc,.slice (some ⟨vb,0,none⟩) 1 vc]).run Tryz.prog w1 = .ok (goInt 1) w2) :
  Calls Tryz.prog 211 #[.slice (some ⟨b,0,none⟩) g c,.int .i64 i,.slice (some ⟨vb,0,none⟩) 1 vc] w fun e w' =>
   e = .returned (.slice (some ⟨b,0,none⟩) (g + 1) c) ∧ w' = w2 := by
 have mixed := mixed29
 have hz2 : ¬ ((i : Int) = (g : Int)) := by omega
 have hw1 : IntKind.i64.wrap ((i : Int) + 1) = (i : Int) + 1 := by rw [IntKind.wrap_i64]; omega
 have hw2 : IntKind.i64.wrap ((g : Int) + 1) = (g : Int) + 1 := by rw [IntKind.wrap_i64]; omega
 have hb1 : (0 : Int) ≤ (i : Int) + 1 := by omega
 have hin : i ≤ g := by omega
 have htn : ((i : Int) + 1).toNat = i + 1 := by omega
 have hb2 : ¬ (c = i + 1) := by omega
 have hb3 : (i : Int) ≤ (g : Int) + 1 := by omega
 have hb4 : ¬ (c = i) := by omega
 go_enter Tryz.func211,Tryz.ntmps211
 go_wp2_with (simp only [hov])
 go_region_law_o (refine step_copy_runI rfl _ _ 22 22 rfl _ _ (by simp [Act.eval,Act.put]) (by simp [Act.eval,Act.put]) (hcp1 _ _ _) ?_)
 go_wp2_with (at_builtin; refine wpList_copy_runI _ rfl _ _ 22 22 rfl _ _ rfl rfl (hcp2 _ _) ?_)
 go_ret
 exact ⟨rfl,rfl⟩
set_option maxHeartbeats 4000000 in
set_option maxRecDepth 100000 in
theorem insert_end (b g c vb vc : Nat) (w w1 : World) (r : Value)
  (hap : (Builtin.append_ #[22,22] 22 #[.slice (some ⟨b,0,none⟩) g c,.slice (some ⟨vb,0,none⟩) 1 vc]).run Tryz.prog w = .ok r w1) :
  Calls Tryz.prog 211 #[.slice (some ⟨b,0,none⟩) g c,.int .i64 g,.slice (some ⟨vb,0,none⟩) 1 vc] w fun e w' => e = .returned r ∧ w' = w1 := by
 go_enter Tryz.func211,Tryz.ntmps211
 go_wp2_with (at_builtin; refine Lib.wpList_append_run _ rfl _ _ _ _ rfl _ _ rfl rfl _ _ hap ?_)
 all_goals (go_ret; exact ⟨rfl,rfl⟩)
set_option maxHeartbeats 4000000 in
set_option maxRecDepth 100000 in
theorem insert_grow (b g c i B G vb vc : Nat) (w w1 w2 w3 : World) (hi : i < g) (hgc : g ≤ c) (hroom : c < g + 1) (hc63 : g ≤ 1000000) (hG : g + 1 ≤ G)
  (hrz : (Builtin.append_ #[22,3] 22 #[.slice (some ⟨b,0,none⟩) i c,.int .i64 ((g : Int) + 1 - (i : Int))]).run Tryz.prog w = .ok (.slice (some ⟨B,0,none⟩) (g + 1) G) w1)
  (hcp1 : ∀ ty dc,(Builtin.copy_ #[22,22] ty #[.slice (some ⟨B,i * 29,none⟩) (g + 1 - i) dc,.slice (some ⟨vb,0,none⟩) 1 vc]).run Tryz.prog w1 = .ok (goInt 1) w2)
  (hcp2 : ∀ ty dc sc,(Builtin.copy_ #[22,22] ty #[.slice (some ⟨B,(i + 1) * 29,none⟩) (g - i) dc,.slice (some ⟨b,i * 29,none⟩) (g - i) sc]).run Tryz.prog w2.drew = .ok (goInt ((g : Int) - (i : Int))) w3) :
  Calls Tryz.prog 211 #[.slice (some ⟨b,0,none⟩) g c,.int .i64 i,.slice (some ⟨vb,0,none⟩) 1 vc] w fun e w' =>
   e = .returned (.slice (some ⟨B,0,none⟩) (g + 1) G) ∧ w' = w3 := by
 have mixed := mixed29
 have hz2 : ¬ ((i : Int) = (g : Int)) := by omega
 have hz3 : (c : Int) < (g : Int) + 1 := by omega
 have hw1 : IntKind.i64.wrap ((i : Int) + 1) = (i : Int) + 1 := by rw [IntKind.wrap_i64]; omega
 have hw2 : IntKind.i64.wrap ((g : Int) + 1) = (g : Int) + 1 := by rw [IntKind.wrap_i64]; omega
 have hw3 : IntKind.i64.wrap ((g : Int) + 1 - i) = (g : Int) + 1 - i := by rw [IntKind.wrap_i64]; omega
 have hb1 : (0 : Int) ≤ (i : Int) + 1 := by omega
 have hin : i ≤ g := by omega
 have htn : ((i : Int) + 1).toNat = i + 1 := by omega
 have hb2 : ¬ (G = i + 1) := by omega
 have hb3 : (i : Int) ≤ (g : Int) + 1 := by omega
 have hb4 : ¬ (c = i) := by omega
 have hb5 : ¬ (G = i) := by omega
 have hb6 : (i : Int) ≤ (g : Int) := by omega
 go_enter Tryz.func211,Tryz.ntmps211
 go_wp2_with (first
  | (at_builtin; refine Lib.wpList_append_run _ rfl _ _ _ _ rfl _ _ rfl rfl _ _ hrz ?_)
  | (at_builtin; refine wpList_copy_runI _ rfl _ _ 22 22 rfl _ _ rfl rfl (hcp1 _ _) ?_))
 go_region_law_o (refine step_copy_runI rfl _ _ 22 22 rfl _ _ (by simp [Act.eval,Act.put]) (by simp [Act.eval,Act.put]) (hcp2 _ _ _) ?_)
 go_wp2
 go_ret
 exact ⟨rfl,rfl⟩
end Go.Proofs.RLP
end
section
namespace Go.Abs
open Go.Proofs Go.Proofs.RLP Go.RowKit Go.Lib
section
variable {P : Program} {σ : Sg}
theorem run_copy_raw {t e : TypeId} {s : Nat} (hu : P.underlying t = some (.slice e)) (hz : ∀ w,(sizeOf e).run P w = .ok s w) (ty : TypeId) {ts : Array TypeId} (hts : ts[0]? = some t) {w : World} {dB dO dl dc sB sO sl sc k : Nat} (hk : min sl dl = k)
  {vs : List Value} (hl : vs.length = k * s) (hsrc : ∀ j v,vs[j]? = some v → w.cell? ⟨sB,sO + j,none⟩ = some v) {arr : Array Value} {tt : TypeId} {rg : Nat × Nat} (hb : w.heap[dB]? = some (.cells arr tt rg))
  (hrg : ∀ off,off ≤ arr.size → ¬ (rg.1 ≤ off ∧ off < rg.2)) (hroom : dO + vs.length ≤ arr.size) (hone : ∀ v ∈ vs,v.oneCell' = true) :
  (Builtin.copy_ ts ty #[.slice (some ⟨dB,dO,none⟩) dl dc,.slice (some ⟨sB,sO,none⟩) sl sc]).run P w = .ok (goInt k) (w.setCells dB dO vs) := by
 have e0 : (#[Value.slice (some ⟨dB,dO,none⟩) dl dc,.slice (some ⟨sB,sO,none⟩) sl sc] : Array Value)[0]? = some (.slice (some ⟨dB,dO,none⟩) dl dc) := rfl
 have e1 : (#[Value.slice (some ⟨dB,dO,none⟩) dl dc,.slice (some ⟨sB,sO,none⟩) sl sc] : Array Value)[1]? = some (.slice (some ⟨sB,sO,none⟩) sl sc) := rfl
 have hlen : (Builtin.lenOf (.slice (some ⟨sB,sO,none⟩) sl sc)).run P w = .ok sl w := rfl
 have hmin : Nat.min sl dl = k := hk
 have hfc := run_firstCells_some (P := P) w s k ⟨sB,sO,none⟩ sl sc vs hl (fun j v hj => by rw [Addr.add_lit]; exact hsrc j v hj)
 have hst := run_storeCells_cells (P := P) dB dO vs 0 w (fun j hj => by
  rw [cell_of_heap hb]
  simp only [Option.isSome_iff_exists]
  exact ⟨_,Array.getElem?_eq_getElem (by omega)⟩) (fun j hj => by
  have := hrg (dO + 0 + j) (by omega)
  simp only [World.frozen?,hb]
  simpa using fun h1 => Nat.le_of_not_lt fun h2 => this ⟨h1,h2⟩) hone
 unfold Builtin.copy_
 simp only [hts,e0,e1,Sem.run_bind,run_under hu,Result.andThen_ok,hlen,hz,hmin,hfc,List.toList_toArray,hst,Sem.run_pure,Nat.add_zero]
theorem write_rows (sr : SR σ) {n : Nat} {es : List (List AV)} {s fz : Nat} (hn : σ.h n = some (.cells es s fz)) (hes : ∀ e ∈ es,e.length = s) {arr : Array Value} {t : TypeId} {rg : Nat × Nat} (hw : σ.w.heap[σ.r n]? = some (.cells arr t rg))
  {new : List (List AV)} {vs : List Value} (hv : VRs σ new.flatten vs) (hall : ∀ e ∈ new,e.length = s) {at_ : Nat} (hat : at_ ≤ es.length) (hfz : fz ≤ at_) (hroom : (at_ + new.length) * s ≤ arr.size) :
  Le σ (σ.write n (at_ * s) vs (.cells (es.take at_ ++ new ++ es.drop (at_ + new.length)) s fz)) ∧ SR (σ.write n (at_ * s) vs (.cells (es.take at_ ++ new ++ es.drop (at_ + new.length)) s fz)) := by
 have hfl := flatten_length hes
 have hnl := flatten_length hall
 have hvl := hv.length
 rw [Nat.add_mul] at hroom
 refine write_own sr hn hv ?_ (by rw [hfl]; exact Nat.mul_le_mul_right s hat) (Nat.mul_le_mul_right s hfz) (by simp; omega) (fun e he => ?_) hw (by rw [hvl,hnl]; exact hroom)
 ·rw [List.flatten_append,List.flatten_append,flatten_take at_ hes,flatten_drop _ hes,hnl,Nat.add_mul]
 ·simp only [List.mem_append] at he
  rcases he with (he | he) | he
  ·exact hes e (List.mem_of_mem_take he)
  ·exact hall e he
  ·exact hes e (List.mem_of_mem_drop he)
theorem size_arrSet : ∀ (vs : List Value) (arr : Array Value) (o : Nat),(arrSet arr o vs).size = arr.size
 | [],_,_ => rfl
 | v :: r,arr,o => by rw [arrSet,size_arrSet r]; simp
theorem upd_upd {α : Type} (f : Nat → α) (n : Nat) (a b : α) : upd (upd f n a) n b = upd f n b := by
 funext m
 unfold upd
 split <;> rfl
theorem desc65 : ∃ de,tabT Tryz.prog 65 = some de ∧ de.size = 29 ∧ de.bytes ≤ 1000 := by
 have h : (tabT Tryz.prog 65).map (fun d => (Nat.beq d.size 29,Nat.ble d.bytes 1000)) = some (true,true) := by kernel_rfl
 cases hd : tabT Tryz.prog 65 with
 | none => rw [hd] at h; cases h
 | some de =>
  rw [hd] at h
  simp only [Option.map_some,Option.some.injEq,Prod.mk.injEq] at h
  exact ⟨de,rfl,Nat.eq_of_beq_eq_true h.1,Nat.le_of_ble_eq_true h.2⟩
theorem under65 : ∃ ux,Tryz.prog.underlying 22 = some ux ∧ notInt ux := ⟨_,Tryz.underlying22,trivial⟩
def InsPost (σ : Sg) (n g : Nat) (new : List (List AV)) (fz : Nat) (e : Ending) (w' : World) : Prop :=
 ∃ σ' x,e = .returned x ∧ σ'.w = w' ∧ σ'.h = upd σ.h n (some (.cells new 29 fz)) ∧ σ'.dead = σ.dead ∧ Le σ σ' ∧ SR σ' ∧ VR σ' (.sl n (g + 1) 0 (g + 1) none) x
section
variable {n m g i fz fzm : Nat} {es ys : List (List AV)} {mc : Option Nat} {sv vv : Value}
theorem ins_end (sr : SR σ) {st : Nat} (hst : Fresh σ st) (hs : VR σ (.sl n g 0 g none) sv) (hv : VR σ (.sl m 1 0 1 mc) vv) (hn : σ.h n = some (.cells es 29 fz)) (hm : σ.h m = some (.cells ys 29 fzm))
  (hg : es.length = g) (hy : ys.length = 1) (hfz : fz ≤ g) (hbig : g ≤ 1000000) (hsy : ys.all (·.all AV.storable) = true) :
  Calls Tryz.prog 211 #[sv,.int .i64 g,vv] σ.w (InsPost σ n g (es ++ ys) fz) := by
 obtain ⟨de,hde,hsz,hby⟩ := desc65
 obtain ⟨c,arr,t,rg,rfl,hw,_,hr,hle,hcap⟩ := hs.sl_inv sr hn hg
 obtain ⟨vc,varr,vt,vrg,rfl,vw,_,vr,vle,vcap⟩ := hv.sl_inv sr hm hy
 have hroom : roomOk de.bytes (g + 1) = true := by
  simp only [roomOk,Bool.and_eq_true,decide_eq_true_eq]
  have : (2 * (g + 1) + 192) * de.bytes ≤ (2 * (1000000 + 1) + 192) * 1000 := Nat.mul_le_mul (by omega) hby
  omega
 let H : Heap := ⟨[(n,.cells es 29 fz),(m,.cells ys 29 fzm)],0⟩
 have hHn : look H.objs n = some (.cells es 29 fz) := by simp [H,look]
 have hHm : look H.objs m = σ.h m := by
  by_cases e : n = m
  ·subst e; rw [hHn,hn]
  ·rw [hm]; simp [H,look,e]
 have hya : ∀ e ∈ ys,e.length = 29 := by
  obtain ⟨_,_,_,_,_,_,_,_,q4,_⟩ := sr.obj m _ hm
  exact q4
 have hsh : shown H 29 (.sl m 1 0 1 mc) = some (ys,[m]) := by
  unfold shown
  simp only [hHm,hm]
  rw [if_pos ⟨hy,trivial,by omega⟩,List.drop_zero,List.take_of_length_le (by omega)]
 obtain ⟨⟨vs,hS⟩,_⟩ := shown_src (P := Tryz.prog) sr hv hsh (fun k hk => by
  rcases List.mem_singleton.1 hk with rfl
  exact hHm)
 have hap : appendA H st de (.sl n g 0 g none) ys [m] = some ⟨.sl n (g + 1) 0 (g + 1) none,.loc (n :: [m]) [(n,.cells (es ++ ys) 29 fz)] 0⟩ := by
  unfold appendA
  simp only [hHn]
  rw [if_neg (by omega),if_pos ⟨hg,hsz.symm,by omega⟩]
  rw [if_neg (by omega),if_pos ⟨trivial,trivial,hfz,by rw [hy]; exact hroom,hsy⟩,hy]
 rw [← hsz] at hS
 obtain ⟨ux,hux,hni⟩ := under65
 obtain ⟨rd',ups,nw,he,hh⟩ := append_ok (tabT_ok Tryz.prog) sr hst hde (t := 22) (xt := 22) (ts := #[22,22]) rfl rfl Tryz.underlying22 hux hni 22 hs hS hap (fun rd ups news e k hk => by
  cases e
  rcases List.mem_cons.1 hk with rfl | hk
  ·rw [hHn,hn]
  ·rcases List.mem_singleton.1 hk with rfl
   exact hHm) (fun k hk => by
  rcases List.mem_singleton.1 hk with rfl
  exact hHm)
 cases he
 rcases hh with ⟨m',o,hup,_,_,σ',x,hrun,w2,w3,l,sr',hx⟩ | ⟨hup,_⟩
 ·cases hup
  simp only [Nat.zero_mul] at hrun ⊢
  refine (insert_end (σ.r n) g c (σ.r m) vc σ.w σ'.w x hrun).mono ?_
  rintro e w' ⟨rfl,rfl⟩
  exact ⟨σ',x,rfl,rfl,w2,w3,l,sr',hx⟩
 ·cases hup
theorem ov29 {w : World} {vb b vc : Nat} (hne : vb ≠ b) {varr : Array Value} {vt : TypeId} {vrg : Nat × Nat} (vw : w.heap[vb]? = some (.cells varr vt vrg)) (hvrg : ∀ off,off ≤ varr.size → ¬ (vrg.1 ≤ off ∧ off < vrg.2))
  {arr : Array Value} {t : TypeId} {rg : Nat × Nat} (hw : w.heap[b]? = some (.cells arr t rg)) (hpos : arr.size ≠ 0) (o lb cb : Nat) :
  (callFunc 282 #[.slice (some ⟨vb,0,none⟩) 1 vc,.slice (some ⟨b,o,none⟩) lb cb]).run Tryz.prog w = .ok (.value (.bool false)) w := by
 obtain ⟨de,hde,hsz,_⟩ := desc65
 have De := tabT_ok Tryz.prog 65 de hde
 have fz : ∀ off,off ≤ varr.size → w.frozen? ⟨vb,off,none⟩ = false := fun off ho => by
  simp only [World.frozen?,vw]
  simpa using fun h1 => Nat.le_of_not_lt fun h2 => hvrg off ho ⟨h1,h2⟩
 rw [run_callFunc_extern Tryz.func282 (by kernel_rfl) (by kernel_rfl) (by kernel_rfl) (e := Extern.SlicesOverlaps.overlaps #[22,22] #[4]) (by kernel_rfl),
  Lib.run_overlaps_apart w 22 4 65 Tryz.underlying22 de.size (fun w => De.run_sizeOf w) ⟨vb,0,none⟩ ⟨b,o,none⟩ 1 vc lb cb hne vt t varr.size arr.size (by simp [World.shape?,vw]) (by simp [World.shape?,hw]) hpos (fz 0 (Nat.zero_le _)) (fz _ (Nat.le_refl _))]
 rfl
theorem rows_drop {α : Type} {es : List α} {i : Nat} (h : i < es.length) : (es.take (i + 1) ++ es.drop i).take i = es.take i ∧ (es.take (i + 1) ++ es.drop i).drop (i + 1) = es.drop i := by
 have hl : (es.take (i + 1)).length = i + 1 := by rw [List.length_take]; omega
 constructor
 ·rw [List.take_append_of_le_length (by omega),List.take_take,Nat.min_eq_left (by omega)]
 ·rw [List.drop_append_of_le_length (by omega),List.drop_of_length_le (by omega),List.nil_append]
theorem ins_shift (sr : SR σ) (hs : VR σ (.sl n g 0 g none) sv) (hv : VR σ (.sl m 1 0 1 mc) vv) (hn : σ.h n = some (.cells es 29 fz)) (hm : σ.h m = some (.cells ys 29 fzm)) (hne : m ≠ n)
  (hg : es.length = g) (hy : ys.length = 1) (hi : i < g) (hfz : fz ≤ i) (hbig : g ≤ 1000000) (hse : es.all (·.all AV.storable) = true) (hsy : ys.all (·.all AV.storable) = true)
  (hroom : ∀ b c,sv = .slice b g c → g + 1 ≤ c) :
  Calls Tryz.prog 211 #[sv,.int .i64 i,vv] σ.w (InsPost σ n g (es.take i ++ ys ++ es.drop i) fz) := by
 obtain ⟨de,hde,hsz,_⟩ := desc65
 have De := tabT_ok Tryz.prog 65 de hde
 have hz : ∀ w,(sizeOf 65).run Tryz.prog w = .ok 29 w := fun w => by rw [De.run_sizeOf w,hsz]
 obtain ⟨c,arr,t,rg,rfl,hw,_,hr,hle,hcap⟩ := hs.sl_inv sr hn hg
 obtain ⟨vc,varr,vt,vrg,rfl,vw,_,vr,vle,vcap⟩ := hv.sl_inv sr hm hy
 have hc := hroom _ _ rfl
 simp only [Nat.zero_mul,Nat.zero_add] at hr vr ⊢
 obtain ⟨arr',t',rg',full,q1,qj,q2,q3,q4,q5,q6,q7⟩ := sr.obj n _ hn
 rw [hw] at q1; cases q1
 obtain ⟨varr',vt',vrg',vfull,p1,pj,p2,p3,p4,p5,p6,p7⟩ := sr.obj m _ hm
 rw [vw] at p1; cases p1
 have hbb : σ.r m ≠ σ.r n := fun e => hne (sr.inj m n _ _ hm hn e)
 have hfl := flatten_length q4
 have hfull := q3.length
 have hyl := flatten_length p4
 have hvl := p3.length
 have hdl : (full.drop (i * 29)).length = (g - i) * 29 := by rw [List.length_drop,hfull,hfl,hg,Nat.sub_mul]
 have hcs : (g + 1) * 29 ≤ arr.size := Nat.le_trans (Nat.mul_le_mul_right 29 hc) hr
 have honeF : ∀ v ∈ full.drop (i * 29),v.oneCell' = true := fun v hv => storables_vr q3 (by
  rw [List.all_eq_true]
  intro x hx
  obtain ⟨e,he,hxe⟩ := List.mem_flatten.1 hx
  exact (List.all_eq_true.1 ((List.all_eq_true.1 hse) e he)) x hxe) v (List.mem_of_mem_drop hv)
 have honeY : ∀ v ∈ vfull,v.oneCell' = true := storables_vr p3 (by
  rw [List.all_eq_true]
  intro x hx
  obtain ⟨e,he,hxe⟩ := List.mem_flatten.1 hx
  exact (List.all_eq_true.1 ((List.all_eq_true.1 hsy) e he)) x hxe)
 -- the first copy
 have sr0 := sr_drew sr
 have l0 := le_drew σ
 have hvd : VRs σ.drew (es.drop i).flatten (full.drop (i * 29)) := by rw [flatten_drop i q4]; exact (q3.drop _).mono l0
 obtain ⟨l1,sr1⟩ := write_rows (σ := σ.drew) sr0 (n := n) hn q4 hw hvd (fun e he => q4 e (List.mem_of_mem_drop he)) (at_ := i + 1) (by omega) (by omega) (by rw [List.length_drop,hg,show i + 1 + (g - i) = g + 1 by omega]; exact hcs)
 have hcp1 : ∀ ty dc sc,(Builtin.copy_ #[22,22] ty #[.slice (some ⟨σ.r n,(i + 1) * 29,none⟩) (g - i) dc,.slice (some ⟨σ.r n,i * 29,none⟩) (g + 1 - i) sc]).run Tryz.prog σ.w.drew = .ok (goInt ((g : Int) - (i : Int))) (σ.w.drew.setCells (σ.r n) ((i + 1) * 29) (full.drop (i * 29))) := fun ty dc sc => by
  have := run_copy_raw (P := Tryz.prog) Tryz.underlying22 hz ty (ts := #[22,22]) rfl (w := σ.w.drew) (dB := σ.r n) (dO := (i + 1) * 29) (dl := g - i) (dc := dc) (sB := σ.r n) (sO := i * 29) (sl := g + 1 - i) (sc := sc) (k := g - i) (by omega) hdl
   (fun j v hj => by
    rw [List.getElem?_drop] at hj
    show σ.w.cell? _ = _
    rw [cell_of_heap hw]
    exact q6 _ _ hj) hw q2 (by rw [hdl]; omega) honeF
  rwa [show ((g - i : Nat) : Int) = (g : Int) - (i : Int) by omega] at this
 obtain ⟨σ1,hσ1⟩ : ∃ σ1,σ1 = σ.drew.write n ((i + 1) * 29) (full.drop (i * 29)) (.cells (es.take (i + 1) ++ es.drop i ++ es.drop (i + 1 + (es.drop i).length)) 29 fz) := ⟨_,rfl⟩
 rw [← hσ1] at l1 sr1
 have e1 : es.take (i + 1) ++ es.drop i ++ es.drop (i + 1 + (es.drop i).length) = es.take (i + 1) ++ es.drop i := by
  have hz0 : es.drop (i + 1 + (es.drop i).length) = [] := List.drop_of_length_le (by rw [List.length_drop]; omega)
  rw [hz0,List.append_nil]
 have w1 : σ1.w = σ.w.drew.setCells (σ.r n) ((i + 1) * 29) (full.drop (i * 29)) := by rw [hσ1]; rfl
 have r1 : σ1.r = σ.r := by rw [hσ1]; rfl
 have h1 : σ1.h = upd σ.h n (some (.cells (es.take (i + 1) ++ es.drop i) 29 fz)) := by rw [hσ1,e1]; rfl
 have d1 : σ1.dead = σ.dead := by rw [hσ1]; rfl
 have hn1 : σ1.h n = some (.cells (es.take (i + 1) ++ es.drop i) 29 fz) := by rw [h1]; exact upd_same _ _ _
 have b1 : σ1.w.heap[σ1.r n]? = some (.cells (arrSet arr ((i + 1) * 29) (full.drop (i * 29))) t rg) := by rw [w1,r1]; exact heap_setCells _ _ σ.w.drew _ _ _ _ hw
 clear hσ1
 have hs1 := size_arrSet (full.drop (i * 29)) arr ((i + 1) * 29)
 have q41 : ∀ e ∈ es.take (i + 1) ++ es.drop i,e.length = 29 := fun e he => by
  rcases List.mem_append.1 he with he | he
  ·exact q4 e (List.mem_of_mem_take he)
  ·exact q4 e (List.mem_of_mem_drop he)
 have len1 : (es.take (i + 1) ++ es.drop i).length = g + 1 := by rw [List.length_append,List.length_take,List.length_drop]; omega
 -- the second copy
 have hvy : VRs σ1 ys.flatten vfull := (p3.mono l0).mono l1
 obtain ⟨l2,sr2⟩ := write_rows (σ := σ1) sr1 (n := n) hn1 q41 b1 hvy p4 (at_ := i) (by omega) hfz (by rw [hs1,hy]; omega)
 have hcp2 : ∀ ty dc,(Builtin.copy_ #[22,22] ty #[.slice (some ⟨σ.r n,i * 29,none⟩) (g + 1 - i) dc,.slice (some ⟨σ.r m,0,none⟩) 1 vc]).run Tryz.prog σ1.w = .ok (goInt 1) (σ1.w.setCells (σ1.r n) (i * 29) vfull) := fun ty dc => by
  have hb := b1
  rw [r1] at hb ⊢
  exact run_copy_raw (P := Tryz.prog) Tryz.underlying22 hz ty (ts := #[22,22]) rfl (w := σ1.w) (dB := σ.r n) (dO := i * 29) (dl := g + 1 - i) (dc := dc) (sB := σ.r m) (sO := 0) (sl := 1) (sc := vc) (k := 1) (by omega) (by rw [hvl,hyl,hy])
   (fun j v hj => by
    rw [w1,cell_same (heap_setCells_ne _ _ _ _ _ hbb)]
    show σ.w.cell? _ = _
    rw [cell_of_heap vw,Nat.zero_add]
    exact p6 _ _ hj) hb (by rw [hs1]; exact q2) (by rw [hs1,hvl,hyl,hy]; omega) honeY
 obtain ⟨tk,dp⟩ := rows_drop (es := es) (i := i) (by omega)
 rw [hy,tk,dp] at l2 sr2
 have hpos : arr.size ≠ 0 := by omega
 rw [← w1] at hcp1
 refine (insert_shift (σ.r n) g c i (σ.r m) vc σ.w σ1.w _ hi hc hbig (ov29 hbb vw p2 hw hpos) hcp1 hcp2).mono ?_
 rintro e w' ⟨rfl,rfl⟩
 refine ⟨σ1.write n (i * 29) vfull (.cells (es.take i ++ ys ++ es.drop i) 29 fz),_,rfl,rfl,?_,d1,(l0.trans sr0 l1 sr1).trans sr1 l2 sr2,sr2,?_⟩
 ·show upd σ1.h n _ = _
  rw [h1,upd_upd]
 ·have b2 : (σ1.write n (i * 29) vfull (.cells (es.take i ++ ys ++ es.drop i) 29 fz)).w.heap[(σ1.write n (i * 29) vfull (.cells (es.take i ++ ys ++ es.drop i) 29 fz)).r n]? = some (.cells (arrSet (arrSet arr ((i + 1) * 29) (full.drop (i * 29))) (i * 29) vfull) t rg) := heap_setCells _ _ _ _ _ _ _ b1
  have len2 : (es.take i ++ ys ++ es.drop i).length = g + 1 := by rw [List.length_append,List.length_append,List.length_take,List.length_drop,hy]; omega
  have := VR.sl (σ := σ1.write n (i * 29) vfull (.cells (es.take i ++ ys ++ es.drop i) 29 fz)) (n := n) (off := 0) (len := g + 1) (cap' := c) (cap := none) (upd_same _ _ _) b2 (by omega) (by rw [size_arrSet,hs1,Nat.zero_add]; exact hr) hc ⟨fun _ h => (by cases h),fun _ => by omega⟩
  rw [len2] at this
  simpa [Sg.write,r1] using this
theorem ins_grow (sr : SR σ) (hs : VR σ (.sl n g 0 g none) sv) (hv : VR σ (.sl m 1 0 1 mc) vv) (hn : σ.h n = some (.cells es 29 fz)) (hm : σ.h m = some (.cells ys 29 fzm)) (hne : m ≠ n)
  (hg : es.length = g) (hy : ys.length = 1) (hi : i < g) (hfz : fz ≤ i) (hbig : g ≤ 1000000) (hse : es.all (·.all AV.storable) = true) (hsy : ys.all (·.all AV.storable) = true)
  (hroom : ∀ b c,sv = .slice b g c → c < g + 1) :
  Calls Tryz.prog 211 #[sv,.int .i64 i,vv] σ.w (InsPost σ n g (es.take i ++ ys ++ es.drop i) fz) := by
 obtain ⟨de,hde,hsz,hby⟩ := desc65
 have De := tabT_ok Tryz.prog 65 de hde
 have hz : ∀ w,(sizeOf 65).run Tryz.prog w = .ok 29 w := fun w => by rw [De.run_sizeOf w,hsz]
 obtain ⟨c,arr,t,rg,rfl,hw,_,hr,hle,hcap⟩ := hs.sl_inv sr hn hg
 obtain ⟨vc,varr,vt,vrg,rfl,vw,_,vr,vle,vcap⟩ := hv.sl_inv sr hm hy
 have hc := hroom _ _ rfl
 have hcg : c = g := by omega
 subst hcg
 simp only [Nat.zero_mul,Nat.zero_add] at hr vr ⊢
 obtain ⟨arr',t',rg',full,q1,qj,q2,q3,q4,q5,q6,q7⟩ := sr.obj n _ hn
 rw [hw] at q1; cases q1
 obtain ⟨varr',vt',vrg',vfull,p1,pj,p2,p3,p4,p5,p6,p7⟩ := sr.obj m _ hm
 rw [vw] at p1; cases p1
 have hfl := flatten_length q4
 have hfull := q3.length
 have hyl := flatten_length p4
 have hvl := p3.length
 have hdl : (full.drop (i * 29)).length = (c - i) * 29 := by rw [List.length_drop,hfull,hfl,hg,Nat.sub_mul]
 have honeF : ∀ v ∈ full.drop (i * 29),v.oneCell' = true := fun v hv => storables_vr q3 (by
  rw [List.all_eq_true]
  intro x hx
  obtain ⟨e,he,hxe⟩ := List.mem_flatten.1 hx
  exact (List.all_eq_true.1 ((List.all_eq_true.1 hse) e he)) x hxe) v (List.mem_of_mem_drop hv)
 have honeY : ∀ v ∈ vfull,v.oneCell' = true := storables_vr p3 (by
  rw [List.all_eq_true]
  intro x hx
  obtain ⟨e,he,hxe⟩ := List.mem_flatten.1 hx
  exact (List.all_eq_true.1 ((List.all_eq_true.1 hsy) e he)) x hxe)
 have hbw : σ.r n < σ.w.heap.size := (Array.getElem?_eq_some_iff.1 hw).1
 have hvw : σ.r m < σ.w.heap.size := (Array.getElem?_eq_some_iff.1 vw).1
 -- the new row
 obtain ⟨i0,z,hi0,hisz,hib,hz0,hzc,_,_⟩ := De.info
 rw [hsz] at hisz
 have zl29 : de.zero.length = 29 := by rw [De.zlen,hsz]
 have zcl : z.cells.size = 29 := by rw [← Array.length_toList,hzc,zl29]
 have hzk : ∀ k,(Builtin.zeroCells z.cells k) = (List.replicate k de.zero).flatten.toArray := fun k => by
  apply Array.ext'
  rw [Builtin.zeroCells,Array.toList_map,Array.toList_range]
  have := range_repeat (s := 29) z.cells.toList (by rw [hzc,zl29]) k
  rw [show z.cells.toList.toArray = z.cells from Array.toArray_toList,hzc] at this
  rw [zcl,List.toList_toArray]
  rw [zcl] at this
  exact this
 have hb2 : (2 * (c + 1) + 192) * i0.bytes ≤ (2 * (1000000 + 1) + 192) * 1000 := Nat.mul_le_mul (by omega) (by rw [hib]; exact hby)
 have hb3 : (c + 1 - i) * i0.bytes ≤ (1000000 + 1) * 1000 := Nat.mul_le_mul (by omega) (by rw [hib]; exact hby)
 have hold : (Builtin.firstCells i0.size i (.slice (some ⟨σ.r n,0,none⟩) i c)).run Tryz.prog σ.w.drew = .ok (full.take (i * 29)).toArray σ.w.drew := by
  rw [hisz]
  refine run_firstCells_some σ.w.drew 29 i ⟨σ.r n,0,none⟩ i c (full.take (i * 29)) (by rw [List.length_take,hfull,hfl,hg]; omega) (fun j v hj => ?_)
  rw [Addr.add_lit,Nat.zero_add]
  rw [List.getElem?_take] at hj
  split at hj
  ·show σ.w.cell? _ = _
   rw [cell_of_heap hw]
   exact q6 _ _ hj
  ·cases hj
 have happ := Lib.run_append_grow_zeros (P := Tryz.prog) σ.w 22 3 22 65 i0 z .i64 .i64 Tryz.underlying22 Tryz.underlying3 hi0 hz0 (some ⟨σ.r n,0,none⟩) i c (full.take (i * 29)) hold (c + 1 - i) (by omega) (by omega) (by omega) (by omega) (by omega)
  (by rw [show i + (c + 1 - i) = c + 1 by omega]; exact Nat.le_trans (Nat.mul_le_mul_right _ (nextcap_le (by omega))) (by omega))
 rw [show i + (c + 1 - i) = c + 1 by omega,hzk,hzk,show ((c + 1 - i : Nat) : Int) = (c : Int) + 1 - (i : Int) by omega] at happ
 obtain ⟨G,hG⟩ : ∃ G,G = grownCap σ.w (c + 1) c 65 := ⟨_,rfl⟩
 have hGn : c + 1 ≤ G := by rw [hG]; exact grownCap_ge _ _ _ _
 rw [← hG] at happ
 obtain ⟨Z,hZ⟩ : ∃ Z : List (List AV),Z = List.replicate (c + 1 - i) (de.zero.map AV.sc) := ⟨_,rfl⟩
 have hZl : Z.length = c + 1 - i := by rw [hZ,List.length_replicate]
 have hZa : ∀ e ∈ Z,e.length = 29 := fun e he => by rw [hZ] at he; rw [List.eq_of_mem_replicate he,List.length_map,zl29]
 have hZv : VRs σ Z.flatten (List.replicate (c + 1 - i) de.zero).flatten := by rw [hZ]; exact replicate_vr De.zsc _
 have q41 : ∀ e ∈ es.take i ++ Z,e.length = 29 := fun e he => by
  rcases List.mem_append.1 he with he | he
  ·exact q4 e (List.mem_of_mem_take he)
  ·exact hZa e he
 have len1 : (es.take i ++ Z).length = c + 1 := by rw [List.length_append,List.length_take,hZl]; omega
 have hv1 : VRs σ (es.take i ++ Z).flatten (full.take (i * 29) ++ (List.replicate (c + 1 - i) de.zero).flatten) := by
  rw [List.flatten_append,flatten_take i q4]
  exact (q3.take _).append hZv
 obtain ⟨σ1,w1,h1,d1,l1,sr1,x1⟩ := grown_ok (σ := σ) sr (sr.alive n _ hn) (es := es.take i ++ Z) (s := 29) (.inr ⟨es,fz,hn,by omega⟩) (fz := fz) (t := 65) hv1 q41 (tail := (List.replicate (G - (c + 1)) de.zero).flatten.toArray) (cap := G) (by omega)
  (by rw [len1]; simp [zl29])
 rw [List.append_toArray] at w1
 rw [List.append_toArray,List.append_toArray] at happ
 rw [← w1] at happ
 rw [len1] at x1
 have hn1 : σ1.h n = some (.cells (es.take i ++ Z) 29 fz) := by rw [h1]; exact upd_same _ _ _
 obtain ⟨G',arr1,t1,rg1,ev,b1,_,hr1,_,_⟩ := x1.sl_inv sr1 hn1 len1
 simp only [Nat.zero_mul,Nat.zero_add,Value.slice.injEq,Option.some.injEq,Addr.mk.injEq,and_true,true_and] at ev
 obtain ⟨r1,rfl⟩ := ev
 obtain ⟨arr1',t1',rg1',full1,s1,_,s2,_⟩ := sr1.obj n _ hn1
 rw [b1] at s1; cases s1
 simp only [Nat.zero_add] at hr1
 have hroom1 : (c + 1) * 29 ≤ arr1.size := Nat.le_trans (Nat.mul_le_mul_right 29 hGn) hr1
 have keep1 : ∀ b o,b < σ.w.heap.size → σ1.w.cell? ⟨b,o,none⟩ = σ.w.cell? ⟨b,o,none⟩ := fun b o hb => by
  rw [w1,cell_same (heap_alloc_lt σ.w.drew _ hb)]
  rfl
 -- the first copy
 have hvy : VRs σ1 ys.flatten vfull := p3.mono l1
 obtain ⟨l2,sr2⟩ := write_rows (σ := σ1) sr1 (n := n) hn1 q41 b1 hvy p4 (at_ := i) (by omega) hfz (by rw [hy]; omega)
 have tk : (es.take i ++ Z).take i = es.take i := by
  rw [List.take_append_of_le_length (by rw [List.length_take]; omega),List.take_take,Nat.min_self]
 have hti : (es.take i).length = i := by rw [List.length_take]; omega
 have dp : (es.take i ++ Z).drop (i + 1) = Z.drop 1 := by
  rw [List.drop_append,List.drop_of_length_le (by omega),List.nil_append,hti,show i + 1 - i = 1 by omega]
 rw [hy,tk,dp] at l2 sr2
 have hcp1 : ∀ ty dc,(Builtin.copy_ #[22,22] ty #[.slice (some ⟨σ.w.heap.size,i * 29,none⟩) (c + 1 - i) dc,.slice (some ⟨σ.r m,0,none⟩) 1 vc]).run Tryz.prog σ1.w = .ok (goInt 1) (σ1.w.setCells (σ1.r n) (i * 29) vfull) := fun ty dc => by
  rw [← r1] at b1 ⊢
  exact run_copy_raw (P := Tryz.prog) Tryz.underlying22 hz ty (ts := #[22,22]) rfl (w := σ1.w) (dB := σ.w.heap.size) (dO := i * 29) (dl := c + 1 - i) (dc := dc) (sB := σ.r m) (sO := 0) (sl := 1) (sc := vc) (k := 1) (by omega) (by rw [hvl,hyl,hy])
   (fun j v hj => by
    rw [keep1 _ _ hvw,cell_of_heap vw,Nat.zero_add]
    exact p6 _ _ hj) b1 s2 (by rw [hvl,hyl,hy]; omega) honeY
 obtain ⟨σ2,hσ2⟩ : ∃ σ2,σ2 = σ1.write n (i * 29) vfull (.cells (es.take i ++ ys ++ Z.drop 1) 29 fz) := ⟨_,rfl⟩
 rw [← hσ2] at l2 sr2
 have w2 : σ2.w = σ1.w.setCells (σ1.r n) (i * 29) vfull := by rw [hσ2]; rfl
 have r2 : σ2.r = σ1.r := by rw [hσ2]; rfl
 have h2 : σ2.h = upd σ.h n (some (.cells (es.take i ++ ys ++ Z.drop 1) 29 fz)) := by rw [hσ2]; show upd σ1.h n _ = _; rw [h1,upd_upd]
 have d2 : σ2.dead = σ.dead := by rw [hσ2]; exact d1
 have hn2 : σ2.h n = some (.cells (es.take i ++ ys ++ Z.drop 1) 29 fz) := by rw [h2]; exact upd_same _ _ _
 have b2 : σ2.w.heap[σ2.r n]? = some (.cells (arrSet arr1 (i * 29) vfull) t1 rg1) := by rw [w2,r2]; exact heap_setCells _ _ _ _ _ _ _ b1
 clear hσ2
 have hs2 := size_arrSet vfull arr1 (i * 29)
 have q42 : ∀ e ∈ es.take i ++ ys ++ Z.drop 1,e.length = 29 := fun e he => by
  simp only [List.mem_append] at he
  rcases he with (he | he) | he
  ·exact q4 e (List.mem_of_mem_take he)
  ·exact p4 e he
  ·exact hZa e (List.mem_of_mem_drop he)
 have len2 : (es.take i ++ ys ++ Z.drop 1).length = c + 1 := by rw [List.length_append,List.length_append,hti,hy,List.length_drop,hZl]; omega
 -- the second copy
 have sr20 := sr_drew sr2
 have l20 := le_drew σ2
 have hvd : VRs σ2.drew (es.drop i).flatten (full.drop (i * 29)) := by rw [flatten_drop i q4]; exact (((q3.drop _).mono l1).mono l2).mono l20
 obtain ⟨l3,sr3⟩ := write_rows (σ := σ2.drew) sr20 (n := n) hn2 q42 b2 hvd (fun e he => q4 e (List.mem_of_mem_drop he)) (at_ := i + 1) (by omega) (by omega) (by rw [hs2,List.length_drop,hg,show i + 1 + (c - i) = c + 1 by omega]; exact hroom1)
 have tk2 : (es.take i ++ ys ++ Z.drop 1).take (i + 1) = es.take i ++ ys := by
  rw [List.take_append_of_le_length (by rw [List.length_append]; omega),List.take_of_length_le (by rw [List.length_append]; omega)]
 have dp2 : (es.take i ++ ys ++ Z.drop 1).drop (i + 1 + (es.drop i).length) = [] := List.drop_of_length_le (by rw [len2,List.length_drop]; omega)
 rw [tk2,dp2,List.append_nil] at l3 sr3
 have hcp2 : ∀ ty dc sc,(Builtin.copy_ #[22,22] ty #[.slice (some ⟨σ.w.heap.size,(i + 1) * 29,none⟩) (c - i) dc,.slice (some ⟨σ.r n,i * 29,none⟩) (c - i) sc]).run Tryz.prog σ2.w.drew = .ok (goInt ((c : Int) - (i : Int))) (σ2.w.drew.setCells σ.w.heap.size ((i + 1) * 29) (full.drop (i * 29))) := fun ty dc sc => by
  have hb := b2
  rw [r2,← r1] at hb
  have := run_copy_raw (P := Tryz.prog) Tryz.underlying22 hz ty (ts := #[22,22]) rfl (w := σ2.w.drew) (dB := σ.w.heap.size) (dO := (i + 1) * 29) (dl := c - i) (dc := dc) (sB := σ.r n) (sO := i * 29) (sl := c - i) (sc := sc) (k := c - i) (by omega) hdl
   (fun j v hj => by
    rw [List.getElem?_drop] at hj
    show σ2.w.cell? _ = _
    rw [w2,← r1,cell_same (heap_setCells_ne _ _ _ _ _ (by omega)),keep1 _ _ hbw,cell_of_heap hw]
    exact q6 _ _ hj) hb (by rw [hs2]; exact s2) (by rw [hs2,hdl]; omega) honeF
  rwa [show ((c - i : Nat) : Int) = (c : Int) - (i : Int) by omega] at this
 rw [← w2] at hcp1
 refine (insert_grow (σ.r n) c c i σ.w.heap.size G (σ.r m) vc σ.w σ1.w σ2.w _ hi (Nat.le_refl _) (by omega) hbig hGn happ hcp1 hcp2).mono ?_
 rintro e w' ⟨rfl,rfl⟩
 refine ⟨σ2.drew.write n ((i + 1) * 29) (full.drop (i * 29)) (.cells (es.take i ++ ys ++ es.drop i) 29 fz),_,rfl,?_,?_,d2,((l1.trans sr1 l2 sr2).trans sr2 l20 sr20).trans sr20 l3 sr3,sr3,?_⟩
 ·show σ2.w.drew.setCells (σ2.r n) _ _ = _
  rw [r2,← r1]
 ·show upd σ2.h n _ = _
  rw [h2,upd_upd]
 ·have b3 : (σ2.drew.write n ((i + 1) * 29) (full.drop (i * 29)) (.cells (es.take i ++ ys ++ es.drop i) 29 fz)).w.heap[(σ2.drew.write n ((i + 1) * 29) (full.drop (i * 29)) (.cells (es.take i ++ ys ++ es.drop i) 29 fz)).r n]? = some (.cells (arrSet (arrSet arr1 (i * 29) vfull) ((i + 1) * 29) (full.drop (i * 29))) t1 rg1) := heap_setCells _ _ _ _ _ _ _ b2
  have len3 : (es.take i ++ ys ++ es.drop i).length = c + 1 := by rw [List.length_append,List.length_append,hti,List.length_drop,hy]; omega
  have := VR.sl (σ := σ2.drew.write n ((i + 1) * 29) (full.drop (i * 29)) (.cells (es.take i ++ ys ++ es.drop i) 29 fz)) (n := n) (off := 0) (len := c + 1) (cap' := G) (cap := none) (upd_same _ _ _) b3 (by omega) (by rw [size_arrSet,hs2,Nat.zero_add]; exact hr1) hGn ⟨fun _ h => (by cases h),fun _ => by omega⟩
  rw [len3] at this
  simpa [Sg.write,Sg.drew,r2,← r1] using this
set_option maxRecDepth 100000 in
theorem valid_insert {H : Heap} (hn : look H.objs n = some (.cells es 29 fz)) (hm : look H.objs m = some (.cells ys 29 fzm)) (hne : m ≠ n)
  (hg : es.length = g) (hy : ys.length = 1) (hi : i ≤ g) (hfz : fz ≤ i) (hbig : g ≤ 1000000) (hse : es.all (·.all AV.storable) = true) (hsy : ys.all (·.all AV.storable) = true) :
  Valid2 Tryz.prog 211 [.sl n g 0 g none,.sc (.int .i64 i),.sl m 1 0 1 mc] H (.ret (.sl n (g + 1) 0 (g + 1) none)) ⟨put H.objs n (.cells (es.take i ++ ys ++ es.drop i) 29 fz),H.next⟩ := by
 refine ⟨⟨_,Tryz.func211,rfl,by kernel_rfl⟩,?_⟩
 intro σ vs sr hσ hfr hv
 have hn' : σ.h n = some (.cells es 29 fz) := by rw [hσ]; exact hn
 have hm' : σ.h m = some (.cells ys 29 fzm) := by rw [hσ]; exact hm
 cases hv with
 | cons h1 hv =>
 cases hv with
 | cons h2 hv =>
 cases hv with
 | cons h3 hv =>
 cases hv
 rename_i sv iv vv
 obtain ⟨rfl,_⟩ := h2.sc_inv
 have key : Calls Tryz.prog 211 #[sv,.int .i64 i,vv] σ.w (InsPost σ n g (es.take i ++ ys ++ es.drop i) fz) := by
  by_cases hig : i = g
  ·subst hig
   rw [List.take_of_length_le (by omega),List.drop_of_length_le (by omega),List.append_nil]
   exact ins_end sr (hfr H.next (Nat.le_refl _)) h1 h3 hn' hm' hg hy hfz hbig hsy
  ·obtain ⟨c,arr,t,rg,rfl,_⟩ := h1.sl_inv sr hn' hg
   by_cases hc : g + 1 ≤ c
   ·exact ins_shift sr h1 h3 hn' hm' hne hg hy (by omega) hfz hbig hse hsy (fun b c' e => by cases e; exact hc)
   ·exact ins_grow sr h1 h3 hn' hm' hne hg hy (by omega) hfz hbig hse hsy (fun b c' e => by cases e; omega)
 refine key.mono ?_
 rintro e w' ⟨σ',x,rfl,hw,hh,hd,l,sr',hx⟩
 refine ⟨σ',hw,?_,l,sr',Nat.le_refl _,fun k hk => .inl (.inr (by rw [← hd]; exact hk)),fun k hk => ?_,hx⟩
 ·rw [hh,hσ]
  funext k
  simp only [look_put,upd]
  by_cases e : k = n
  ·subst e; simp
  ·rw [if_neg e,if_neg (fun q => e q.symm)]
 ·obtain ⟨q1,q2⟩ := hfr k hk
  refine ⟨?_,by rw [hd]; exact q2⟩
  rw [hh]
  unfold upd
  split
  ·rename_i e; subst e; rw [hn'] at q1; cases q1
  ·exact q1
end
end
end Go.Abs
end
section
namespace Go.Abs.RL
open Go.Proofs Go.Proofs.RLP Go.Proofs.RMH
noncomputable section
noncomputable abbrev P : Program := Tryz.prog
theorem mixed : P.follows .mixedOrders = true := by kernel_rfl
theorem names : P.funcs.toList.all (fun fn => !(fn.name == "runtime.NumGoroutine")) = true := by kernel_rfl
noncomputable def intsV : List Value → Option (List Int)
 | [] => some []
 | .int .i64 n :: r => match intsV r with | some l => some (n :: l) | none => none
 | _ => none
theorem intsV_eq : ∀ {vs : List Value} {l : List Int},intsV vs = some l → vs = l.map (Value.int .i64)
 | [],l,h => by cases h; rfl
 | v :: r,l,h => by
  unfold intsV at h
  split at h
  ·rename_i e; cases e
  ·rename_i n r' e
   cases e
   split at h
   ·rename_i l' hl
    cases h
    rw [intsV_eq hl]
    rfl
   ·cases h
  ·cases h
noncomputable def find1 (args : List AV) : Option Out := match args with
 | [.sc (.string s),.sc (.int .u8 b)] => some (.ret (.sc (.int .i64 (Lib.indexByte s.data.toList b.toNat.toUInt8))))
 | _ => none
noncomputable def sorted1 (args : List AV) : Option Out := match args with
 | [.imp keys _] => match intsV keys with
  | some l => bif Nat.ble l.length 1000000 then some (.ret (.isl (i64s (sortI l)) false)) else none
  | none => none
 | _ => none
noncomputable def caught1 (c1 : FuncId → List AV → Option Out) (args : List AV) : Option Out := match args with
 | [.fn (.func g) first caps] => match c1 g (first ++ caps) with
  | some (.ret _) => some (.ret (.sc (.int .i64 0)))
  | some (.pan (.ifc 354 (.agg [.sc (.int .i64 n)]))) => some (.ret (.sc (.int .i64 n)))
  | _ => none
 | _ => none
noncomputable def insert2 (args : List AV) (H : Heap) : Option (Out × Heap) := match args with
 | [.sl n g 0 l none,.sc (.int .i64 i),.sl m 1 0 1 _] => match look H.objs n,look H.objs m with
  | some (.cells es s fz),some (.cells ys s' _) =>
   if m ≠ n ∧ es.length = g ∧ l = g ∧ ys.length = 1 ∧ 0 ≤ i ∧ i.toNat ≤ g ∧ fz ≤ i.toNat ∧ g ≤ 1000000 ∧ s = 29 ∧ s' = 29 ∧ es.all (·.all AV.storable) = true ∧ ys.all (·.all AV.storable) = true then
    some (.ret (.sl n (g + 1) 0 (g + 1) none),⟨put H.objs n (.cells (es.take i.toNat ++ ys ++ es.drop i.toNat) 29 fz),H.next⟩) else none
  | _,_ => none
 | _ => none
theorem valid_fits {a b : ByteArray} (h : asciiB a = true) (hs : a.size ≤ 1000000) : Valid P 193 [.sc (.string a),.sc (.string b)] (.ret (.sc (.bool (fitsL a.data.toList b.data.toList)))) := by
 refine ⟨⟨_,Tryz.func193,rfl,by kernel_rfl⟩,?_⟩
 intro w I J vs hI hJ hv
 cases hv with
 | cons h1 hs' =>
 cases hs' with
 | cons h2 hs' =>
 cases hs'
 cases h1
 cases h2
 refine (fits_walk a b w hs h).mono ?_
 rintro e w' ⟨rfl,hb⟩
 exact ⟨hb,I,J,fun _ _ h => h,fun _ _ h => .inl h,fun _ h => h,fun _ h => .inl h,.sc rfl⟩
theorem valid_pieces {a : ByteArray} (h : asciiB a = true) (hs : a.size ≤ 1000000) : Valid P 192 [.sc (.string a)] (.ret (.isl ((cutS a.data.toList []).map fun s => [.sc (.string s)]) false)) := by
 refine ⟨⟨_,Tryz.func192,rfl,by kernel_rfl⟩,?_⟩
 intro w I J vs hI hJ hv
 cases hv with
 | cons h1 hs' =>
 cases hs'
 cases h1
 refine (pieces_walk a w hs h).mono ?_
 rintro e w' ⟨v,rfl,hrow,hb⟩
 obtain ⟨I',h1,h2,h3⟩ := RM.strs_show (I := I) (J := J) (w := w) hrow (by omega) (RM.cutS_ne _ _)
 exact ⟨hb,I',J,h1,h2,fun _ h => h,fun _ h => .inl h,h3⟩
noncomputable def pieces1 (args : List AV) : Option Out := match args with
 | [.sc (.string s)] => bif asciiB s && Nat.ble s.size 1000000 then some (.ret (.isl ((cutS s.data.toList []).map fun s => [.sc (.string s)]) false)) else none
 | _ => none
noncomputable def fits1 (args : List AV) : Option Out := match args with
 | [.sc (.string s),.sc (.string t)] => bif asciiB s && Nat.ble s.size 1000000 then some (.ret (.sc (.bool (fitsL s.data.toList t.data.toList)))) else none
 | _ => none
theorem pieces1_ok {args : List AV} {r : Out} (h : pieces1 args = some r) : Valid P 192 args r := by
 unfold pieces1 at h
 split at h
 ·rename_i s
  cases hb : (asciiB s && Nat.ble s.size 1000000) with
  | true =>
   rw [hb] at h
   cases h
   rw [Bool.and_eq_true] at hb
   exact valid_pieces hb.1 (Nat.le_of_ble_eq_true hb.2)
  | false => rw [hb] at h; cases h
 ·cases h
theorem fits1_ok {args : List AV} {r : Out} (h : fits1 args = some r) : Valid P 193 args r := by
 unfold fits1 at h
 split at h
 ·rename_i s t
  cases hb : (asciiB s && Nat.ble s.size 1000000) with
  | true =>
   rw [hb] at h
   cases h
   rw [Bool.and_eq_true] at hb
   exact valid_fits hb.1 (Nat.le_of_ble_eq_true hb.2)
  | false => rw [hb] at h; cases h
 ·cases h
noncomputable def sp : Abs.Spec where
 s1 := fun f args c1 => bif Nat.beq f 332 then find1 args else bif Nat.beq f 221 then sorted1 args else bif Nat.beq f 291 then caught1 c1 args else bif Nat.beq f 192 then pieces1 args else bif Nat.beq f 193 then fits1 args else none
 s2 := fun f args H c2 => bif Nat.beq f 211 then insert2 args H else none
theorem specs : SpecOK P sp where
 s1 := fun c1 hc f args r h => by
  simp only [sp] at h
  cases h1 : Nat.beq f 332 with
  | true =>
   rw [h1] at h
   cases Nat.eq_of_beq_eq_true h1
   simp only [cond_true,find1] at h
   split at h
   ·cases h; exact valid_find _ _
   ·cases h
  | false =>
   rw [h1] at h
   cases h2 : Nat.beq f 221 with
   | true =>
    rw [h2] at h
    cases Nat.eq_of_beq_eq_true h2
    simp only [cond_true,cond_false,sorted1] at h
    split at h
    ·split at h
     ·rename_i l hl
      cases hb : Nat.ble l.length 1000000 with
      | true =>
       rw [hb] at h
       cases h
       rw [intsV_eq hl]
       exact valid_sorted l _ (Nat.le_of_ble_eq_true hb)
      | false => rw [hb] at h; cases h
     ·cases h
    ·cases h
   | false =>
    rw [h2] at h
    cases h3 : Nat.beq f 291 with
    | true =>
     rw [h3] at h
     cases Nat.eq_of_beq_eq_true h3
     simp only [cond_true,cond_false,caught1] at h
     split at h
     ·split at h
      ·rename_i hq
       cases h
       exact valid_decided_ret (hc _ _ _ hq)
      ·rename_i hq
       cases h
       exact valid_decided_pan (hc _ _ _ hq)
      ·cases h
     ·cases h
    | false =>
     rw [h3] at h
     cases h4 : Nat.beq f 192 with
     | true =>
      rw [h4] at h
      cases Nat.eq_of_beq_eq_true h4
      exact pieces1_ok h
     | false =>
      rw [h4] at h
      cases h5 : Nat.beq f 193 with
      | true =>
       rw [h5] at h
       cases Nat.eq_of_beq_eq_true h5
       exact fits1_ok h
      | false => rw [h5] at h; cases h
 s2 := fun c2 hc f args H r H' h => by
  simp only [sp] at h
  cases h1 : Nat.beq f 211 with
  | true =>
   rw [h1] at h
   cases Nat.eq_of_beq_eq_true h1
   simp only [cond_true,insert2] at h
   split at h
   ·split at h
    ·rename_i hn hm
     split at h
     ·rename_i hh
      obtain ⟨q1,q2,rfl,q4,q5,q6,q7,q8,rfl,rfl,q11,q12⟩ := hh
      cases h
      obtain ⟨k,rfl⟩ := Int.eq_ofNat_of_zero_le q5
      exact valid_insert hn hm q1 q2 q4 q6 q7 q8 q11 q12
     ·cases h
    ·cases h
   ·cases h
  | false => rw [h1] at h; cases h
def inl : List FuncId := [60,65,66,73,122,126,169,183,191,211,224,247,248,268,269,270,271,272,273,274,275,276,277,278,279,289,290,300,304,338,379,380,381,382,383,394,446,460,488,513,525]
def own : List FuncId := [137,186,187,190,210,216,220,363,437]
end
end Go.Abs.RL
end
section
namespace Go.Abs.RL
noncomputable section
def d0 : List AV := [(.agg [(.sc (zs ⟨#[]⟩)),(.sc (zi 0)),(.sc (zi 0)),(.sc (.bool false)),(.sc (zs ⟨#[]⟩)),(.sc nsl),(.sc nsl),(.sc nsl),(.sc nsl),(.sc (zi 0)),(.sc (zi 0)),(.sc (zi 0)),(.sc (zi 0)),(.sc (zi 0)),(.sc (zi 0)),(.sc (zi 0))])]
def d1 : List AV := [(.sc (zi 3650182879708452992)),(.sc (zs ⟨#[33,114,58,97]⟩)),(.sc (zs ⟨#[64,117,58,97]⟩)),(.sc (zi 1)),(.sc (.bool true)),(.sc (zs ⟨#[]⟩)),(.sc (zi 1)),(.sc (zi 1)),(.sc nsl),(.sc nsl),(.sc (zs ⟨#[]⟩)),(.sc (zi 0)),(.sc (zi 0)),(.sc (.bool false)),(.sc (zs ⟨#[]⟩)),(.sc nsl),(.sc nsl),(.sc nsl),(.sc nsl),(.sc (zi 0)),(.sc (zi 0)),(.sc (zi 0)),(.sc (zi 0)),(.sc (zi 0)),(.sc (zi 0)),(.sc (zi 0)),(.sc (zi 585502832614925413)),(.sc (zs ⟨#[97]⟩)),(.sc (zi 3650182879708452992))]
def d2 : List AV := [(.sc (zi 1671692878527444864)),(.sc (zs ⟨#[33,114,58,97]⟩)),(.sc (zs ⟨#[64,117,58,97]⟩)),(.sc (zi 2)),(.sc (.bool true)),(.sc (zs ⟨#[64,117,58,97]⟩)),(.sc (zi 1)),(.sc (zi 2)),(.isl (i64s [3650182879708452992]) false),(.isl (i64s [3650182879708452992]) false),(.sc (zs ⟨#[]⟩)),(.sc (zi 3)),(.sc (zi 0)),(.sc (.bool false)),(.sc (zs ⟨#[]⟩)),(.sc nsl),(.sc nsl),(.sc nsl),(.sc nsl),(.sc (zi 0)),(.sc (zi 0)),(.sc (zi 0)),(.sc (zi 0)),(.sc (zi 0)),(.sc (zi 0)),(.sc (zi 0)),(.sc (zi 4377712874323737347)),(.sc (zs ⟨#[97]⟩)),(.sc (zi 1671692878527444864))]
def d3 : List AV := [(.sc (zi 1)),(.sc (zs ⟨#[]⟩)),(.sc (zi 3650182879708452992))]
def d4 : List AV := [(.sc (zi 3650182879708452992)),(.sc nsl),(.isl [d3] false),(.sc (zi 0))]
def d5 : List AV := [(.sc (zi 2)),(.sc (zs ⟨#[64,117,58,97]⟩)),(.sc (zi 1671692878527444864))]
def d6 : List AV := [(.sc (zi 1671692878527444864)),(.isl [d3] false),(.isl [d3,d5] false),(.sc (zi 0))]
def d7 : List AV := [(.sc (zi 1159420052813644354)),(.sc (zs ⟨#[33,114,58,97]⟩)),(.sc (zs ⟨#[64,117,58,97]⟩)),(.sc (zi 3)),(.sc (.bool true)),(.sc (zs ⟨#[]⟩)),(.sc (zi 1)),(.sc (zi 3)),(.isl (i64s [1671692878527444864]) false),(.isl (i64s [1671692878527444864,3650182879708452992]) false),(.sc (zs ⟨#[]⟩)),(.sc (zi 0)),(.sc (zi 0)),(.sc (.bool false)),(.sc (zs ⟨#[]⟩)),(.sc nsl),(.sc nsl),(.isl [[(.sc (zs ⟨#[64,117,58,97]⟩)),(.sc (zi 100))]] true),(.sc nsl),(.sc (zi 0)),(.sc (zi 0)),(.sc (zi 0)),(.sc (zi 0)),(.sc (zi 50)),(.sc (zi 50)),(.sc (zi 50)),(.sc (zi 3785976475209561664)),(.sc (zs ⟨#[97]⟩)),(.sc (zi 1159420052813644354))]
def d8 : List AV := [(.sc (zi 3)),(.sc (zs ⟨#[]⟩)),(.sc (zi 1159420052813644354))]
def d9 : List AV := [(.sc (zi 1159420052813644354)),(.isl [d3,d5] false),(.isl [d3,d5,d8] false),(.sc (zi 0))]
def d10 : List AV := [(.sc (zi 1859570287335594878)),(.sc (zs ⟨#[33,114,58,97]⟩)),(.sc (zs ⟨#[64,117,58,97]⟩)),(.sc (zi 4)),(.sc (.bool true)),(.sc (zs ⟨#[]⟩)),(.sc (zi 1)),(.sc (zi 4)),(.isl (i64s [1159420052813644354]) false),(.isl (i64s [1159420052813644354,1671692878527444864,3650182879708452992]) false),(.sc (zs ⟨#[]⟩)),(.sc (zi 1)),(.sc (zi 0)),(.sc (.bool false)),(.sc (zs ⟨#[]⟩)),(.sc nsl),(.sc nsl),(.sc nsl),(.sc nsl),(.sc (zi 0)),(.sc (zi 0)),(.sc (zi 0)),(.sc (zi 0)),(.sc (zi 0)),(.sc (zi 0)),(.sc (zi 0)),(.sc (zi 312344173708733423)),(.sc (zs ⟨#[97]⟩)),(.sc (zi 1859570287335594878))]
def d11 : List AV := [(.sc (zi 4)),(.sc (zs ⟨#[]⟩)),(.sc (zi 1859570287335594878))]
def d12 : List AV := [(.sc (zi 1859570287335594878)),(.isl [d3,d5,d8] false),(.isl [d3,d5,d8,d11] false),(.sc (zi 0))]
def d13 : List AV := [(.sc (zi 715419231337816976)),(.sc (zs ⟨#[33,114,58,97]⟩)),(.sc (zs ⟨#[64,117,58,97]⟩)),(.sc (zi 5)),(.sc (.bool true)),(.sc (zs ⟨#[]⟩)),(.sc (zi 1)),(.sc (zi 5)),(.isl (i64s [1859570287335594878]) false),(.isl (i64s [1159420052813644354,1671692878527444864,3650182879708452992]) false),(.sc (zs ⟨#[]⟩)),(.sc (zi 0)),(.sc (zi 0)),(.sc (.bool false)),(.sc (zs ⟨#[]⟩)),(.sc nsl),(.sc nsl),(.sc nsl),(.sc nsl),(.sc (zi 0)),(.sc (zi 0)),(.sc (zi 0)),(.sc (zi 0)),(.sc (zi 0)),(.sc (zi 0)),(.sc (zi 0)),(.sc (zi 585502832614925413)),(.sc (zs ⟨#[97]⟩)),(.sc (zi 715419231337816976))]
def d14 : List AV := [(.sc (zi 0)),(.sc (zi 3650182879708452992)),(.sc (zi 4)),(.sc (.bool false))]
def d15 : List AV := [(.sc (zi 1)),(.sc (zi 1671692878527444864)),(.sc (zi 4)),(.sc (.bool false))]
def d16 : List AV := [(.sc (zi 2)),(.sc (zi 1159420052813644354)),(.sc (zi 4)),(.sc (.bool false))]
def d17 : List AV := [(.sc (zi 3)),(.sc (zi 1859570287335594878)),(.sc (zi 4)),(.sc (.bool false))]
def d18 : List AV := [(.isl [d13,d7,d2,d10,d1] false),(.sc (zi 3650182879708452992))]
def d19 : List AV := [(.sc (zi 5)),(.sc (zs ⟨#[]⟩)),(.sc (zi 715419231337816976))]
def d20 : List AV := [(.sc (zi 4)),(.sc (zi 715419231337816976)),(.sc (zi 4)),(.sc (.bool false))]
def d21 : List AV := [(.sc (zi 2)),(.sc (zs ⟨#[64,117,58,97]⟩))]
def d22 : List AV := [(.isl [d13,d7,d2,d10,d1] false),(.agg d10)]
def d23 : List AV := [(.sc (zi 1263827788225221940)),(.sc (zs ⟨#[33,114,58,97]⟩)),(.sc (zs ⟨#[64,117,58,97]⟩)),(.sc (zi 2)),(.sc (.bool true)),(.sc (zs ⟨#[64,118,58,98]⟩)),(.sc (zi 9)),(.sc (zi 6)),(.isl (i64s [715419231337816976]) false),(.isl (i64s [1159420052813644354,1671692878527444864,3650182879708452992]) false),(.sc (zs ⟨#[115,112,97,109]⟩)),(.sc (zi 4)),(.sc (zi 0)),(.sc (.bool false)),(.sc (zs ⟨#[]⟩)),(.sc nsl),(.sc nsl),(.sc nsl),(.sc nsl),(.sc (zi 0)),(.sc (zi 0)),(.sc (zi 0)),(.sc (zi 0)),(.sc (zi 0)),(.sc (zi 0)),(.sc (zi 0)),(.sc (zi 13891403296620570)),(.sc (zs ⟨#[97]⟩)),(.sc (zi 1263827788225221940))]
def d24 : List AV := [(.isl [d13,d7,d23,d2,d10,d1] false)]
def d25 : List AV := [(.isl [d13,d7,d23,d2,d10,d1] false),(.agg d23)]
def a0 : List AV := [(.sc (zs ⟨#[33,114,58,97]⟩))]
def r0 : Out := (.ret (.sc (zi 0)))
def a1 : List AV := [(.sc (zs ⟨#[64,117,58,97]⟩))]
def r1 : Out := (.ret (.sc (zi 0)))
def a2 : List AV := [(.sc (zs ⟨#[64,117,58,97]⟩))]
def r2 : Out := (.ret (.sc (zs ⟨#[97]⟩)))
def a3 : List AV := d0
def r3 : Out := (.ret (.isl (u8s [0,0,0,0,0,0,0,0,0,0,0,0,0,0,0,0]) false))
def a4 : List AV := [(.agg d1)]
def r4 : Out := (.ret (.sc (zi 0)))
def a5 : List AV := [(.agg d1),(.sc nsl)]
def r5 : Out := (.ret (.sc (zi 0)))
def a6 : List AV := [(.agg d1),(.isl [] true)]
def r6 : Out := (.ret (.sc (zi 0)))
def a7 : List AV := [(.agg [(.sc (zs ⟨#[]⟩)),(.sc (zi 3)),(.sc (zi 0)),(.sc (.bool false)),(.sc (zs ⟨#[]⟩)),(.sc nsl),(.sc nsl),(.sc nsl),(.sc nsl),(.sc (zi 0)),(.sc (zi 0)),(.sc (zi 0)),(.sc (zi 0)),(.sc (zi 0)),(.sc (zi 0)),(.sc (zi 0))])]
def r7 : Out := (.ret (.isl (u8s [0,6,0,0,0,0,0,0,0,0,0,0,0,0,0,0]) false))
def a8 : List AV := [(.isl (u8s [0,8,33,114,58,97,8,64,117,58,97,4,1,8,64,117,58,97,2,4,2,128,226,224,227,170,255,134,168,101,2,128,226,224,227,170,255,134,168,101,32,0,6,0,0,0,0,0,0,0,0,0,0,0,0,0,0,134,236,195,171,200,170,225,192,121,0,0]) false)]
def r8 : Out := (.ret (.sc (zi 1671692878527444864)))
def a9 : List AV := [(.isl [d1] true),(.sc (zs ⟨#[64,117,58,97]⟩)),(.sc (zi 2)),(.sc (zs ⟨#[64,117,58,97]⟩)),(.agg [(.sc (zs ⟨#[]⟩)),(.sc (zi 3)),(.sc (zi 0)),(.sc (.bool false)),(.sc (zs ⟨#[]⟩)),(.sc nsl),(.sc nsl),(.sc nsl),(.sc nsl),(.sc (zi 0)),(.sc (zi 0)),(.sc (zi 0)),(.sc (zi 0)),(.sc (zi 0)),(.sc (zi 0)),(.sc (zi 0))]),(.sc (zi 1))]
def r9 : Out := (.ret (.tup [(.agg d2),(.sc (zi 0))]))
def a10 : List AV := [(.agg d2)]
def r10 : Out := (.ret (.sc (zi 0)))
def a11 : List AV := [(.agg d2)]
def r11 : Out := (.ret (.isl [[(.sc (zi 1)),(.sc (zs ⟨#[]⟩)),(.sc (zi 0))],[(.sc (zi 2)),(.sc (zs ⟨#[64,117,58,97]⟩)),(.sc (zi 0))],[(.sc (zi 3)),(.sc (zs ⟨#[]⟩)),(.sc (zi 0))],[(.sc (zi 4)),(.sc (zs ⟨#[]⟩)),(.sc (zi 0))]] false))
def a12 : List AV := [(.agg d2),(.isl [d1] false)]
def r12 : Out := (.ret (.sc (zi 0)))
def a13 : List AV := [(.isl [d2,d1] false)]
def r13 : Out := (.ret (.isl [d4,d6] false))
def a14 : List AV := [(.isl [d2,d1] false),(.isl [d4,d6] false)]
def r14 : Out := (.ret (.isl (i64s [1671692878527444864]) false))
def a15 : List AV := [(.isl [d2,d1] false),(.agg [(.sc (zi 0)),(.sc (zs ⟨#[]⟩)),(.sc (zs ⟨#[64,117,58,97]⟩)),(.sc (zi 3)),(.sc (.bool false)),(.sc (zs ⟨#[]⟩)),(.sc (zi 1)),(.sc (zi 0)),(.sc nsl),(.sc nsl),(.sc (zs ⟨#[]⟩)),(.sc (zi 0)),(.sc (zi 0)),(.sc (.bool false)),(.sc (zs ⟨#[]⟩)),(.sc nsl),(.sc nsl),(.isl [[(.sc (zs ⟨#[64,117,58,97]⟩)),(.sc (zi 100))]] true),(.sc nsl),(.sc (zi 0)),(.sc (zi 0)),(.sc (zi 0)),(.sc (zi 0)),(.sc (zi 50)),(.sc (zi 50)),(.sc (zi 50)),(.sc (zi 0)),(.sc (zs ⟨#[]⟩)),(.sc (zi 0))])]
def r15 : Out := (.ret (.tup [(.agg [(.sc (zi 0)),(.sc (zs ⟨#[33,114,58,97]⟩)),(.sc (zs ⟨#[64,117,58,97]⟩)),(.sc (zi 3)),(.sc (.bool true)),(.sc (zs ⟨#[]⟩)),(.sc (zi 1)),(.sc (zi 3)),(.isl (i64s [1671692878527444864]) false),(.isl (i64s [1671692878527444864,3650182879708452992]) false),(.sc (zs ⟨#[]⟩)),(.sc (zi 0)),(.sc (zi 0)),(.sc (.bool false)),(.sc (zs ⟨#[]⟩)),(.sc nsl),(.sc nsl),(.isl [[(.sc (zs ⟨#[64,117,58,97]⟩)),(.sc (zi 100))]] true),(.sc nsl),(.sc (zi 0)),(.sc (zi 0)),(.sc (zi 0)),(.sc (zi 0)),(.sc (zi 50)),(.sc (zi 50)),(.sc (zi 50)),(.sc (zi 0)),(.sc (zs ⟨#[]⟩)),(.sc (zi 0))]),(.sc (zi 0))]))
def a16 : List AV := [(.agg [(.sc (zs ⟨#[]⟩)),(.sc (zi 0)),(.sc (zi 0)),(.sc (.bool false)),(.sc (zs ⟨#[]⟩)),(.sc nsl),(.sc nsl),(.isl [[(.sc (zs ⟨#[64,117,58,97]⟩)),(.sc (zi 100))]] true),(.sc nsl),(.sc (zi 0)),(.sc (zi 0)),(.sc (zi 0)),(.sc (zi 0)),(.sc (zi 50)),(.sc (zi 50)),(.sc (zi 50))])]
def r16 : Out := (.ret (.isl (u8s [0,0,0,0,0,0,0,2,8,64,117,58,97,200,1,0,0,0,0,0,100,100,100]) false))
def a17 : List AV := [(.isl (u8s [0,8,33,114,58,97,8,64,117,58,97,6,1,0,2,6,2,128,222,237,226,156,244,133,179,46,4,128,222,237,226,156,244,133,179,46,128,226,224,227,170,255,134,168,101,46,0,0,0,0,0,0,0,2,8,64,117,58,97,200,1,0,0,0,0,0,100,100,100,128,217,207,205,242,226,190,138,105,0,0]) false)]
def r17 : Out := (.ret (.sc (zi 1159420052813644354)))
def a18 : List AV := [(.isl [d2,d1] false),(.sc (zs ⟨#[64,117,58,97]⟩)),(.sc (zi 3)),(.sc (zs ⟨#[]⟩)),(.agg [(.sc (zs ⟨#[]⟩)),(.sc (zi 0)),(.sc (zi 0)),(.sc (.bool false)),(.sc (zs ⟨#[]⟩)),(.sc nsl),(.sc nsl),(.isl [[(.sc (zs ⟨#[64,117,58,97]⟩)),(.sc (zi 100))]] true),(.sc nsl),(.sc (zi 0)),(.sc (zi 0)),(.sc (zi 0)),(.sc (zi 0)),(.sc (zi 50)),(.sc (zi 50)),(.sc (zi 50))]),(.sc (zi 1))]
def r18 : Out := (.ret (.tup [(.agg d7),(.sc (zi 0))]))
def a19 : List AV := [(.agg d7)]
def r19 : Out := (.ret (.sc (zi 0)))
def a20 : List AV := [(.isl [d7,d2,d1] false)]
def r20 : Out := (.ret (.sc (zi 0)))
def a21 : List AV := [(.agg d7),(.isl [d1,d2] false)]
def r21 : Out := (.ret (.sc (zi 0)))
def a22 : List AV := [(.isl [d7,d2,d1] false)]
def r22 : Out := (.ret (.isl [d4,d6,d9] false))
def a23 : List AV := [(.isl [d7,d2,d1] false),(.isl [d4,d6,d9] false)]
def r23 : Out := (.ret (.isl (i64s [1159420052813644354]) false))
def a24 : List AV := [(.agg [(.sc (zs ⟨#[]⟩)),(.sc (zi 1)),(.sc (zi 0)),(.sc (.bool false)),(.sc (zs ⟨#[]⟩)),(.sc nsl),(.sc nsl),(.sc nsl),(.sc nsl),(.sc (zi 0)),(.sc (zi 0)),(.sc (zi 0)),(.sc (zi 0)),(.sc (zi 0)),(.sc (zi 0)),(.sc (zi 0))])]
def r24 : Out := (.ret (.isl (u8s [0,2,0,0,0,0,0,0,0,0,0,0,0,0,0,0]) false))
def a25 : List AV := [(.agg [(.sc (zi 0)),(.sc (zs ⟨#[33,114,58,97]⟩)),(.sc (zs ⟨#[64,117,58,97]⟩)),(.sc (zi 4)),(.sc (.bool true)),(.sc (zs ⟨#[]⟩)),(.sc (zi 1)),(.sc (zi 4)),(.isl (i64s [1159420052813644354]) false),(.isl (i64s [1159420052813644354,1671692878527444864,3650182879708452992]) false),(.sc (zs ⟨#[]⟩)),(.sc (zi 1)),(.sc (zi 0)),(.sc (.bool false)),(.sc (zs ⟨#[]⟩)),(.sc nsl),(.sc nsl),(.sc nsl),(.sc nsl),(.sc (zi 0)),(.sc (zi 0)),(.sc (zi 0)),(.sc (zi 0)),(.sc (zi 0)),(.sc (zi 0)),(.sc (zi 0)),(.sc (zi 312344173708733423)),(.sc (zs ⟨#[]⟩)),(.sc (zi 0))])]
def r25 : Out := (.ret (.isl (u8s [0,8,33,114,58,97,8,64,117,58,97,8,1,0,2,8,2,132,137,224,150,165,153,139,151,32,6,132,137,224,150,165,153,139,151,32,128,222,237,226,156,244,133,179,46,128,226,224,227,170,255,134,168,101,32,0,2,0,0,0,0,0,0,0,0,0,0,0,0,0,0,222,175,147,153,224,215,213,213,8,0,0]) false))
def a26 : List AV := [(.isl (u8s [0,8,33,114,58,97,8,64,117,58,97,8,1,0,2,8,2,132,137,224,150,165,153,139,151,32,6,132,137,224,150,165,153,139,151,32,128,222,237,226,156,244,133,179,46,128,226,224,227,170,255,134,168,101,32,0,2,0,0,0,0,0,0,0,0,0,0,0,0,0,0,222,175,147,153,224,215,213,213,8,0,0]) false)]
def r26 : Out := (.ret (.sc (zi 1859570287335594878)))
def a27 : List AV := [(.isl [d7,d2,d1] false),(.sc (zs ⟨#[64,117,58,97]⟩)),(.sc (zi 4)),(.sc (zs ⟨#[]⟩)),(.agg [(.sc (zs ⟨#[]⟩)),(.sc (zi 1)),(.sc (zi 0)),(.sc (.bool false)),(.sc (zs ⟨#[]⟩)),(.sc nsl),(.sc nsl),(.sc nsl),(.sc nsl),(.sc (zi 0)),(.sc (zi 0)),(.sc (zi 0)),(.sc (zi 0)),(.sc (zi 0)),(.sc (zi 0)),(.sc (zi 0))]),(.sc (zi 1))]
def r27 : Out := (.ret (.tup [(.agg d10),(.sc (zi 0))]))
def a28 : List AV := [(.isl [d7,d2,d10,d1] false),(.sc (zi 3650182879708452992))]
def r28 : Out := (.ret (.tup [(.agg d1),(.sc (.bool true))]))
def a29 : List AV := [(.isl [d7,d2,d10,d1] false)]
def r29 : Out := (.ret (.sc (zi 0)))
def a30 : List AV := [(.isl [d7,d2,d10,d1] false)]
def r30 : Out := (.ret (.isl [d4,d6,d9,d12] false))
def a31 : List AV := [(.isl [d7,d2,d10,d1] false),(.isl [d4,d6,d9,d12] false)]
def r31 : Out := (.ret (.isl (i64s [1859570287335594878]) false))
def a32 : List AV := [(.isl [d7,d2,d10,d1] false),(.agg [(.sc (zi 0)),(.sc (zs ⟨#[]⟩)),(.sc (zs ⟨#[64,117,58,97]⟩)),(.sc (zi 5)),(.sc (.bool false)),(.sc (zs ⟨#[]⟩)),(.sc (zi 1)),(.sc (zi 0)),(.sc nsl),(.sc nsl),(.sc (zs ⟨#[]⟩)),(.sc (zi 0)),(.sc (zi 0)),(.sc (.bool false)),(.sc (zs ⟨#[]⟩)),(.sc nsl),(.sc nsl),(.sc nsl),(.sc nsl),(.sc (zi 0)),(.sc (zi 0)),(.sc (zi 0)),(.sc (zi 0)),(.sc (zi 0)),(.sc (zi 0)),(.sc (zi 0)),(.sc (zi 0)),(.sc (zs ⟨#[]⟩)),(.sc (zi 0))])]
def r32 : Out := (.ret (.tup [(.agg [(.sc (zi 0)),(.sc (zs ⟨#[33,114,58,97]⟩)),(.sc (zs ⟨#[64,117,58,97]⟩)),(.sc (zi 5)),(.sc (.bool true)),(.sc (zs ⟨#[]⟩)),(.sc (zi 1)),(.sc (zi 5)),(.isl (i64s [1859570287335594878]) false),(.isl (i64s [1159420052813644354,1671692878527444864,3650182879708452992]) false),(.sc (zs ⟨#[]⟩)),(.sc (zi 0)),(.sc (zi 0)),(.sc (.bool false)),(.sc (zs ⟨#[]⟩)),(.sc nsl),(.sc nsl),(.sc nsl),(.sc nsl),(.sc (zi 0)),(.sc (zi 0)),(.sc (zi 0)),(.sc (zi 0)),(.sc (zi 0)),(.sc (zi 0)),(.sc (zi 0)),(.sc (zi 0)),(.sc (zs ⟨#[]⟩)),(.sc (zi 0))]),(.sc (zi 0))]))
def a33 : List AV := [(.agg [(.sc (zi 0)),(.sc (zs ⟨#[33,114,58,97]⟩)),(.sc (zs ⟨#[64,117,58,97]⟩)),(.sc (zi 5)),(.sc (.bool true)),(.sc (zs ⟨#[]⟩)),(.sc (zi 1)),(.sc (zi 5)),(.isl (i64s [1859570287335594878]) false),(.isl (i64s [1159420052813644354,1671692878527444864,3650182879708452992]) false),(.sc (zs ⟨#[]⟩)),(.sc (zi 0)),(.sc (zi 0)),(.sc (.bool false)),(.sc (zs ⟨#[]⟩)),(.sc nsl),(.sc nsl),(.sc nsl),(.sc nsl),(.sc (zi 0)),(.sc (zi 0)),(.sc (zi 0)),(.sc (zi 0)),(.sc (zi 0)),(.sc (zi 0)),(.sc (zi 0)),(.sc (zi 585502832614925413)),(.sc (zs ⟨#[]⟩)),(.sc (zi 0))])]
def r33 : Out := (.ret (.isl (u8s [0,8,33,114,58,97,8,64,117,58,97,10,1,0,2,10,2,252,237,146,184,221,212,194,206,51,6,132,137,224,150,165,153,139,151,32,128,222,237,226,156,244,133,179,46,128,226,224,227,170,255,134,168,101,32,0,0,0,0,0,0,0,0,0,0,0,0,0,0,0,0,202,145,251,143,172,238,143,160,16,0,0]) false))
def a34 : List AV := [(.isl (u8s [0,8,33,114,58,97,8,64,117,58,97,10,1,0,2,10,2,252,237,146,184,221,212,194,206,51,6,132,137,224,150,165,153,139,151,32,128,222,237,226,156,244,133,179,46,128,226,224,227,170,255,134,168,101,32,0,0,0,0,0,0,0,0,0,0,0,0,0,0,0,0,202,145,251,143,172,238,143,160,16,0,0]) false)]
def r34 : Out := (.ret (.sc (zi 715419231337816976)))
def a35 : List AV := [(.isl [d7,d2,d10,d1] false),(.sc (zs ⟨#[64,117,58,97]⟩)),(.sc (zi 5)),(.sc (zs ⟨#[]⟩)),(.agg [(.sc (zs ⟨#[]⟩)),(.sc (zi 0)),(.sc (zi 0)),(.sc (.bool false)),(.sc (zs ⟨#[]⟩)),(.sc nsl),(.sc nsl),(.sc nsl),(.sc nsl),(.sc (zi 0)),(.sc (zi 0)),(.sc (zi 0)),(.sc (zi 0)),(.sc (zi 0)),(.sc (zi 0)),(.sc (zi 0))]),(.sc (zi 1))]
def r35 : Out := (.ret (.tup [(.agg d13),(.sc (zi 0))]))
def a36 : List AV := [(.sc (zs ⟨#[33,114,58,97]⟩)),(.sc (zs ⟨#[64,117,58,97]⟩)),(.sc (zi 1)),(.sc (zi 1)),(.sc (zi 0))]
def r36 : Out := (.ret (.tup [(.isl [d1,d2,d7,d10,d13] false),(.sc (zi 0))]))
def a37 : List AV := [(.agg [(.sc (zs ⟨#[33,114,58,97]⟩)),(.isl [d7,d2,d1] false),(.isl [d14,d15,d16] false),(.sc nsl),(.isl (i64s [1159420052813644354]) false),(.isl [d3,d5,d8] false),(.sc (zi 3)),(.sc nsl),(.sc nsl)]),(.agg d10)]
def r37 : Out := (.ret (.tup [(.agg [(.sc (zs ⟨#[33,114,58,97]⟩)),(.isl [d7,d2,d10,d1] false),(.isl [d14,d15,d16,d17] false),(.sc nsl),(.isl (i64s [1859570287335594878]) false),(.isl [d3,d5,d8,d11] false),(.sc (zi 4)),(.sc nsl),(.sc nsl)]),(.sc (zi 4)),(.sc (zi 0))]))
def a38 : List AV := d18
def r38 : Out := (.ret (.tup [(.agg d1),(.sc (.bool true))]))
def a39 : List AV := [(.isl [d13,d7,d2,d10,d1] false),(.isl [d4,d6,d9] false),(.agg d10),(.isl [d3,d5,d8] false)]
def r39 : Out := (.ret (.sc (zi 0)))
def a40 : List AV := [(.isl [d13,d7,d2,d10,d1] false),(.isl [d4,d6,d9,d12] false),(.agg d13),(.isl [d3,d5,d8,d11] false)]
def r40 : Out := (.ret (.sc (zi 0)))
def a41 : List AV := [(.isl [d13,d7,d2,d10,d1] false)]
def r41 : Out := (.ret (.isl [d4,d6,d9,d12,[(.sc (zi 715419231337816976)),(.isl [d3,d5,d8,d11] false),(.isl [d3,d5,d8,d11,d19] false),(.sc (zi 0))]] false))
def a42 : List AV := [(.isl [d13,d7,d2,d10,d1] false),(.isl [d4,d6,d9,d12,[(.sc (zi 715419231337816976)),(.isl [d3,d5,d8,d11] false),(.isl [d3,d5,d8,d11,d19] false),(.sc (zi 0))]] false)]
def r42 : Out := (.ret (.isl (i64s [715419231337816976]) false))
def a43 : List AV := [(.agg [(.sc (zs ⟨#[33,114,58,97]⟩)),(.isl [d7,d2,d10,d1] false),(.isl [d14,d15,d16,d17] false),(.sc nsl),(.isl (i64s [1859570287335594878]) false),(.isl [d3,d5,d8,d11] false),(.sc (zi 4)),(.sc nsl),(.sc nsl)]),(.agg d13)]
def r43 : Out := (.ret (.tup [(.agg [(.sc (zs ⟨#[33,114,58,97]⟩)),(.isl [d13,d7,d2,d10,d1] false),(.isl [d14,d15,d16,d17,d20] false),(.sc nsl),(.isl (i64s [715419231337816976]) false),(.isl [d3,d5,d8,d11,d19] false),(.sc (zi 5)),(.sc nsl),(.sc nsl)]),(.sc (zi 4)),(.sc (zi 0))]))
def a44 : List AV := []
def r44 : Out := (.ret (.agg [(.sc (zs ⟨#[33,114,58,97]⟩)),(.isl [d13,d7,d2,d10,d1] false),(.isl [d14,d15,d16,d17,d20] false),(.sc nsl),(.isl (i64s [715419231337816976]) false),(.isl [d3,d5,d8,d11,d19] false),(.sc (zi 5)),(.sc nsl),(.sc nsl)]))
def a45 : List AV := [(.sc (zs ⟨#[33,114,58,97]⟩))]
def r45 : Out := (.ret (.sc (zi 0)))
def a46 : List AV := [(.sc (zs ⟨#[64,117,58,97]⟩))]
def r46 : Out := (.ret (.sc (zi 0)))
def a47 : List AV := d0
def r47 : Out := (.ret (.isl (u8s [0,0,0,0,0,0,0,0,0,0,0,0,0,0,0,0]) false))
def a48 : List AV := [(.sc (zs ⟨#[64,117,58,97]⟩))]
def r48 : Out := (.ret (.sc (zs ⟨#[97]⟩)))
def a49 : List AV := [(.agg d13)]
def r49 : Out := (.ret (.sc (zi 0)))
def a50 : List AV := [(.agg d7)]
def r50 : Out := (.ret (.sc (zi 0)))
def a51 : List AV := [(.agg d2)]
def r51 : Out := (.ret (.sc (zi 0)))
def a52 : List AV := [(.agg d10)]
def r52 : Out := (.ret (.sc (zi 0)))
def a53 : List AV := [(.agg d1)]
def r53 : Out := (.ret (.sc (zi 0)))
def a54 : List AV := [(.isl [d13,d7,d2,d10,d1] false)]
def r54 : Out := (.ret (.sc (zi 0)))
def a55 : List AV := [(.isl [d13,d7,d2,d10,d1] false)]
def r55 : Out := (.ret (.isl (i64s [3650182879708452992,1671692878527444864,1159420052813644354,1859570287335594878,715419231337816976]) true))
def a56 : List AV := d18
def r56 : Out := (.ret (.tup [(.agg d1),(.sc (.bool true))]))
def a57 : List AV := [(.isl [d13,d7,d2,d10,d1] false),(.sc (zi 1671692878527444864))]
def r57 : Out := (.ret (.tup [(.agg d2),(.sc (.bool true))]))
def a58 : List AV := [(.agg d2)]
def r58 : Out := (.ret (.isl [[(.sc (zi 1)),(.sc (zs ⟨#[]⟩))],d21,[(.sc (zi 3)),(.sc (zs ⟨#[]⟩))],[(.sc (zi 4)),(.sc (zs ⟨#[]⟩))]] false))
def a59 : List AV := [(.agg d7)]
def r59 : Out := (.ret (.isl [[(.sc (zi 1)),(.sc (zs ⟨#[]⟩))],d21,[(.sc (zi 3)),(.sc (zs ⟨#[]⟩))]] false))
def a60 : List AV := [(.agg d7),(.isl [d1,d2] false)]
def r60 : Out := (.ret (.sc (zi 0)))
def a61 : List AV := [(.agg d10)]
def r61 : Out := (.ret (.isl [[(.sc (zi 1)),(.sc (zs ⟨#[]⟩))],d21,[(.sc (zi 3)),(.sc (zs ⟨#[]⟩))]] false))
def a62 : List AV := d22
def r62 : Out := (.ret (.sc (zi 0)))
def a63 : List AV := d22
def r63 : Out := (.ret (.isl [d1,d2,d7] false))
def a64 : List AV := [(.agg d10),(.isl [d1,d2,d7] false)]
def r64 : Out := (.ret (.sc (zi 0)))
def a65 : List AV := [(.agg d13)]
def r65 : Out := (.ret (.isl [[(.sc (zi 1)),(.sc (zs ⟨#[]⟩))],d21,[(.sc (zi 3)),(.sc (zs ⟨#[]⟩))]] false))
def a66 : List AV := [(.isl [d13,d7,d2,d10,d1] false),(.agg d13)]
def r66 : Out := (.ret (.sc (zi 0)))
def a67 : List AV := [(.isl [d13,d7,d2,d10,d1] false)]
def r67 : Out := (.ret (.ipt [(.imp [(zi 3650182879708452992),(zi 1671692878527444864),(zi 1159420052813644354),(zi 1859570287335594878),(zi 715419231337816976)] [(.sc nsl),(.isl [d3] false),(.isl [d3,d5] false),(.isl [d3,d5,d8] false),(.isl [d3,d5,d8,d11] false)]),(.imp [(zi 3650182879708452992),(zi 1671692878527444864),(zi 1159420052813644354),(zi 1859570287335594878),(zi 715419231337816976)] [(.isl [d3] false),(.isl [d3,d5] false),(.isl [d3,d5,d8] false),(.isl [d3,d5,d8,d11] false),(.isl [d3,d5,d8,d11,d19] false)]),(.imp [(zi 3650182879708452992),(zi 1671692878527444864),(zi 1159420052813644354),(zi 1859570287335594878),(zi 715419231337816976)] [(.sc (zi 0)),(.sc (zi 0)),(.sc (zi 0)),(.sc (zi 0)),(.sc (zi 0))])]))
def a68 : List AV := [(.isl [d13,d7,d2,d10,d1] false),(.isl [d3,d5,d8,d11,d19] false)]
def r68 : Out := (.ret (.isl [d1,d2,d7,d10,d13] false))
def a69 : List AV := [(.agg [(.sc (zi 0)),(.sc (zs ⟨#[33,114,58,97]⟩)),(.sc (zs ⟨#[64,117,58,97]⟩)),(.sc (zi 2)),(.sc (.bool true)),(.sc (zs ⟨#[64,118,58,98]⟩)),(.sc (zi 9)),(.sc (zi 6)),(.isl (i64s [715419231337816976]) false),(.isl (i64s [1159420052813644354,1671692878527444864,3650182879708452992]) false),(.sc (zs ⟨#[]⟩)),(.sc (zi 4)),(.sc (zi 0)),(.sc (.bool false)),(.sc (zs ⟨#[]⟩)),(.sc nsl),(.sc nsl),(.sc nsl),(.sc nsl),(.sc (zi 0)),(.sc (zi 0)),(.sc (zi 0)),(.sc (zi 0)),(.sc (zi 0)),(.sc (zi 0)),(.sc (zi 0)),(.sc (zi 13891403296620570)),(.sc (zs ⟨#[]⟩)),(.sc (zi 0))])]
def r69 : Out := (.ret (.isl (u8s [0,8,33,114,58,97,8,64,117,58,97,4,1,8,64,118,58,98,18,12,2,160,142,253,213,131,128,215,237,19,6,132,137,224,150,165,153,139,151,32,128,222,237,226,156,244,133,179,46,128,226,224,227,170,255,134,168,101,32,0,8,0,0,0,0,0,0,0,0,0,0,0,0,0,0,180,128,234,238,139,138,173,49,0,0]) false))
def a70 : List AV := [(.isl (u8s [0,8,33,114,58,97,8,64,117,58,97,4,1,8,64,118,58,98,18,12,2,160,142,253,213,131,128,215,237,19,6,132,137,224,150,165,153,139,151,32,128,222,237,226,156,244,133,179,46,128,226,224,227,170,255,134,168,101,32,0,8,0,0,0,0,0,0,0,0,0,0,0,0,0,0,180,128,234,238,139,138,173,49,0,0]) false)]
def r70 : Out := (.ret (.sc (zi 1263827788225221940)))
def a71 : List AV := [(.isl [d13,d7,d2,d10,d1] false),(.sc (zs ⟨#[64,117,58,97]⟩)),(.sc (zi 2)),(.sc (zs ⟨#[64,118,58,98]⟩)),(.agg [(.sc (zs ⟨#[115,112,97,109]⟩)),(.sc (zi 4)),(.sc (zi 0)),(.sc (.bool false)),(.sc (zs ⟨#[]⟩)),(.sc nsl),(.sc nsl),(.sc nsl),(.sc nsl),(.sc (zi 0)),(.sc (zi 0)),(.sc (zi 0)),(.sc (zi 0)),(.sc (zi 0)),(.sc (zi 0)),(.sc (zi 0))]),(.sc (zi 9))]
def r71 : Out := (.ret (.tup [(.agg d23),(.sc (zi 0))]))
def a72 : List AV := [(.agg d23)]
def r72 : Out := (.ret (.sc (.bool true)))
def a73 : List AV := d24
def r73 : Out := (.ret (.sc (zi 0)))
def a74 : List AV := d24
def r74 : Out := (.ret (.sc (zi 0)))
def a75 : List AV := d24
def r75 : Out := (.ret (.isl (i64s [3650182879708452992,1671692878527444864,1159420052813644354,1859570287335594878,715419231337816976,1263827788225221940]) true))
def a76 : List AV := [(.isl [d13,d7,d23,d2,d10,d1] false),(.sc (zi 3650182879708452992))]
def r76 : Out := (.ret (.tup [(.agg d1),(.sc (.bool true))]))
def a77 : List AV := [(.isl [d13,d7,d23,d2,d10,d1] false),(.sc (zi 1671692878527444864))]
def r77 : Out := (.ret (.tup [(.agg d2),(.sc (.bool true))]))
def a78 : List AV := [(.isl [d13,d7,d23,d2,d10,d1] false),(.sc (zi 1159420052813644354))]
def r78 : Out := (.ret (.tup [(.agg d7),(.sc (.bool true))]))
def a79 : List AV := [(.isl [d13,d7,d23,d2,d10,d1] false),(.agg d10)]
def r79 : Out := (.ret (.sc (zi 0)))
def a80 : List AV := [(.isl [d13,d7,d23,d2,d10,d1] false),(.agg d13)]
def r80 : Out := (.ret (.sc (zi 0)))
def a81 : List AV := d25
def r81 : Out := (.ret (.sc (zi 0)))
def a82 : List AV := d25
def r82 : Out := (.ret (.isl [d1,d2,d7] false))
def a83 : List AV := [(.agg d23),(.isl [d1,d2,d7] false)]
def r83 : Out := (.ret (.sc (zi 0)))
def a84 : List AV := [(.isl [d13,d7,d23,d2,d10,d1] false),(.isl [d3,d5,d8,d11,d19] false)]
def r84 : Out := (.ret (.isl [d1,d2,d7,d10,d13] false))
def a85 : List AV := [(.agg d23),(.isl [d1,d2,d7,d10,d13] false)]
def r85 : Out := (.ret (.sc (zi 0)))
def a86 : List AV := d24
def r86 : Out := (.ret (.ipt [(.imp [(zi 3650182879708452992),(zi 1671692878527444864),(zi 1159420052813644354),(zi 1859570287335594878),(zi 715419231337816976),(zi 1263827788225221940)] [(.sc nsl),(.isl [d3] false),(.isl [d3,d5] false),(.isl [d3,d5,d8] false),(.isl [d3,d5,d8,d11] false),(.isl [d3,d5,d8,d11,d19] false)]),(.imp [(zi 3650182879708452992),(zi 1671692878527444864),(zi 1159420052813644354),(zi 1859570287335594878),(zi 715419231337816976),(zi 1263827788225221940)] [(.isl [d3] false),(.isl [d3,d5] false),(.isl [d3,d5,d8] false),(.isl [d3,d5,d8,d11] false),(.isl [d3,d5,d8,d11,d19] false),(.isl [d3,d5,[(.sc (zi 2)),(.sc (zs ⟨#[64,118,58,98]⟩)),(.sc (zi 1263827788225221940))],d8,d11,d19] false)]),(.imp [(zi 3650182879708452992),(zi 1671692878527444864),(zi 1159420052813644354),(zi 1859570287335594878),(zi 715419231337816976),(zi 1263827788225221940)] [(.sc (zi 0)),(.sc (zi 0)),(.sc (zi 0)),(.sc (zi 0)),(.sc (zi 0)),(.sc (zi 0))])]))
def a87 : List AV := [(.agg [(.sc (zs ⟨#[33,114,58,97]⟩)),(.isl [d13,d7,d2,d10,d1] false),(.isl [d14,d15,d16,d17,d20] false),(.sc nsl),(.isl (i64s [715419231337816976]) false),(.isl [d3,d5,d8,d11,d19] false),(.sc (zi 5)),(.sc nsl),(.sc nsl)]),(.sc (zs ⟨#[64,117,58,97]⟩)),(.sc (zs ⟨#[64,118,58,98]⟩)),(.sc (zs ⟨#[115,112,97,109]⟩)),(.sc (zi 9))]
def r87 : Out := (.ret (.tup [(.agg [(.sc (zs ⟨#[33,114,58,97]⟩)),(.isl [d13,d7,d23,d2,d10,d1] false),(.isl [d14,d15,d16,d17,d20,[(.sc (zi 5)),(.sc (zi 1263827788225221940)),(.sc (zi 4)),(.sc (.bool false))]] false),(.sc nsl),(.isl (i64s [1263827788225221940]) false),(.isl [d3,d5,[(.sc (zi 2)),(.sc (zs ⟨#[64,118,58,98]⟩)),(.sc (zi 1263827788225221940))],d8,d11,d19] false),(.sc (zi 6)),(.sc nsl),(.sc nsl)]),(.agg d23),(.sc (zi 0))]))
def a88 : List AV := [(.agg [(.sc (zs ⟨#[33,114,58,97]⟩)),(.isl [d13,d7,d2,d10,d1] false),(.isl [d14,d15,d16,d17,d20] false),(.sc nsl),(.isl (i64s [715419231337816976]) false),(.isl [d3,d5,d8,d11,d19] false),(.sc (zi 5)),(.sc nsl),(.sc nsl)]),(.sc (zs ⟨#[64,118,58,98]⟩)),(.sc (zs ⟨#[64,117,58,97]⟩)),(.sc (zs ⟨#[115,112,97,109]⟩)),(.sc (zi 9))]
def r88 : Out := (.ret (.tup [(.agg [(.sc (zs ⟨#[33,114,58,97]⟩)),(.isl [d13,d7,d2,d10,d1] false),(.isl [d14,d15,d16,d17,d20] false),(.sc nsl),(.isl (i64s [715419231337816976]) false),(.isl [d3,d5,d8,d11,d19] false),(.sc (zi 5)),(.sc nsl),(.sc nsl)]),(.agg [(.sc (zi 0)),(.sc (zs ⟨#[]⟩)),(.sc (zs ⟨#[]⟩)),(.sc (zi 0)),(.sc (.bool false)),(.sc (zs ⟨#[]⟩)),(.sc (zi 0)),(.sc (zi 0)),(.sc nsl),(.sc nsl),(.sc (zs ⟨#[]⟩)),(.sc (zi 0)),(.sc (zi 0)),(.sc (.bool false)),(.sc (zs ⟨#[]⟩)),(.sc nsl),(.sc nsl),(.sc nsl),(.sc nsl),(.sc (zi 0)),(.sc (zi 0)),(.sc (zi 0)),(.sc (zi 0)),(.sc (zi 0)),(.sc (zi 0)),(.sc (zi 0)),(.sc (zi 0)),(.sc (zs ⟨#[]⟩)),(.sc (zi 0))]),(.sc (zi 18))]))
def a89 : List AV := []
def r89 : Out := (.ret (.sc (.bool true)))
end
end Go.Abs.RL
end
