/- Operations that leave the heap alone: numbers, texts, interfaces, functions. -/
import Derived.Test.YthbenojbjjgnaaaGreatUAa
set_option linter.unusedVariables false
set_option linter.unusedSimpArgs false
set_option linter.unusedSectionVars false
section
namespace Go.Abs
def KOK (P : Program) (t : TypeId) : TyK → Prop
 | .int k => P.underlying t = some (.int k)
 | .str => P.underlying t = some .string
 | .bool => P.underlying t = some .bool
 | .strct fs => ∃ fields,P.underlying t = some (.struct fields) ∧ fields.toList.map (fun f => (f.offset,f.type)) = fs ∧ ∀ f ∈ fields.toList,(P.info? f.type).isSome
 | .arr n e => P.underlying t = some (.array n e)
 | .slice e => P.underlying t = some (.slice e)
 | .map k e => P.underlying t = some (.map k e)
 | .ptr => ∃ e,P.underlying t = some (.pointer e)
 | .iface => ∃ ms,P.underlying t = some (.interface ms)
 | .other => ∃ u,P.underlying t = some u ∧ u.isRow = false
def FlatEq (P : Program) (t : TypeId) (ks : List TyK) : Prop :=
 P.eqGuardType P.depth t = false ∧ ∀ (xs ys : List Value) (b : Bool),eqVals ks xs ys = some b → ∀ w,(Op.equal t (.agg xs.toArray) (.agg ys.toArray)).run P w = .ok b w
structure DescOK (P : Program) (t : TypeId) (d : TyD) : Prop where
 info : ∃ i z,P.info? t = some i ∧ i.size = d.size ∧ i.bytes = d.bytes ∧ i.zero = some z ∧ z.cells.toList = d.zero ∧ (d.isAgg = true → z = .agg d.zero.toArray) ∧ (d.isAgg = false → d.zero = [z])
 under : KOK P t d.k
 zsc : d.zero.all scalarB = true
 zlen : d.zero.length = d.size
 flat : ∀ ks,d.flat = some ks → FlatEq P t ks
def TabOK (P : Program) (tab : Tab) : Prop := ∀ t d,tab t = some d → DescOK P t d
section
variable {P : Program} {t : TypeId} {d : TyD}
theorem DescOK.size (h : DescOK P t d) : (P.info? t).map (·.size) = some d.size := by
 obtain ⟨i,z,hi,hs,_⟩ := h.info
 simp [hi,hs]
theorem DescOK.run_sizeOf (h : DescOK P t d) (w : World) : (sizeOf t).run P w = .ok d.size w := by
 obtain ⟨i,z,hi,hs,_⟩ := h.info
 simp [sizeOf,typeInfo,hi,hs]
theorem DescOK.run_info (h : DescOK P t d) (w : World) : ∃ i,(typeInfo t).run P w = .ok i w ∧ i.size = d.size ∧ i.bytes = d.bytes := by
 obtain ⟨i,z,hi,hs,hb,_⟩ := h.info
 exact ⟨i,by simp [typeInfo,hi],hs,hb⟩
theorem DescOK.run_infos (h : DescOK P t d) : ∃ i,(∀ w,(typeInfo t).run P w = .ok i w) ∧ i.size = d.size ∧ i.bytes = d.bytes := by
 obtain ⟨i,z,hi,hs,hb,_⟩ := h.info
 exact ⟨i,fun w => by simp [typeInfo,hi],hs,hb⟩
theorem DescOK.run_zero (h : DescOK P t d) (w : World) : ∃ z,(zeroValue t).run P w = .ok z w ∧ z.cells.toList = d.zero ∧ (d.isAgg = true → z = .agg d.zero.toArray) ∧ (d.isAgg = false → d.zero = [z]) := by
 obtain ⟨i,z,hi,hs,hb,hz,h1,h2,h3⟩ := h.info
 exact ⟨z,by simp [zeroValue,typeInfo,hi,hz],h1,h2,h3⟩
theorem run_under {u : TypeDesc} (h : P.underlying t = some u) (w : World) : (underlying t).run P w = .ok u w := by simp [underlying,h]
theorem DescOK.run_isAgg (h : DescOK P t d) (w : World) : (isAgg t).run P w = .ok d.isAgg w := by
 have hu := h.under
 unfold isAgg
 cases hk : d.k <;> simp only [KOK,hk] at hu
 case strct fs =>
  obtain ⟨fields,hu,_⟩ := hu
  simp [run_under hu,TyD.isAgg,hk]
 case ptr => obtain ⟨e,hu⟩ := hu; simp [run_under hu,TyD.isAgg,hk]
 case iface => obtain ⟨e,hu⟩ := hu; simp [run_under hu,TyD.isAgg,hk]
 case other =>
  obtain ⟨u,hu,hr⟩ := hu
  cases u <;> simp_all [run_under hu,TyD.isAgg]
 all_goals simp [run_under hu,TyD.isAgg,hk]
end
theorem cells_vr {σ : Sg} {x : AV} {v : Value} {cs : List AV} (h : VR σ x v) (hc : cellsOf x = some cs) : ∃ vs,v.cells = vs.toArray ∧ VRs σ cs vs ∧ ((∃ l,x = .agg l) → v = .agg vs.toArray) := by
 have one : v.oneCell' = true → cs = [x] → ∃ vs,v.cells = vs.toArray ∧ VRs σ cs vs := fun h1 h2 =>
  ⟨[v],by cases v <;> simp_all [Value.cells,Value.oneCell'],by rw [h2]; exact VRs.one h⟩
 cases x with
 | agg l =>
  simp only [cellsOf,Option.some.injEq] at hc
  subst hc
  obtain ⟨ds,rfl,hd⟩ := h.agg_inv
  exact ⟨ds,rfl,hd,fun _ => rfl⟩
 | tup l => simp [cellsOf] at hc
 | sc y =>
  obtain ⟨rfl,hs⟩ := h.sc_inv
  have : cs = [.sc v] ∧ v.oneCell' = true := by
   cases v <;> simp_all [cellsOf,scalarB,Value.oneCell']
  obtain ⟨vs,h1,h2⟩ := one this.2 this.1
  exact ⟨vs,h1,h2,fun ⟨l,e⟩ => by cases e⟩
 | isl es c =>
  obtain ⟨a,vs,s,cap,rfl,_⟩ := h.isl_inv
  simp only [cellsOf,Option.some.injEq] at hc
  obtain ⟨vs,h1,h2⟩ := one rfl hc.symm
  exact ⟨vs,h1,h2,fun ⟨l,e⟩ => by cases e⟩
 | ipt l =>
  obtain ⟨a,vs,rfl,_⟩ := h.ipt_inv
  simp only [cellsOf,Option.some.injEq] at hc
  obtain ⟨vs,h1,h2⟩ := one rfl hc.symm
  exact ⟨vs,h1,h2,fun ⟨l,e⟩ => by cases e⟩
 | imp ks xs =>
  obtain ⟨a,vs,r,cl,rfl,_⟩ := h.imp_inv
  simp only [cellsOf,Option.some.injEq] at hc
  obtain ⟨vs,h1,h2⟩ := one rfl hc.symm
  exact ⟨vs,h1,h2,fun ⟨l,e⟩ => by cases e⟩
 | fn f first caps =>
  obtain ⟨_,a,b,rfl⟩ := h.fn_any
  simp only [cellsOf,Option.some.injEq] at hc
  obtain ⟨vs,h1,h2⟩ := one rfl hc.symm
  exact ⟨vs,h1,h2,fun ⟨l,e⟩ => by cases e⟩
 | ifc t y =>
  obtain ⟨a,rfl,_⟩ := h.ifc_inv
  simp only [cellsOf,Option.some.injEq] at hc
  obtain ⟨vs,h1,h2⟩ := one rfl hc.symm
  exact ⟨vs,h1,h2,fun ⟨l,e⟩ => by cases e⟩
 | sl n g off len cap =>
  simp only [cellsOf,Option.some.injEq] at hc
  have h1 : v.oneCell' = true := by
   cases h with
   | tree h => cases h
   | sl => rfl
   | stale hv => obtain ⟨_,_,_,rfl,_⟩ := hv; rfl
  obtain ⟨vs,h1,h2⟩ := one h1 hc.symm
  exact ⟨vs,h1,h2,fun ⟨l,e⟩ => by cases e⟩
 | pt n g i fo =>
  simp only [cellsOf,Option.some.injEq] at hc
  have h1 : v.oneCell' = true := by
   cases h with
   | tree h => cases h
   | pt => rfl
   | stale hv => obtain ⟨_,_,_,rfl⟩ := hv; rfl
  obtain ⟨vs,h1,h2⟩ := one h1 hc.symm
  exact ⟨vs,h1,h2,fun ⟨l,e⟩ => by cases e⟩
 | mp n =>
  simp only [cellsOf,Option.some.injEq] at hc
  have h1 : v.oneCell' = true := by
   cases h with
   | tree h => cases h
   | mp => rfl
   | stale hv => obtain ⟨_,_,rfl⟩ := hv; rfl
  obtain ⟨vs,h1,h2⟩ := one h1 hc.symm
  exact ⟨vs,h1,h2,fun ⟨l,e⟩ => by cases e⟩
theorem storable_vr {σ : Sg} {x : AV} {v : Value} (h : VR σ x v) (hs : x.storable = true) : v.oneCell' = true := by
 cases x with
 | agg l => simp [AV.storable] at hs
 | tup l => simp [AV.storable] at hs
 | sc y =>
  obtain ⟨rfl,h2⟩ := h.sc_inv
  cases v <;> simp_all [AV.storable,scalarB,Value.oneCell']
 | isl es c => obtain ⟨a,vs,s,cap,rfl,_⟩ := h.isl_inv; rfl
 | ipt l => obtain ⟨a,vs,rfl,_⟩ := h.ipt_inv; rfl
 | imp ks xs => obtain ⟨a,vs,r,cl,rfl,_⟩ := h.imp_inv; rfl
 | fn f first caps => obtain ⟨_,a,b,rfl⟩ := h.fn_any; rfl
 | ifc t y => obtain ⟨a,rfl,_⟩ := h.ifc_inv; rfl
 | sl n g off len cap =>
  cases h with
  | tree h => cases h
  | sl => rfl
  | stale hv => obtain ⟨_,_,_,rfl,_⟩ := hv; rfl
 | pt n g i fo =>
  cases h with
  | tree h => cases h
  | pt => rfl
  | stale hv => obtain ⟨_,_,_,rfl⟩ := hv; rfl
 | mp n =>
  cases h with
  | tree h => cases h
  | mp => rfl
  | stale hv => obtain ⟨_,_,rfl⟩ := hv; rfl
theorem storables_vr {σ : Sg} : ∀ {cs : List AV} {vs : List Value},VRs σ cs vs → cs.all AV.storable = true → ∀ v ∈ vs,v.oneCell' = true
 | _,_,.nil,_ => by simp
 | _,_,.cons h hs,ha => by
  simp only [List.all_cons,Bool.and_eq_true] at ha
  intro v hv
  rcases List.mem_cons.1 hv with rfl | hv
  ·exact storable_vr h ha.1
  ·exact storables_vr hs ha.2 v hv
theorem ofCells_vr {σ : Sg} {d : TyD} {cs : List AV} {vs : List Value} {x : AV} (h : VRs σ cs vs) (hx : ofCells d cs = some x) :
  cs.length = d.size ∧ ((d.isAgg = true ∧ VR σ x (.agg vs.toArray)) ∨ (d.isAgg = false ∧ ∃ v,vs = [v] ∧ VR σ x v)) := by
 unfold ofCells at hx
 split at hx
 ·rename_i hl
  refine ⟨hl,?_⟩
  split at hx
  ·rename_i ha
   cases hx
   exact .inl ⟨ha,.agg h⟩
  ·rename_i ha
   split at hx
   ·cases hx
    cases h with
    | cons h hs => cases hs; exact .inr ⟨by simpa using ha,_,rfl,h⟩
   ·cases hx
 ·cases hx
theorem run_loadVar_of {P : Program} {t : TypeId} {d : TyD} (hd : DescOK P t d) {σ : Sg} {b o : Nat} {cs : List AV} {vs : List Value} {x : AV} (hr : σ.w.rangeAt b o vs) (h : VRs σ cs vs)
  (hx : ofCells d cs = some x) : ∃ v,(loadVar t ⟨b,o,none⟩).run P σ.w = .ok v σ.w ∧ VR σ x v := by
 obtain ⟨hl,⟨ha,hv⟩ | ⟨ha,v,rfl,hv⟩⟩ := ofCells_vr h hx
 ·refine ⟨_,?_,hv⟩
  have hl2 := h.length
  have hc : (loadCells ⟨b,o,none⟩ d.size).run P σ.w = .ok vs.toArray σ.w := by
   rw [← hl,← hl2]
   exact run_loadCells_list (P := P) σ.w ⟨b,o,none⟩ vs (fun j v hv => by rw [Addr.add_mid]; exact hr j v hv)
  simp [loadVar,Sem.run_bind,hd.run_isAgg,ha,hd.run_sizeOf,hc]
 ·refine ⟨v,?_,hv⟩
  have hc : σ.w.cell? ⟨b,o,none⟩ = some v := by simpa using hr 0 v rfl
  simp [loadVar,Sem.run_bind,hd.run_isAgg,ha,hc]
section flatten
theorem flatten_length {s : Nat} : ∀ {es : List (List AV)},(∀ e ∈ es,e.length = s) → es.flatten.length = es.length * s
 | [],_ => by simp
 | e :: r,h => by
  rw [List.flatten_cons,List.length_append,h e (by simp),flatten_length (fun x hx => h x (by simp [hx])),List.length_cons,Nat.succ_mul,Nat.add_comm]
theorem flatten_drop {s : Nat} : ∀ {es : List (List AV)} (i : Nat),(∀ e ∈ es,e.length = s) → (es.drop i).flatten = es.flatten.drop (i * s)
 | _,0,_ => by simp
 | [],i + 1,_ => by simp
 | e :: r,i + 1,h => by
  have he := h e (by simp)
  rw [List.drop_succ_cons,flatten_drop i (fun x hx => h x (by simp [hx])),List.flatten_cons,List.drop_append,Nat.succ_mul]
  have h1 : e.drop (i * s + s) = [] := List.drop_of_length_le (by omega)
  rw [h1,List.nil_append]
  congr 1
  omega
theorem flatten_take {s : Nat} : ∀ {es : List (List AV)} (i : Nat),(∀ e ∈ es,e.length = s) → (es.take i).flatten = es.flatten.take (i * s)
 | _,0,_ => by simp
 | [],i + 1,_ => by simp
 | e :: r,i + 1,h => by
  have he := h e (by simp)
  rw [List.take_succ_cons,List.flatten_cons,flatten_take i (fun x hx => h x (by simp [hx])),List.flatten_cons,List.take_append,Nat.succ_mul]
  have h1 : e.take (i * s + s) = e := List.take_of_length_le (by omega)
  have h2 : i * s + s - e.length = i * s := by omega
  rw [h1,h2]
theorem flatten_at {s : Nat} {es : List (List AV)} {i : Nat} {e : List AV} (hs : ∀ e ∈ es,e.length = s) (he : es[i]? = some e) {fo n : Nat} (hn : fo + n ≤ s) :
  (es.flatten.drop (i * s + fo)).take n = (e.drop fo).take n := by
 have hi := (List.getElem?_eq_some_iff.1 he).1
 have hd : es.drop i = e :: es.drop (i + 1) := by
  rw [List.drop_eq_getElem_cons hi]
  congr 1
  exact (List.getElem?_eq_some_iff.1 he).2
 have hel : e.length = s := hs e (List.mem_of_getElem? he)
 rw [← List.drop_drop,← flatten_drop i hs,hd,List.flatten_cons,List.drop_append,List.take_append]
 have : fo - e.length = 0 := by omega
 have h2 : n - (e.drop fo).length = 0 := by simp; omega
 rw [this,h2]
 simp
end flatten
theorem readAt_vr {σ : Sg} (sr : SR σ) {H : Heap} {a : AV} {p : Value} {n : Nat} {cs : List AV} {rd : List Nat} (ha : VR σ a p) (h : readAt H a n = some (cs,rd))
  (hH : ∀ m ∈ rd,look H.objs m = σ.h m) : ∃ b o vs,p = .pointer (some ⟨b,o,none⟩) ∧ σ.w.rangeAt b o vs ∧ VRs σ cs vs := by
 unfold readAt at h
 split at h
 ·rename_i l
  split at h
  ·cases h
   obtain ⟨ad,vs,rfl,ht,hr⟩ := ha.ipt_inv
   obtain ⟨b,o,sp⟩ := ad
   obtain ⟨rfl,hr⟩ := hr
   refine ⟨b,o,vs.take n,rfl,fun j v hv => ?_,ht.vrs.take n⟩
   have : vs[j]? = some v := by
    rw [List.getElem?_take] at hv
    split at hv
    ·exact hv
    ·cases hv
   exact (hr j v this).2
  ·cases h
 ·rename_i m g i fo
  split at h
  ·rename_i es s fz ho
   split at h
   ·rename_i hg
    split at h
    ·rename_i e he
     have key : ∀ cs',(σ.h m = some (.cells es s fz) → cs' = (es.flatten.drop (i * s + fo)).take n) → (some (cs',[m]) : Option (List AV × List Nat)) = some (cs,rd) → ∃ b o vs,p = .pointer (some ⟨b,o,none⟩) ∧ σ.w.rangeAt b o vs ∧ VRs σ cs vs := by
      intro cs' hcs' hq
      cases hq
      have hm : σ.h m = some (.cells es s fz) := by rw [← hH m (by simp)]; exact ho
      rw [hcs' hm]
      obtain ⟨arr,t,rg,full,h1,hj,h2,h3,h4,h5,h6,h7⟩ := sr.obj m _ hm
      refine ⟨_,_,(full.drop (i * s + fo)).take n,ha.pt_inv sr hm hg,fun j v hv => ?_,(h3.drop _).take n⟩
      rw [cell_of_heap h1]
      refine h6 _ v ?_
      rw [List.getElem?_take] at hv
      split at hv
      ·rw [List.getElem?_drop] at hv; exact hv
      ·cases hv
     split at h
     ·rename_i hle
      refine key _ (fun hm => ?_) h
      obtain ⟨arr,t,rg,full,h1,hj,h2,h3,h4,h5,h6,h7⟩ := sr.obj m _ hm
      exact (flatten_at h4 he hle).symm
     ·split at h
      ·rename_i hsp
       refine key _ (fun hm => ?_) h
       obtain ⟨arr,t,rg,full,h1,hj,h2,h3,h4,h5,h6,h7⟩ := sr.obj m _ hm
       rw [flatten_drop i h4,hsp.1,Nat.add_zero]
      ·cases h
    ·cases h
   ·cases h
  ·cases h
 ·cases h
end Go.Abs
end
section
namespace Go.Abs
def TR (σ : Sg) (T : Tm) (a : Act) : Prop := ∀ t x,T t = some x → VR σ x (a.tmps.getD t undef)
def Qt (P : Program) (s : Sem Value) (σ : Sg) (v : AV) : Prop := ∃ x,s.run P σ.w = .ok x σ.w ∧ VR σ v x
variable {P : Program} {tab : Tab} {σ : Sg}
theorem tvs_sc {w : World} {I : Nat → Nat → Prop} {J : Nat → Prop} : ∀ (l : List Value),l.all scalarB = true → TVs w I J (l.map .sc) l
 | [],_ => .nil
 | v :: r,h => by
  simp only [List.all_cons,Bool.and_eq_true] at h
  exact .cons (.sc h.1) (tvs_sc r h.2)
theorem ofConst_vr {c : Value} {x : AV} (h : ofConst c = some x) : VR σ x c := by
 unfold ofConst at h
 split at h
 ·rename_i cs
  split at h
  ·rename_i ha
   cases h
   have := VR.tree (.agg (tvs_sc (w := σ.w) (I := σ.I) (J := σ.J) cs.toList (by simpa using ha)))
   simpa using this
  ·cases h
 ·split at h
  ·rename_i hs
   cases h
   exact .tree (.sc hs)
  ·cases h
theorem aev_vr {T : Tm} {a : Act} (tr : TR σ T a) {o : Operand} {x : AV} (h : aev T o = some x) : VR σ x (a.eval o) := by
 cases o with
 | tmp t => exact tr t x h
 | const c => exact ofConst_vr h
 | global g => cases h
 | func f => cases h; exact .tree (.fn rfl .nil .nil)
theorem mapOpt_vr {T : Tm} {a : Act} (tr : TR σ T a) : ∀ {os : List Operand} {xs : List AV},mapOpt (aev T) os = some xs → VRs σ xs (os.map a.eval)
 | [],xs,h => by cases h; exact .nil
 | o :: r,xs,h => by
  simp only [mapOpt] at h
  split at h
  ·cases h
  ·rename_i b hb
   split at h
   ·cases h
   ·rename_i bs hbs
    cases h
    exact .cons (aev_vr tr hb) (mapOpt_vr tr hbs)
theorem mapOpt_parts {T : Tm} {a : Act} (tr : TR σ T a) : ∀ {os : List (Nat × Operand)} {xs : List (Nat × AV)},
  mapOpt (fun p : Nat × Operand => (aev T p.2).map fun v => (p.1,v)) os = some xs → xs.map (·.1) = os.map (·.1) ∧ VRs σ (xs.map (·.2)) (os.map fun p => a.eval p.2)
 | [],xs,h => by cases h; exact ⟨rfl,.nil⟩
 | o :: r,xs,h => by
  simp only [mapOpt] at h
  split at h
  ·cases h
  ·rename_i b hb
   split at h
   ·cases h
   ·rename_i bs hbs
    cases h
    obtain ⟨h1,h2⟩ := mapOpt_parts tr hbs
    cases ho : aev T o.2 with
    | none => simp [ho] at hb
    | some v =>
     simp [ho] at hb
     subst hb
     exact ⟨by simp [h1],.cons (aev_vr tr ho) h2⟩
theorem arrSet_eq : ∀ (vs : List Value) (o j : Nat) (arr : Array Value),(vs.zipIdx j).foldl (fun cs (c,i) => cs.setIfInBounds (o + i) c) arr = arrSet arr (o + j) vs
 | [],_,_,_ => rfl
 | v :: r,o,j,arr => by
  simp only [List.zipIdx_cons,List.foldl_cons,arrSet]
  rw [arrSet_eq r o (j + 1)]
  rfl
theorem vrs_splice {cs new : List AV} {arr : Array Value} {vs : List Value} {o : Nat} (h : VRs σ cs arr.toList) (hn : VRs σ new vs) (ho : o + new.length ≤ cs.length) :
  VRs σ (splice cs o new) (arrSet arr o vs).toList := by
 have hl := h.length
 have hnl := hn.length
 have e : (arrSet arr o vs).toList = arr.toList.take o ++ vs ++ arr.toList.drop (o + new.length) := by
  apply List.ext_getElem?
  intro j
  rw [Array.getElem?_toList]
  have hsz : arr.size = cs.length := by simpa using hl
  by_cases h1 : j < o
  ·rw [arrSet_out vs o arr j (.inl h1),List.append_assoc,List.getElem?_append_left (by simp; omega),List.getElem?_take_of_lt h1]; simp
  ·by_cases h2 : j < o + vs.length
   ·have := arrSet_in vs o arr (j - o) (by omega) (by omega)
    rw [show o + (j - o) = j by omega] at this
    rw [this,List.append_assoc,List.getElem?_append_right (by simp; omega),List.getElem?_append_left (by simp; omega)]
    congr 1; simp; omega
   ·rw [arrSet_out vs o arr j (.inr (by omega)),List.getElem?_append_right (by simp; omega),List.getElem?_drop]
    rw [Array.getElem?_toList]
    congr 1; simp; omega
 rw [e]
 exact ((h.take o).append hn).append (h.drop _)
theorem fill_vr {place : Nat → Option (Nat × Nat)} : ∀ {aps : List (Nat × AV)} {ps : List (Nat × Value)} {acs acs' : List AV} {arr : Array Value},
  aps.map (·.1) = ps.map (·.1) → VRs σ (aps.map (·.2)) (ps.map (·.2)) → VRs σ acs arr.toList → fillParts place acs aps = some acs' →
  ∃ arr',Instr.fill place arr ps = some arr' ∧ VRs σ acs' arr'.toList ∧ acs'.length = acs.length
 | [],[],acs,acs',arr,_,_,h,hf => by cases hf; exact ⟨arr,rfl,h,rfl⟩
 | [],p :: ps,_,_,_,he,_,_,_ => by cases he
 | a :: aps,[],_,_,_,he,_,_,_ => by cases he
 | (i,x) :: aps,(j,v) :: ps,acs,acs',arr,he,hv,h,hf => by
  simp only [List.map_cons,List.cons.injEq] at he
  obtain ⟨rfl,he⟩ := he
  cases hv with
  | cons hx hv =>
   simp only [fillParts] at hf
   split at hf
   ·rename_i off size cs hp hc
    split at hf
    ·rename_i hcond
     obtain ⟨vs,h1,h2,_⟩ := cells_vr hx hc
     have hl2 := h2.length
     have hsp := vrs_splice h h2 (o := off) (by omega)
     have hspl : (splice acs off cs).length = acs.length := by simp [splice]; omega
     obtain ⟨arr',ha,hb,hcl⟩ := fill_vr he hv hsp hf
     refine ⟨arr',?_,hb,hcl.trans hspl⟩
     have hasz : arr.size = acs.length := by simpa using h.length
     simp only [Instr.fill,hp,h1]
     have h3 : ¬ ((vs.toArray.size ≠ size) ∨ (off + vs.toArray.size > arr.size)) := by simp; omega
     simp only [Bool.or_eq_true,decide_eq_true_eq]
     rw [if_neg (by simpa using h3)]
     have := arrSet_eq vs off 0 arr
     simp only [Nat.add_zero] at this
     rw [show (vs.toArray.zipIdx.foldl (fun cs (c,j) => cs.setIfInBounds (off + j) c) arr) = arrSet arr off vs by
      rw [← Array.foldl_toList,Array.toList_zipIdx]; exact this]
     exact ha
    ·cases hf
   ·cases hf
end Go.Abs
end
section
namespace Go.Abs
variable {P : Program} {tab : Tab} {σ : Sg}
theorem fields_get {fields : Array Field} {fs : List (Nat × TypeId)} (h : fields.toList.map (fun f => (f.offset,f.type)) = fs) (i : Nat) :
  fs[i]? = (fields[i]?).map fun f => (f.offset,f.type) := by
 rw [← h,List.getElem?_map,Array.getElem?_toList]
theorem run_sizeOf_info {t : TypeId} {i : TypeInfo} (h : P.info? t = some i) (w : World) : (sizeOf t).run P w = .ok i.size w := by
 simp [sizeOf,typeInfo,h]
theorem mapM_places (w : World) : ∀ (fields : List Field),(∀ f ∈ fields,(P.info? f.type).isSome) →
  ∃ ps : List (Nat × Nat),(fields.mapM fun f => do pure (f.offset,← sizeOf f.type) : Sem (List (Nat × Nat))).run P w = .ok ps w ∧
   ∀ (i : Nat),ps[i]? = (fields[i]?).map fun f => (f.offset,((P.info? f.type).map (·.size)).getD 0)
 | [],_ => ⟨[],by simp,by simp⟩
 | f :: r,h => by
  obtain ⟨ps,h1,h3⟩ := mapM_places w r (fun x hx => h x (by simp [hx]))
  obtain ⟨d,hd⟩ := Option.isSome_iff_exists.1 (h f (by simp))
  refine ⟨(f.offset,d.size) :: ps,?_,?_⟩
  ·simp only [List.mapM_cons,Sem.run_bind,run_sizeOf_info hd,Result.andThen_ok,Sem.run_pure,h1]
  ·intro i
   cases i with
   | zero => simp [hd]
   | succ i => simpa using h3 i
theorem fillParts_mono {p q : Nat → Option (Nat × Nat)} (hpq : ∀ i x,p i = some x → q i = some x) : ∀ {l : List (Nat × AV)} {acs acs' : List AV},fillParts p acs l = some acs' → fillParts q acs l = some acs'
 | [],_,_,h => h
 | (i,v) :: r,acs,acs',h => by
  simp only [fillParts] at h ⊢
  cases hp : p i with
  | none => simp [hp] at h
  | some pr =>
   rw [hpq i pr hp]
   rw [hp] at h
   cases hc : cellsOf v with
   | none => simp [hc] at h
   | some cs =>
    simp only [hc] at h ⊢
    split at h
    ·rename_i hcond
     rw [if_pos hcond]
     exact fillParts_mono hpq h
    ·cases h
theorem build_ok (tabOk : TabOK P tab) {t : TypeId} {d : TyD} (hd : tab t = some d) {aps : List (Nat × AV)} {ps : Array (Nat × Value)} (h1 : aps.map (·.1) = ps.toList.map (·.1))
  (h2 : VRs σ (aps.map (·.2)) (ps.toList.map (·.2))) {v : AV}
  (h : (match d.k with
   | .strct fs => match fillParts (fun i => (fs[i]?).bind fun f => (tab f.2).map fun df => (f.1,df.size)) (d.zero.map .sc) aps with
    | some cs => quiet (.agg cs)
    | none => none
   | .arr _ e => match tab e with
    | some de => match fillParts (fun i => some (i * de.size,de.size)) (d.zero.map .sc) aps with
     | some cs => quiet (.agg cs)
     | none => none
    | none => none
   | _ => none) = some ⟨v,.loc [] [] 0⟩) : Qt P (Instr.build t ps) σ v := by
 have D := tabOk t d hd
 obtain ⟨z,hz,hzc,hza,_⟩ := D.run_zero σ.w
 have hu := D.under
 have zvr : VRs σ (d.zero.map .sc) z.cells.toList := by rw [hzc]; exact vrs_sc _ D.zsc
 cases hk : d.k <;> simp only [hk] at h <;> try cases h
 case strct fs =>
  simp only [KOK,hk] at hu
  obtain ⟨fields,hu,hf,hi⟩ := hu
  split at h
  ·rename_i cs hcs
   cases h
   obtain ⟨pl,hpl,hplg⟩ := mapM_places (P := P) σ.w fields.toList hi
   have hcs' := fillParts_mono (q := fun i => pl[i]?) (fun i x hx => by
    rw [hplg,Array.getElem?_toList]
    rw [fields_get hf] at hx
    cases hfi : fields[i]? with
    | none => simp [hfi] at hx
    | some f =>
     simp only [hfi,Option.map_some,Option.bind_some] at hx ⊢
     cases hq : tab f.type with
     | none => simp [hq] at hx
     | some dq =>
      simp only [hq,Option.map_some,Option.some.injEq] at hx
      rw [(tabOk _ _ hq).size]
      simpa using hx) hcs
   obtain ⟨arr',ha,hb,_⟩ := fill_vr h1 h2 zvr hcs'
   refine ⟨.agg arr',?_,by simpa using VR.agg hb⟩
   have hm : (fields.mapM fun f => do pure (f.offset,← sizeOf f.type) : Sem (Array (Nat × Nat))).run P σ.w = .ok pl.toArray σ.w := by
    rw [Array.mapM_eq_mapM_toList]
    simp only [Sem.run_map,hpl,Result.andThen_ok]
   simp only [Instr.build,Sem.run_bind,hz,Result.andThen_ok,run_under hu,hm]
   have ha' : Instr.fill (fun x => pl.toArray[x]?) z.cells ps.toList = some arr' := by simpa using ha
   simp only [ha']
   rfl
  ·cases h
 case arr n e =>
  simp only [KOK,hk] at hu
  split at h
  ·rename_i de hde
   split at h
   ·rename_i cs hcs
    cases h
    obtain ⟨arr',ha,hb,_⟩ := fill_vr h1 h2 zvr hcs
    refine ⟨.agg arr',?_,by simpa using VR.agg hb⟩
    simp only [Instr.build,Sem.run_bind,hz,Result.andThen_ok,run_under hu,(tabOk _ _ hde).run_sizeOf,ha]
    rfl
   ·cases h
  ·cases h
theorem run_part (tabOk : TabOK P tab) {t : TypeId} {cs : List AV} {ds : List Value} {off : Nat} {v : AV} (hv : VRs σ cs ds) (h : partA tab t cs off = some v) :
  ∃ x,(part t ds.toArray off).run P σ.w = .ok x σ.w ∧ VR σ v x := by
 unfold partA at h
 split at h
 ·rename_i dt hdt
  split at h
  ·rename_i hle
   have D := tabOk t dt hdt
   obtain ⟨hl,⟨ha,hx⟩ | ⟨ha,u,hu,hx⟩⟩ := ofCells_vr ((hv.drop off).take dt.size) h
   ·refine ⟨_,?_,hx⟩
    simp only [part,Sem.run_bind,D.run_isAgg,ha,Result.andThen_ok,if_true,D.run_sizeOf,Sem.run_pure]
    congr 2
    rw [List.extract_toArray,List.extract_eq_take_drop]
    congr 2
    omega
   ·refine ⟨u,?_,hx⟩
    have hd : ds[off]? = some u := by
     have : (List.take dt.size (List.drop off ds))[0]? = some u := by rw [hu]; rfl
     rw [List.getElem?_take] at this
     split at this
     ·simpa using this
     ·cases this
    simp only [part,Sem.run_bind,D.run_isAgg,ha,Result.andThen_ok,Bool.false_eq_true,if_false,List.getElem?_toArray,hd,Sem.run_pure]
  ·cases h
 ·cases h
theorem field_ok (tabOk : TabOK P tab) {t : TypeId} {d : TyD} (hd : tab t = some d) {x : AV} {xv : Value} (hx : VR σ x xv) {f : Nat} {r : Res} (h : fieldA tab d x f = some r) :
  r.e = .loc [] [] 0 ∧ Qt P (Instr.field t xv f) σ r.v := by
 have D := tabOk t d hd
 have hu := D.under
 unfold fieldA at h
 split at h
 ·rename_i fs cs hk
  split at h
  ·rename_i off ft hf
   split at h
   ·rename_i v hv
    cases h
    simp only [KOK,hk] at hu
    obtain ⟨fields,hu,hff,hi⟩ := hu
    rw [fields_get hff] at hf
    cases hfi : fields[f]? with
    | none => simp [hfi] at hf
    | some fl =>
     simp only [hfi,Option.map_some,Option.some.injEq,Prod.mk.injEq] at hf
     obtain ⟨rfl,rfl⟩ := hf
     obtain ⟨ds,rfl,hds⟩ := hx.agg_inv
     obtain ⟨y,hy,hvy⟩ := run_part tabOk hds hv
     refine ⟨rfl,y,?_,hvy⟩
     simp only [Instr.field,Sem.run_bind,run_under hu,Result.andThen_ok,hfi,asAgg,Sem.run_pure,hy]
   ·cases h
  ·cases h
 ·cases h
theorem pt_shift {n g i fo : Nat} {v : Value} (h : VR σ (.pt n g i fo) v) (k : Nat) : ∃ b o,v = .pointer (some ⟨b,o,none⟩) ∧ VR σ (.pt n g i (fo + k)) (.pointer (some ⟨b,o + k,none⟩)) := by
 cases h with
 | tree h => cases h
 | pt hn => exact ⟨_,_,rfl,by rw [Nat.add_assoc]; exact .pt hn⟩
 | stale h =>
  obtain ⟨hg,b,o,rfl⟩ := h
  exact ⟨b,o,rfl,.stale ⟨hg,_,_,rfl⟩⟩
theorem ipt_shift {cs : List AV} {v : Value} (h : VR σ (.ipt cs) v) (k : Nat) : ∃ b o,v = .pointer (some ⟨b,o,none⟩) ∧ VR σ (.ipt (cs.drop k)) (.pointer (some ⟨b,o + k,none⟩)) := by
 obtain ⟨⟨b,o,sp⟩,vs,rfl,ht,rfl,hr⟩ := h.ipt_inv
 refine ⟨b,o,rfl,.tree (.ipt (ht.drop k) ⟨rfl,fun j v hv => ?_⟩)⟩
 rw [List.getElem?_drop] at hv
 have := hr _ v hv
 rwa [← Nat.add_assoc] at this
theorem run_fieldPlace (tabOk : TabOK P tab) {b o : Nat} {fl : Field} {dt : TyD} (ht : tab fl.type = some dt) (hz : dt.size ≠ 0) (w : World) :
  (fieldPlace ⟨b,o,none⟩ fl).run P w = .ok ⟨b,o + fl.offset,none⟩ w := by
 simp only [fieldPlace,Sem.run_bind,(tabOk _ _ ht).run_sizeOf,Result.andThen_ok,if_neg hz,Sem.run_pure,Addr.add_mid]
theorem fieldAt_ok (tabOk : TabOK P tab) {t : TypeId} {d : TyD} (hd : tab t = some d) {x : AV} {xv : Value} (hx : VR σ x xv) {f : Nat} {r : Res} (h : fieldAtA tab d x f = some r) :
  r.e = .loc [] [] 0 ∧ Qt P (Instr.fieldAt t xv f) σ r.v := by
 have D := tabOk t d hd
 have hu := D.under
 unfold fieldAtA at h
 split at h
 ·rename_i fs hk
  split at h
  ·rename_i off ft hf
   split at h
   ·rename_i dt hdt
    split at h
    ·cases h
    ·rename_i hz
     simp only [KOK,hk] at hu
     obtain ⟨fields,hu,hff,hi⟩ := hu
     rw [fields_get hff] at hf
     cases hfi : fields[f]? with
     | none => simp [hfi] at hf
     | some fl =>
      simp only [hfi,Option.map_some,Option.some.injEq,Prod.mk.injEq] at hf
      obtain ⟨rfl,rfl⟩ := hf
      have key : ∀ b o,(Instr.fieldAt t (.pointer (some ⟨b,o,none⟩)) f).run P σ.w = .ok (.pointer (some ⟨b,o + fl.offset,none⟩)) σ.w := fun b o => by
       simp only [Instr.fieldAt,Sem.run_bind,run_under hu,Result.andThen_ok,hfi,Instr.sureAddr,Sem.run_pure,run_fieldPlace tabOk hdt hz]
      split at h
      ·split at h
       ·cases h
        obtain ⟨b,o,rfl,hv⟩ := ipt_shift hx fl.offset
        exact ⟨rfl,_,key b o,hv⟩
       ·cases h
      ·cases h
       obtain ⟨b,o,rfl,hv⟩ := pt_shift hx fl.offset
       exact ⟨rfl,_,key b o,hv⟩
      ·cases h
   ·cases h
  ·cases h
 ·cases h
end Go.Abs
end
section
namespace Go.Abs
variable {P : Program} {tab : Tab} {σ : Sg}
def Foot (H : Heap) (σ : Sg) (r : Res) : Prop := ∀ rd ups news,r.e = .loc rd ups news → ∀ m ∈ rd,look H.objs m = σ.h m
theorem isl_at {es : List (List AV)} {a : Addr} {vs : List Value} {s : Nat} (h : TVs σ.w σ.I σ.J es.flatten vs) (hr : es ≠ [] → Row σ.w σ.I a vs) (hs : ∀ e ∈ es,e.length = s) {i : Nat} {c : List AV}
  (hc : es[i]? = some c) : VR σ (.ipt c) (.pointer (some (a.add (i * s)))) := by
 obtain ⟨b,o,sp⟩ := a
 obtain ⟨rfl,hr⟩ := hr (fun e => by rw [e] at hc; cases hc)
 rw [Addr.add_mid]
 have e : c = (es.flatten.drop (i * s)).take s := by
  have := flatten_at (fo := 0) (n := s) hs hc (by omega)
  rw [Nat.add_zero,List.drop_zero] at this
  rw [this,List.take_of_length_le (Nat.le_of_eq (hs c (List.mem_of_getElem? hc)))]
 rw [e]
 refine .tree (.ipt ((h.drop (i * s)).take s) ⟨rfl,fun j v hv => ?_⟩)
 rw [List.getElem?_take] at hv
 split at hv
 ·rw [List.getElem?_drop] at hv
  have := hr _ v hv
  simp only [] at this ⊢
  rwa [← Nat.add_assoc] at this
 ·cases hv
theorem indexAt_ok (tabOk : TabOK P tab) (sr : SR σ) {H : Heap} {t : TypeId} {d : TyD} (hd : tab t = some d) {x : AV} {xv : Value} (hx : VR σ x xv) {k : IntKind} {i : Int} {r : Res}
  (h : indexAtA tab H d x i = some r) (hf : Foot H σ r) : (∃ rd,r.e = .loc rd [] 0) ∧ Qt P (Instr.indexAt t xv (.int k i)) σ r.v := by
 have D := tabOk t d hd
 have hu := D.under
 unfold indexAtA at h
 split at h
 ·rename_i e hk
  simp only [KOK,hk] at hu
  split at h
  ·rename_i de hde
   have De := tabOk e de hde
   split at h
   ·rename_i es c
    split at h
    ·rename_i h0
     split at h
     ·rename_i cc hc
      split at h
      ·rename_i hl
       cases h
       obtain ⟨a,vs,s,cap,rfl,ht,hr,hs,_,_⟩ := hx.isl_inv
       have hss : s = de.size := by rw [← hl]; exact (hs cc (List.mem_of_getElem? hc)).symm
       subst hss
       have hlt := (List.getElem?_eq_some_iff.1 hc).1
       refine ⟨⟨[],rfl⟩,_,?_,isl_at ht hr hs hc⟩
       have h1 : 0 ≤ i ∧ i < (es.length : Int) := ⟨h0,by omega⟩
       simp only [Instr.indexAt,asIntOf,Sem.run_bind,Sem.run_pure,Result.andThen_ok,run_under hu,if_pos h1,De.run_sizeOf]
      ·cases h
     ·cases h
    ·cases h
   ·rename_i n g off len cap
    split at h
    ·rename_i es s fz ho
     split at h
     ·rename_i hc
      obtain ⟨hg,hs,h0,hi,hol⟩ := hc
      cases h
      have hn : σ.h n = some (.cells es s fz) := by rw [← hf _ _ _ rfl n (by simp)]; exact ho
      obtain ⟨cap',arr,t',rg,rfl,hw,hl,hr,hle,hcap⟩ := hx.sl_inv sr hn hg
      refine ⟨⟨[n],rfl⟩,.pointer (some ⟨σ.r n,off * s + i.toNat * de.size,none⟩),?_,?_⟩
      ·have h1 : 0 ≤ i ∧ i < (len : Int) := ⟨h0,hi⟩
       simp only [Instr.indexAt,asIntOf,Sem.run_bind,Sem.run_pure,Result.andThen_ok,run_under hu,if_pos h1,De.run_sizeOf,Addr.add_mid]
      ·have := VR.pt (σ := σ) (i := off + i.toNat) (fo := 0) hn
       rw [hg] at this
       rw [← hs,← Nat.add_mul]
       simpa using this
     ·cases h
    ·cases h
   ·cases h
  ·cases h
 ·rename_i m e hk
  simp only [KOK,hk] at hu
  split at h
  ·rename_i de hde
   have De := tabOk e de hde
   split at h
   ·rename_i hi
    have key : ∀ b o,(Instr.indexAt t (.pointer (some ⟨b,o,none⟩)) (.int k i)).run P σ.w = .ok (.pointer (some ⟨b,o + i.toNat * de.size,none⟩)) σ.w := fun b o => by
     simp only [Instr.indexAt,asIntOf,Sem.run_bind,Sem.run_pure,Result.andThen_ok,run_under hu,Instr.sureAddr,Addr.add_mid]
     rw [if_pos hi]
     simp only [Sem.run_bind,Sem.run_pure,Result.andThen_ok,De.run_sizeOf]
    split at h
    ·split at h
     ·cases h
      obtain ⟨b,o,rfl,hv⟩ := ipt_shift hx (i.toNat * de.size)
      exact ⟨⟨[],rfl⟩,_,key b o,hv⟩
     ·cases h
    ·rename_i n g kk fo
     split at h
     ·rename_i es s fz ho
      split at h
      ·rename_i hc
       obtain ⟨hg,hs,hfo,hkm⟩ := hc
       cases h
       have hn : σ.h n = some (.cells es s fz) := by rw [← hf _ _ _ rfl n (by simp)]; exact ho
       have hp := hx.pt_inv sr hn hg
       subst hp
       refine ⟨⟨[n],rfl⟩,_,key _ _,?_⟩
       have := VR.pt (σ := σ) (i := kk + i.toNat) (fo := 0) hn
       rw [hg] at this
       rw [hfo,← hs,Nat.add_zero,← Nat.add_mul]
       simpa using this
      ·split at h
       ·cases h
        obtain ⟨b,o,rfl,hv⟩ := pt_shift hx (i.toNat * de.size)
        exact ⟨⟨[n],rfl⟩,_,key b o,hv⟩
       ·cases h
     ·cases h
    ·cases h
   ·cases h
  ·cases h
 ·cases h
theorem index_ok (tabOk : TabOK P tab) {t : TypeId} {d : TyD} (hd : tab t = some d) {x : AV} {xv : Value} (hx : VR σ x xv) {k : IntKind} {i : Int} {r : Res}
  (h : indexA tab d x i = some r) : r.e = .loc [] [] 0 ∧ Qt P (Instr.index t xv (.int k i)) σ r.v := by
 have D := tabOk t d hd
 have hu := D.under
 unfold indexA at h
 split at h
 ·rename_i s hk
  simp only [KOK,hk] at hu
  obtain ⟨rfl,_⟩ := hx.sc_inv
  split at h
  ·rename_i h0
   split at h
   ·rename_i b hb
    cases h
    refine ⟨rfl,_,?_,.tree (.sc rfl)⟩
    simp only [Instr.index,asIntOf,Sem.run_bind,Sem.run_pure,Result.andThen_ok,run_under hu,if_pos h0,hb]
   ·cases h
  ·cases h
 ·rename_i n e cs hk
  simp only [KOK,hk] at hu
  split at h
  ·rename_i hi
   split at h
   ·rename_i de hde
    split at h
    ·rename_i v hv
     cases h
     obtain ⟨ds,rfl,hds⟩ := hx.agg_inv
     obtain ⟨y,hy,hvy⟩ := run_part tabOk hds hv
     refine ⟨rfl,y,?_,hvy⟩
     simp only [Instr.index,asIntOf,Sem.run_bind,Sem.run_pure,Result.andThen_ok,run_under hu,if_pos hi,(tabOk _ _ hde).run_sizeOf,hy]
    ·cases h
   ·cases h
  ·cases h
 ·cases h
def OptInt (x : Option Int) (v : Option Value) : Prop := (x = none ∧ v = none) ∨ ∃ n k,x = some n ∧ v = some (.int k n)
theorem bounds_ok {isSlice : Bool} {len cl cap' : Nat} {cap : Option Nat} {lo hi mx : Option Int} {lv hv mv : Option Value} {l h : Nat} {m : Option Nat} {w : World}
  (hb : boundsA len cl cap lo hi mx = some (l,h,m)) (hl : OptInt lo lv) (hh : OptInt hi hv) (hm : OptInt mx mv) (hle : len ≤ cap') (hc : ∀ c,cap = some c → cap' = c) (hlc : len ≤ cl) (hcl : cap = none → cl ≤ cap') :
  (Instr.sliceBounds isSlice len cap' lv hv mv).run P w = .ok (l,h,m.getD cap') w ∧ l ≤ h ∧ h ≤ m.getD cap' ∧ (m = none → h ≤ cl) ∧ (∀ c,m = some c → c ≤ cap' ∧ (cap = some c ∨ mx.isSome)) ∧ (m = none → cap = none) := by
 have bnd : ∀ (v : Int) (k : IntKind) (y : Nat) (code : BoundsCode),0 ≤ v → v ≤ y → (Instr.sliceBound (.int k v) y code).run P w = .ok v.toNat w := fun v k y code h1 h2 => by
  simp only [Instr.sliceBound,asIntOf,Sem.run_bind,Sem.run_pure,Result.andThen_ok]
  rw [if_pos ⟨h1,h2⟩]
  rfl
 unfold boundsA at hb
 split at hb
 ·cases hb
 ·rename_i m0 hm0
  split at hb
  ·cases hb
  ·rename_i h0 hh0
   split at hb
   ·cases hb
   ·rename_i l0 hl0
    cases hb
    have M1 : mx = none → m = cap := fun e => by subst e; simpa [mxA] using hm0.symm
    have M2 : ∀ n,mx = some n → 0 ≤ n ∧ n ≤ cap' ∧ m = some n.toNat := fun n e => by
     subst e
     simp only [mxA] at hm0
     cases cap with
     | none => have := hcl rfl; simp only [] at hm0; split at hm0 <;> simp_all; omega
     | some c => have := hc c rfl; simp only [] at hm0; split at hm0 <;> simp_all
    have M3 : (∀ c,m = some c → c ≤ cap' ∧ (cap = some c ∨ mx.isSome)) ∧ (m = none → cap = none) := by
     cases hmx : mx with
     | none =>
      have := M1 hmx
      subst this
      exact ⟨fun c e => ⟨Nat.le_of_eq (hc c e).symm,.inl e⟩,id⟩
     | some n =>
      obtain ⟨h1,h2,rfl⟩ := M2 n hmx
      exact ⟨fun c e => by cases e; exact ⟨by omega,.inr rfl⟩,fun e => by cases e⟩
    have H1 : hi = none → mx = none ∧ h = len := fun e => by
     subst e
     cases mx with
     | none => simpa [hiA] using hh0.symm
     | some n => simp [hiA] at hh0
    have H2 : ∀ n,hi = some n → 0 ≤ n ∧ n ≤ (m.getD cap' : Nat) ∧ h = n.toNat ∧ (m = none → n ≤ cl) := fun n e => by
     subst e
     simp only [hiA] at hh0
     cases m with
     | none => have := hcl (M3.2 rfl); simp only [] at hh0; split at hh0 <;> simp_all; omega
     | some c => simp only [] at hh0; split at hh0 <;> simp_all
    have L1 : lo = none → l = 0 := fun e => by subst e; simpa [loA] using hl0.symm
    have L2 : ∀ n,lo = some n → 0 ≤ n ∧ n ≤ h ∧ l = n.toNat := fun n e => by
     subst e
     simp only [loA] at hl0
     split at hl0 <;> simp_all
    have hhm : h ≤ m.getD cap' := by
     cases hhi : hi with
     | none =>
      obtain ⟨e1,rfl⟩ := H1 hhi
      rw [M1 e1]
      cases cap with
      | none => exact hle
      | some c => have := hc c rfl; simp only [Option.getD_some]; omega
     | some n => have := H2 n hhi; omega
    have hlh : l ≤ h := by
     cases hlo : lo with
     | none => have := L1 hlo; omega
     | some n => have := L2 n hlo; omega
    refine ⟨?_,hlh,hhm,fun e => ?_,M3.1,M3.2⟩
    ·rcases hm with ⟨em,rfl⟩ | ⟨nm,km,em,rfl⟩
     ·have em' := M1 em
      have hcg : m.getD cap' = cap' := by
       rw [em']
       cases cap with
       | none => rfl
       | some c => exact (hc c rfl).symm
      rcases hh with ⟨eh,rfl⟩ | ⟨nh,kh,eh,rfl⟩
      ·obtain ⟨_,rfl⟩ := H1 eh
       rcases hl with ⟨el,rfl⟩ | ⟨nl,kl,el,rfl⟩
       ·rw [L1 el,hcg]; rfl
       ·obtain ⟨p,q,rfl⟩ := L2 nl el
        simp only [Instr.sliceBounds,Sem.run_bind,Sem.run_pure,Result.andThen_ok,bnd nl kl h _ p q,hcg]
      ·obtain ⟨p',q',rfl,_⟩ := H2 nh eh
       rw [hcg] at q'
       rcases hl with ⟨el,rfl⟩ | ⟨nl,kl,el,rfl⟩
       ·rw [L1 el,hcg]
        simp only [Instr.sliceBounds,Sem.run_bind,Sem.run_pure,Result.andThen_ok,bnd nh kh cap' _ p' q']
       ·obtain ⟨p,q,rfl⟩ := L2 nl el
        simp only [Instr.sliceBounds,Sem.run_bind,Sem.run_pure,Result.andThen_ok,bnd nh kh cap' _ p' q',bnd nl kl _ _ p q,hcg]
     ·obtain ⟨p2,q2,rfl⟩ := M2 nm em
      rcases hh with ⟨eh,rfl⟩ | ⟨nh,kh,eh,rfl⟩
      ·obtain ⟨e1,_⟩ := H1 eh
       rw [em] at e1; cases e1
      ·obtain ⟨p',q',rfl,_⟩ := H2 nh eh
       simp only [Option.getD_some] at q' ⊢
       rcases hl with ⟨el,rfl⟩ | ⟨nl,kl,el,rfl⟩
       ·rw [L1 el]
        simp only [Instr.sliceBounds,Sem.run_bind,Sem.run_pure,Result.andThen_ok,bnd nm km cap' _ p2 q2,bnd nh kh nm.toNat _ p' q']
       ·obtain ⟨p,q,rfl⟩ := L2 nl el
        simp only [Instr.sliceBounds,Sem.run_bind,Sem.run_pure,Result.andThen_ok,bnd nm km cap' _ p2 q2,bnd nh kh nm.toNat _ p' q',bnd nl kl _ _ p q]
    ·cases hhi : hi with
     | none => rw [(H1 hhi).2]; exact hlc
     | some n => obtain ⟨_,_,h3,h4⟩ := H2 n hhi; have := h4 e; omega
theorem vrs_sub {es : List (List AV)} {s : Nat} {vs : List Value} {w : World} {I : Nat → Nat → Prop} {J : Nat → Prop} (h : TVs w I J es.flatten vs) (hs : ∀ e ∈ es,e.length = s) (l n : Nat) :
  TVs w I J ((es.drop l).take n).flatten ((vs.drop (l * s)).take (n * s)) := by
 rw [flatten_take n (fun e he => hs e (List.mem_of_mem_drop he)),flatten_drop l hs]
 exact (h.drop _).take _
theorem row_sub {w : World} {I : Nat → Nat → Prop} {b o : Nat} {vs : List Value} (h : Row w I ⟨b,o,none⟩ vs) (l n : Nat) : Row w I ⟨b,o + l,none⟩ ((vs.drop l).take n) := by
 refine ⟨rfl,fun j v hv => ?_⟩
 rw [List.getElem?_take] at hv
 split at hv
 ·rw [List.getElem?_drop] at hv
  have := h.2 _ v hv
  simp only [] at this ⊢
  rwa [← Nat.add_assoc] at this
 ·cases hv
theorem slice_ok (tabOk : TabOK P tab) (sr : SR σ) {H : Heap} {t : TypeId} {d : TyD} (hd : tab t = some d) {x : AV} {xv : Value} (hx : VR σ x xv) {lo hi mx : Option Int} {lv hv mv : Option Value}
  (hl : OptInt lo lv) (hh : OptInt hi hv) (hm : OptInt mx mv) {r : Res} (h : sliceA tab H d x lo hi mx = some r) (hf : Foot H σ r) :
  (∃ rd,r.e = .loc rd [] 0) ∧ Qt P (Instr.sliceAt t xv lv hv mv) σ r.v := by
 have D := tabOk t d hd
 have hu := D.under
 unfold sliceA at h
 split at h
 ·-- a string
  rename_i hk
  simp only [KOK,hk] at hu
  split at h
  ·rename_i s
   split at h
   ·rename_i l hh0 m hb
    cases h
    obtain ⟨rfl,_⟩ := hx.sc_inv
    obtain ⟨h1,h2,h3,_,_,_⟩ := bounds_ok (P := P) (isSlice := false) (w := σ.w) hb hl hh (.inl ⟨rfl,rfl⟩) (Nat.le_refl _) (fun c e => by cases e; rfl) (Nat.le_refl _) (fun e => by cases e)
    rcases hm with ⟨_,rfl⟩ | ⟨n,k,e,_⟩
    ·refine ⟨⟨[],rfl⟩,_,?_,.tree (.sc rfl)⟩
     simp only [Instr.sliceAt,Instr.slice,Sem.run_bind,run_under hu,Result.andThen_ok,Option.isSome_none,Bool.false_eq_true,if_false,h1]
     rfl
    ·cases e
   ·cases h
  ·cases h
 ·rename_i e hk
  simp only [KOK,hk] at hu
  split at h
  ·rename_i de hde
   have De := tabOk e de hde
   split at h
   ·-- the nil slice
    obtain ⟨rfl,_⟩ := hx.sc_inv
    split at h
    ·rename_i bb hb
     obtain ⟨l,hh0,m⟩ := bb
     cases h
     obtain ⟨h1,h2,h3,h4,h5,h6⟩ := bounds_ok (P := P) (isSlice := true) (w := σ.w) hb hl hh hm (Nat.le_refl 0) (fun c e => by cases e; rfl) (Nat.le_refl _) (fun e => by cases e)
     have hm0 : m.getD 0 = 0 := by
      cases m with
      | none => rfl
      | some c => have := (h5 c rfl).1; simp only [Option.getD_some]; omega
     rw [hm0] at h1 h3
     have hh00 : hh0 = 0 := by omega
     have hl0 : l = 0 := by omega
     subst hh00; subst hl0
     refine ⟨⟨[],rfl⟩,_,?_,hx⟩
     simp only [Instr.sliceAt,Instr.slice,Sem.run_bind,run_under hu,Result.andThen_ok,h1,De.run_sizeOf]
     rfl
    ·cases h
   ·-- a tree
    rename_i es capd
    split at h
    ·rename_i l hh0 m hb
     split at h
     ·rename_i hcond
      obtain ⟨hle,hall⟩ := hcond
      cases h
      obtain ⟨a,vs,s,cap,rfl,ht,hr,hs,hc,hcd⟩ := hx.isl_inv
      obtain ⟨h1,h2,h3,h4,h5,h6⟩ := bounds_ok (P := P) (isSlice := true) (w := σ.w) (cap' := cap) hb hl hh hm hc (fun c e => by
       split at e
       ·rename_i hq; cases e; exact hcd hq
       ·cases e) (Nat.le_refl _) (fun _ => hc)
      have hss : ∀ e ∈ es,e.length = de.size := fun e he => by
       have := (List.all_eq_true.1 hall) e he
       simpa using this
      have hlen : ((es.drop l).take (hh0 - l)).length = hh0 - l := by simp; omega
      refine ⟨⟨[],rfl⟩,.slice (some (if m.getD cap = l then a else a.add (l * de.size))) (hh0 - l) (m.getD cap - l),?_,?_⟩
      ·simp only [Instr.sliceAt,Instr.slice,Sem.run_bind,run_under hu,Result.andThen_ok,h1,De.run_sizeOf,Option.map_some,Sem.run_pure]
       split <;> rfl
      ·have hrow : (es.drop l).take (hh0 - l) ≠ [] → Row σ.w σ.I (if m.getD cap = l then a else a.add (l * de.size)) ((vs.drop (l * de.size)).take ((hh0 - l) * de.size)) := fun hne => by
        obtain ⟨b,o,sp⟩ := a
        obtain ⟨rfl,hr2⟩ := hr (fun e => hne (by rw [e]; simp))
        rw [Addr.add_mid]
        split
        ·rename_i hq
         have : hh0 - l = 0 := by omega
         rw [this]
         simp only [Nat.zero_mul,List.take_zero]
         exact ⟨rfl,by simp⟩
        ·exact row_sub ⟨rfl,hr2⟩ _ _
       have := TV.isl (capd := m == some hh0) (cap := m.getD cap - l) (vrs_sub ht hss l (hh0 - l)) hrow (fun e he => hss e (List.mem_of_mem_drop (List.mem_of_mem_take he)))
        (by rw [hlen]; omega) (fun e => by
         have : m = some hh0 := by simpa using e
         subst this
         rw [hlen]; rfl)
       rw [hlen] at this
       exact .tree this
     ·cases h
    ·cases h
   ·-- an own slice
    rename_i n g off len cap
    split at h
    ·rename_i es s fz ho
     split at h
     ·rename_i hcond
      obtain ⟨hg,hs⟩ := hcond
      split at h
      ·rename_i l hh0 m hb
       have fin : ∀ (off' : Nat) (c' : Option Nat),some r = reads (.sl n g off' (hh0 - l) c') n → (σ.h n = some (.cells es s fz)) := fun off' c' e => by
        cases e
        rw [← hf _ _ _ rfl n (by simp)]; exact ho
       split at h
       ·rename_i c
        split at h
        ·rename_i hoc
         have hn := fin _ _ h.symm
         cases h
         obtain ⟨cap',arr,t',rg,rfl,hw,hl',hr,hle,hcap⟩ := hx.sl_inv sr hn hg
         obtain ⟨h1,h2,h3,h4,h5,h6⟩ := bounds_ok (P := P) (isSlice := true) (w := σ.w) (cap' := cap') hb hl hh hm hle (fun c e => (hcap.1 c e).1) (by omega) (fun e => by have := hcap.2 e; omega)
         simp only [Option.getD_some] at h1 h3
         have hcc := (h5 c rfl).1
         refine ⟨⟨[n],rfl⟩,.slice (some ⟨σ.r n,(if c = l then off else off + l) * s,none⟩) (hh0 - l) (c - l),?_,?_⟩
         ·simp only [Instr.sliceAt,Instr.slice,Sem.run_bind,run_under hu,Result.andThen_ok,h1,De.run_sizeOf,Option.map_some,Addr.add_mid,Sem.run_pure]
          split
          ·rfl
          ·rw [← hs,Nat.add_mul]
         ·rw [← hg]
          have hb2 : ((if c = l then off else off + l) + (c - l)) * s ≤ arr.size := by
           refine Nat.le_trans (Nat.mul_le_mul_right s ?_) hr
           split <;> omega
          refine VR.sl hn hw (by rw [hg]; split <;> omega) hb2 (by omega) ⟨fun c'' e => ?_,fun e => by cases e⟩
          cases e
          refine ⟨rfl,?_⟩
          rw [hg]
          split <;> omega
        ·cases h
       ·split at h
        ·rename_i hoc
         have hn := fin _ _ h.symm
         cases h
         obtain ⟨cap',arr,t',rg,rfl,hw,hl',hr,hle,hcap⟩ := hx.sl_inv sr hn hg
         obtain ⟨h1,h2,h3,h4,h5,h6⟩ := bounds_ok (P := P) (isSlice := true) (w := σ.w) (cap' := cap') hb hl hh hm hle (fun c e => (hcap.1 c e).1) (by omega) (fun e => by have := hcap.2 e; omega)
         have hcn := h6 rfl
         subst hcn
         have hg2 := hcap.2 rfl
         simp only [Option.getD_none] at h1 h3
         have hne : l = 0 ∨ ¬ (cap' = l) := by
          rcases hoc.1 with hoc | hoc | hoc
          ·right; omega
          ·right; omega
          ·left; exact hoc
         refine ⟨⟨[n],rfl⟩,.slice (some ⟨σ.r n,(off + l) * s,none⟩) (hh0 - l) (cap' - l),?_,?_⟩
         ·simp only [Instr.sliceAt,Instr.slice,Sem.run_bind,run_under hu,Result.andThen_ok,h1,De.run_sizeOf,Option.map_some,Addr.add_mid,Sem.run_pure]
          rcases hne with rfl | hne
          ·simp
          ·rw [if_neg hne,← hs,Nat.add_mul]
         ·rw [← hg]
          refine VR.sl hn hw (by rw [hg]; omega) (Nat.le_trans (Nat.mul_le_mul_right s (by omega)) hr) (by omega) ⟨fun c'' e => by (cases e),fun _ => by rw [hg]; omega⟩
        ·split at h
         ·rename_i hlh
          have hn : σ.h n = some (.cells es s fz) := by
           cases h
           rw [← hf _ _ _ rfl n (by simp)]; exact ho
          cases h
          obtain ⟨cap',arr,t',rg,rfl,hw,hl',hr,hle,hcap⟩ := hx.sl_inv sr hn hg
          obtain ⟨h1,h2,h3,h4,h5,h6⟩ := bounds_ok (P := P) (isSlice := true) (w := σ.w) (cap' := cap') hb hl hh hm hle (fun c e => (hcap.1 c e).1) (by omega) (fun e => by have := hcap.2 e; omega)
          subst hlh
          simp only [Option.getD_none] at h1 h3
          refine ⟨⟨[n],rfl⟩,.slice (some (if cap' = l then ⟨σ.r n,off * s,none⟩ else ⟨σ.r n,off * s + l * de.size,none⟩)) 0 (cap' - l),?_,?_⟩
          ·simp only [Instr.sliceAt,Instr.slice,Sem.run_bind,run_under hu,Result.andThen_ok,h1,De.run_sizeOf,Option.map_some,Addr.add_mid,Sem.run_pure,Nat.sub_self]
           split <;> rfl
          ·refine .tree (TV.isl (es := []) (vs := []) (s := 0) .nil (fun h => absurd rfl h) (fun e he => by cases he) (Nat.zero_le _) (fun e => by cases e))
         ·cases h
      ·cases h
     ·cases h
    ·cases h
   ·cases h
  ·cases h
 ·rename_i m e hk
  simp only [KOK,hk] at hu
  split at h
  ·rename_i de hde
   have De := tabOk e de hde
   split at h
   ·rename_i n g k fo
    split at h
    ·rename_i es s fz ho
     split at h
     ·rename_i hcond
      obtain ⟨hg,hs,hfo,hkm⟩ := hcond
      split at h
      ·rename_i l hh0 c hb
       have hn : σ.h n = some (.cells es s fz) := by
        cases h
        rw [← hf _ _ _ rfl n (by simp)]; exact ho
       cases h
       have hp := hx.pt_inv sr hn hg
       subst hp
       obtain ⟨arr,t0,rg,full,q1,qj,q2,q3,q4,q5,q6,q7⟩ := sr.obj n _ hn
       have hfl := flatten_length q4
       have hfull := q3.length
       obtain ⟨h1,h2,h3,h4,h5,h6⟩ := bounds_ok (P := P) (isSlice := false) (w := σ.w) (cap' := m) hb hl hh hm (Nat.le_refl _) (fun c e => by cases e; rfl) (Nat.le_refl _) (fun e => by cases e)
       simp only [Option.getD_some] at h1 h3
       have hcm := (h5 c rfl).1
       subst hfo
       refine ⟨⟨[n],rfl⟩,.slice (some ⟨σ.r n,(if c = l then k else k + l) * s,none⟩) (hh0 - l) (c - l),?_,?_⟩
       ·simp only [Instr.sliceAt,Sem.run_bind,run_under hu,Result.andThen_ok,h1,De.run_sizeOf,Instr.sureAddr,Addr.add_mid,Sem.run_pure,Nat.add_zero]
        split
        ·rfl
        ·rw [← hs,Nat.add_mul]
       ·rw [← hg]
        have hsz : (k + m) * s ≤ arr.size := by
         refine Nat.le_trans (Nat.mul_le_mul_right s hkm) ?_
         rw [← hg,← hfl,← hfull]; exact q5
        refine VR.sl hn q1 (by rw [hg]; split <;> omega) (Nat.le_trans (Nat.mul_le_mul_right s (by split <;> omega)) hsz) (by omega) ⟨fun c'' e => ?_,fun e => by cases e⟩
        cases e
        refine ⟨rfl,?_⟩
        rw [hg]
        split <;> omega
      ·cases h
     ·cases h
    ·cases h
   ·cases h
  ·cases h
 ·cases h
end Go.Abs
end
section
namespace Go.Abs
variable {P : Program} {tab : Tab} {σ : Sg}
theorem keyOf_vr {kt : TypeId} {dk : TyD} (D : DescOK P kt dk) {k : AV} {kv v : Value} (h : keyOf dk.k k = some kv) (hv : VR σ k v) :
  v = kv ∧ (∀ (b : Bool) w,(Instr.checkKey b 10000 kt kv).run P w = .ok () w) ∧
  ∃ u,P.underlying kt = some u ∧ (∀ x r,sameKey kv x = some r → Instr.sameNow u kv x = some r) := by
 have hu := D.under
 have chk : ∀ (u : TypeDesc),P.underlying kt = some u → (match u,kv with | .interface _,_ | .array _ _,_ | .struct _,_ => False | _,_ => True) → ∀ (b : Bool) w,(Instr.checkKey b 10000 kt kv).run P w = .ok () w := by
  intro u hu' hn b w
  have e : Instr.checkKey b 10000 kt kv = Instr.checkKey b (9999 + 1) kt kv := rfl
  rw [e]
  unfold Instr.checkKey
  simp only [Sem.run_bind,run_under hu',Result.andThen_ok]
  cases u <;> simp_all
 unfold keyOf at h
 split at h
 ·rename_i kk j n hk _
  cases h
  obtain ⟨rfl,_⟩ := hv.sc_inv
  rw [hk] at hu
  simp only [KOK] at hu
  refine ⟨rfl,chk _ hu trivial,_,hu,fun x r hr => ?_⟩
  cases x <;> simp only [sameKey] at hr <;> (try cases hr)
  exact hr
 ·rename_i s hk _
  cases h
  obtain ⟨rfl,_⟩ := hv.sc_inv
  rw [hk] at hu
  simp only [KOK] at hu
  refine ⟨rfl,chk _ hu trivial,_,hu,fun x r hr => ?_⟩
  cases x <;> simp only [sameKey] at hr <;> (try cases hr)
  rfl
 ·rename_i b hk _
  cases h
  obtain ⟨rfl,_⟩ := hv.sc_inv
  rw [hk] at hu
  simp only [KOK] at hu
  refine ⟨rfl,chk _ hu trivial,_,hu,fun x r hr => ?_⟩
  cases x <;> simp only [sameKey] at hr <;> (try cases hr)
  rfl
 ·cases h
theorem check_pair {kt e : TypeId} {dk de : TyD} (D : DescOK P kt dk) (hk : dk.k = .arr 2 e) (De : DescOK P e de) (hs : de.k = .str) (h1 : de.size = 1) (a b : ByteArray) (emp : Bool) (w : World) :
  (Instr.checkKey emp 10000 kt (.agg #[.string a,.string b])).run P w = .ok () w := by
 have hu := D.under
 rw [hk] at hu
 simp only [KOK] at hu
 have hue := De.under
 rw [hs] at hue
 simp only [KOK] at hue
 have hag : de.isAgg = false := by simp [TyD.isAgg,hs]
 have c : ∀ (s : ByteArray),(Instr.checkKey emp 9999 e (.string s)).run P w = .ok () w := fun s => by
  have q : Instr.checkKey emp 9999 e (.string s) = Instr.checkKey emp (9998 + 1) e (.string s) := rfl
  rw [q]
  unfold Instr.checkKey
  simp only [Sem.run_bind,run_under hue,Result.andThen_ok,Sem.run_pure]
 have q : Instr.checkKey emp 10000 kt (.agg #[.string a,.string b]) = Instr.checkKey emp (9999 + 1) kt (.agg #[.string a,.string b]) := rfl
 rw [q]
 unfold Instr.checkKey
 simp only [Sem.run_bind,run_under hu,Result.andThen_ok,Std.Legacy.Range.forIn_eq_forIn_range',Std.Legacy.Range.size,Nat.sub_zero,Nat.add_one_sub_one,Nat.div_one]
 have p : ∀ i v,(#[Value.string a,Value.string b] : Array Value)[i]? = some v → (part e #[.string a,.string b] i).run P w = .ok v w := fun i v hv => by
  simp only [part,Sem.run_bind,De.run_isAgg,hag,Result.andThen_ok,Bool.false_eq_true,if_false,hv,Sem.run_pure]
 have r : List.range' 0 2 = [0,1] := rfl
 simp only [r,List.forIn_cons,List.forIn_nil,Sem.run_bind,De.run_sizeOf,Result.andThen_ok,h1,Nat.zero_mul,Nat.one_mul,p 0 (.string a) rfl,p 1 (.string b) rfl,c,Sem.run_pure]
theorem keyA_vr (tabOk : TabOK P tab) {kt : TypeId} {dk : TyD} (D : DescOK P kt dk) {k : AV} {kv v : Value} (h : keyA tab dk k = some kv) (hv : VR σ k v) :
  v = kv ∧ (∀ (b : Bool) w,(Instr.checkKey b 10000 kt kv).run P w = .ok () w) ∧
  ∃ u,P.underlying kt = some u ∧ (∀ x r,sameKey kv x = some r → Instr.sameNow u kv x = some r) := by
 unfold keyA at h
 split at h
 ·rename_i v0 h0
  cases h
  exact keyOf_vr D h0 hv
 ·split at h
  ·rename_i e a b hk _
   split at h
   ·rename_i de hde
    split at h
    ·rename_i hs
     split at h
     ·rename_i h1
      cases h
      obtain ⟨ds,rfl,hds⟩ := hv.agg_inv
      cases hds with
      | cons q1 hds =>
       cases hds with
       | cons q2 hds =>
        cases hds
        obtain ⟨rfl,_⟩ := q1.sc_inv
        obtain ⟨rfl,_⟩ := q2.sc_inv
        have hu := D.under
        rw [hk] at hu
        simp only [KOK] at hu
        refine ⟨rfl,fun emp w => check_pair D hk (tabOk e de hde) hs h1 a b emp w,_,hu,fun x r hr => ?_⟩
        cases x <;> simp [sameKey] at hr
     ·cases h
    ·cases h
   ·cases h
  ·cases h
theorem findK_ok {u : TypeDesc} {kv : Value} (hs : ∀ x r,sameKey kv x = some r → Instr.sameNow u kv x = some r) : ∀ {ks vs : List Value} {es : List MapEntry} {i : Nat} {r : Option Nat},
  es.map (·.key) = ks → es.map (·.val) = vs → findK kv ks i = some r → Instr.findNow u kv es i = some (r.bind fun j => (vs[j - i]?).map fun v => (j,v)) ∧ (∀ j,r = some j → i ≤ j ∧ j - i < ks.length ∧ (∃ x,ks[j - i]? = some x ∧ sameKey kv x = some true))
 | _,_,[],i,r,rfl,rfl,h => by cases h; exact ⟨rfl,by simp⟩
 | _,_,e :: es,i,r,rfl,rfl,h => by
  simp only [List.map_cons,findK] at h
  split at h
  ·rename_i hk
   cases h
   refine ⟨?_,fun j hj => ?_⟩
   ·simp only [Instr.findNow,hs _ _ hk]
    simp
   ·cases hj
    exact ⟨Nat.le_refl _,by simp,e.key,by simp,hk⟩
  ·rename_i hk
   obtain ⟨h1,h2⟩ := findK_ok hs (es := es) (i := i + 1) rfl rfl h
   refine ⟨?_,fun j hj => ?_⟩
   ·simp only [Instr.findNow,hs _ _ hk,h1]
    congr 1
    cases r with
    | none => rfl
    | some j =>
     obtain ⟨p,q,_⟩ := h2 j rfl
     simp only [Option.bind_some]
     rw [show j - i = (j - (i + 1)) + 1 by omega]
     simp
   ·obtain ⟨p,q,x,hx,hx2⟩ := h2 j hj
    refine ⟨by omega,by simp at q ⊢; omega,x,?_,hx2⟩
    rw [show j - i = (j - (i + 1)) + 1 by omega]
    simpa using hx
  ·cases h
theorem run_findKey {kt : TypeId} {u : TypeDesc} {kv : Value} (hu : P.underlying kt = some u) (hs : ∀ x r,sameKey kv x = some r → Instr.sameNow u kv x = some r) {ks vs : List Value} {es : Array MapEntry} (he : Ents ks vs es)
  {r : Option Nat} (h : findK kv ks 0 = some r) (w : World) :
  (Instr.findKey kt kv es.toList).run P w = .ok (r.bind fun j => (vs[j]?).map fun v => (j,v)) w ∧ (∀ j,r = some j → j < ks.length ∧ (∃ x,ks[j]? = some x ∧ sameKey kv x = some true)) := by
 obtain ⟨h1,h2⟩ := findK_ok hs he.1 he.2 h
 refine ⟨?_,fun j hj => ?_⟩
 ·simp only [Instr.findKey,Sem.run_bind,run_under hu,Result.andThen_ok,h1,Sem.run_pure,Nat.sub_zero]
 ·obtain ⟨_,a,b⟩ := h2 j hj
  exact ⟨a,b⟩
theorem zeroOf_vr {t : TypeId} {d : TyD} (D : DescOK P t d) {x : AV} (h : zeroOf d = some x) : ∃ z,(zeroValue t).run P σ.w = .ok z σ.w ∧ VR σ x z := by
 obtain ⟨z,hz,hzc,ha,hb⟩ := D.run_zero σ.w
 refine ⟨z,hz,?_⟩
 unfold zeroOf at h
 obtain ⟨_,⟨h1,h2⟩ | ⟨h1,v,h2,h3⟩⟩ := ofCells_vr (vrs_sc (σ := σ) d.zero D.zsc) h
 ·rw [ha h1]; exact h2
 ·rw [hb h1] at h2
  cases h2
  exact h3
theorem entriesOf_vr (sr : SR σ) {H : Heap} {x : AV} {xv : Value} (hx : VR σ x xv) {ks : List Value} {xs : List AV} {rd : List Nat} (h : entriesOf H x = some (ks,xs,rd)) (hf : ∀ m ∈ rd,look H.objs m = σ.h m) :
  ∃ es vs,VRs σ xs vs ∧ Ents ks vs es ∧ ((xv = .map none ∧ es = #[]) ∨ ∃ r clock,xv = .map (some r) ∧ σ.w.heap[r]? = some (.map es clock)) := by
 unfold entriesOf at h
 split at h
 ·cases h
  obtain ⟨rfl,_⟩ := hx.sc_inv
  exact ⟨#[],[],.nil,⟨rfl,rfl⟩,.inl ⟨rfl,rfl⟩⟩
 ·cases h
  obtain ⟨r,vs,es,clock,rfl,ht,hj,hw,he⟩ := hx.imp_inv
  exact ⟨es,vs,ht.vrs,he,.inr ⟨r,clock,rfl,hw⟩⟩
 ·rename_i n
  split at h
  ·rename_i ks' vs' bs clock fz ho
   cases h
   have hn : σ.h n = some (.map ks xs bs clock fz) := by rw [← hf n (by simp)]; exact ho
   obtain ⟨ents,vs,h1,h2,h3,h4,h5⟩ := sr.obj n _ hn
   exact ⟨ents,vs,h2,h3,.inr ⟨_,clock,hx.mp_inv sr hn,h1⟩⟩
  ·cases h
 ·cases h
theorem run_getObj_map {r : Nat} {es : Array MapEntry} {clock : Nat} {w : World} (h : w.heap[r]? = some (.map es clock)) : (getObj r).run P w = .ok (.map es clock) w := by
 simp [getObj,Sem.run,h]
theorem lookup_ok (tabOk : TabOK P tab) (sr : SR σ) {H : Heap} {t : TypeId} {d : TyD} (hd : tab t = some d) {x k : AV} {xv kv : Value} (hx : VR σ x xv) (hk : VR σ k kv) {ok : Bool} {r : Res}
  (h : lookupA tab H d x k ok = some r) (hf : Foot H σ r) : (∃ rd,r.e = .loc rd [] 0) ∧ Qt P (Instr.lookup t xv kv ok) σ r.v := by
 have D := tabOk t d hd
 have hu := D.under
 unfold lookupA at h
 split at h
 ·rename_i kt et hkk
  simp only [KOK,hkk] at hu
  split at h
  ·rename_i dk de hdk hde
   have Dk := tabOk kt dk hdk
   have De := tabOk et de hde
   split at h
   ·rename_i kv0 ks xs rd hkv hes
    obtain ⟨rfl,hchk,u,huk,hsame⟩ := keyA_vr tabOk Dk hkv hk
    have fin : (∃ v b,r = ⟨v,.loc rd [] 0⟩ ∧ b = true) → ∃ es vs,VRs σ xs vs ∧ Ents ks vs es ∧ ((xv = .map none ∧ es = #[]) ∨ ∃ r clock,xv = .map (some r) ∧ σ.w.heap[r]? = some (.map es clock)) := by
     rintro ⟨v,b,rfl,_⟩
     exact entriesOf_vr sr hx hes (hf _ _ _ rfl)
    have run : ∀ es : Array MapEntry,((xv = .map none ∧ es = #[]) ∨ ∃ r clock,xv = .map (some r) ∧ σ.w.heap[r]? = some (.map es clock)) → ∀ (q : Option (Nat × Value)),(Instr.findKey kt kv es.toList).run P σ.w = .ok q σ.w →
      (Instr.lookup t xv kv ok).run P σ.w = ((match q with | some (_,v) => pure (v,true) | none => do pure (← zeroValue et,false) : Sem (Value × Bool)).run P σ.w).andThen fun p w => .ok (if ok then .tuple #[p.1,.bool p.2] else p.1) w := by
     intro es he q hq
     obtain ⟨z,hz,_⟩ := De.run_zero σ.w
     rcases he with ⟨rfl,rfl⟩ | ⟨r',clock,rfl,hw⟩
     ·unfold Instr.lookup
      simp only [Sem.run_bind,run_under hu,Result.andThen_ok,Sem.run_pure,hchk,hq]
      cases q with
      | none => simp only [Sem.run_bind,hz,Result.andThen_ok,Sem.run_pure]
      | some p => simp only [Sem.run_bind,Result.andThen_ok,Sem.run_pure]
     ·unfold Instr.lookup
      simp only [Sem.run_bind,run_under hu,Result.andThen_ok,Sem.run_pure,run_getObj_map hw,hchk,hq]
      cases q with
      | none => simp only [Sem.run_bind,hz,Result.andThen_ok,Sem.run_pure]
      | some p => simp only [Sem.run_bind,Result.andThen_ok,Sem.run_pure]
    split at h
    ·rename_i i hfk
     split at h
     ·rename_i v hv
      cases h
      obtain ⟨es,vs,hvs,he,hmap⟩ := fin ⟨_,true,rfl,rfl⟩
      obtain ⟨hrun,hj⟩ := run_findKey huk hsame he hfk σ.w
      obtain ⟨y,hy,hyv⟩ := hvs.get hv
      refine ⟨⟨rd,rfl⟩,if ok then .tuple #[y,.bool true] else y,?_,?_⟩
      ·rw [run es hmap _ hrun]
       simp only [Option.bind_some,hy,Option.map_some,Sem.run_pure,Result.andThen_ok]
      ·cases ok with
       | true => exact VR.tup (ds := [y,.bool true]) (.cons hyv (.cons (.tree (.sc rfl)) .nil))
       | false => exact hyv
     ·cases h
    ·rename_i hfk
     split at h
     ·rename_i z hz
      cases h
      obtain ⟨es,vs,hvs,he,hmap⟩ := fin ⟨_,true,rfl,rfl⟩
      obtain ⟨hrun,hj⟩ := run_findKey huk hsame he hfk σ.w
      obtain ⟨y,hy,hyv⟩ := zeroOf_vr (σ := σ) De hz
      refine ⟨⟨rd,rfl⟩,if ok then .tuple #[y,.bool false] else y,?_,?_⟩
      ·rw [run es hmap _ hrun]
       simp only [Option.bind_none,Sem.run_bind,hy,Result.andThen_ok,Sem.run_pure]
      ·cases ok with
       | true => exact VR.tup (ds := [y,.bool false]) (.cons hyv (.cons (.tree (.sc rfl)) .nil))
       | false => exact hyv
     ·cases h
    ·cases h
   ·cases h
  ·cases h
 ·cases h
theorem len_ok (tabOk : TabOK P tab) (sr : SR σ) {H : Heap} {t : TypeId} {d : TyD} (hd : tab t = some d) {x : AV} {xv : Value} (hx : VR σ x xv) {r : Res} (ts : Array TypeId) (hts : ts[0]? = some t) (ty : TypeId)
  (h : lenA H d x = some r) (hf : Foot H σ r) : (∃ rd,r.e = .loc rd [] 0) ∧ Qt P (Builtin.len_ ts ty #[xv]) σ r.v := by
 have D := tabOk t d hd
 have hu := D.under
 have key : ∀ n : Int,VR σ (.sc (.int .i64 n)) (goInt n) := fun n => .tree (.sc rfl)
 unfold lenA at h
 have e0 : (#[xv] : Array Value)[0]? = some xv := rfl
 split at h
 ·rename_i s hk
  simp only [KOK,hk] at hu
  cases h
  obtain ⟨rfl,_⟩ := hx.sc_inv
  refine ⟨⟨[],rfl⟩,_,?_,key _⟩
  simp only [Builtin.len_,hts,e0,Sem.run_bind,run_under hu,Result.andThen_ok,Sem.run_pure]
 ·rename_i n e hk
  simp only [KOK,hk] at hu
  cases h
  refine ⟨⟨[],rfl⟩,_,?_,key _⟩
  simp only [Builtin.len_,hts,e0,Sem.run_bind,run_under hu,Result.andThen_ok,Sem.run_pure]
 ·rename_i e hk
  simp only [KOK,hk] at hu
  cases h
  obtain ⟨rfl,_⟩ := hx.sc_inv
  refine ⟨⟨[],rfl⟩,_,?_,key _⟩
  simp only [Builtin.len_,hts,e0,Sem.run_bind,run_under hu,Result.andThen_ok,Sem.run_pure]
  rfl
 ·rename_i e es c hk
  simp only [KOK,hk] at hu
  cases h
  obtain ⟨a,vs,s,cap,rfl,_⟩ := hx.isl_inv
  refine ⟨⟨[],rfl⟩,_,?_,key _⟩
  simp only [Builtin.len_,hts,e0,Sem.run_bind,run_under hu,Result.andThen_ok,Sem.run_pure]
 ·rename_i e n g off len cap hk
  simp only [KOK,hk] at hu
  cases h
  have : ∃ a c,xv = .slice a len c := by
   cases hx with
   | tree h => cases h
   | sl => exact ⟨_,_,rfl⟩
   | stale h => obtain ⟨_,a,c,rfl,_⟩ := h; exact ⟨_,_,rfl⟩
  obtain ⟨a,c,rfl⟩ := this
  refine ⟨⟨[],rfl⟩,_,?_,key _⟩
  simp only [Builtin.len_,hts,e0,Sem.run_bind,run_under hu,Result.andThen_ok,Sem.run_pure]
 ·rename_i kt et x hk
  simp only [KOK,hk] at hu
  split at h
  ·rename_i ks xs rd hes
   cases h
   obtain ⟨es,vs,hvs,he,hmap⟩ := entriesOf_vr sr hx hes (hf _ _ _ rfl)
   have hsz : (es.size : Int) = ks.length := by rw [← he.1]; simp
   refine ⟨⟨rd,rfl⟩,goInt ks.length,?_,key _⟩
   rcases hmap with ⟨rfl,rfl⟩ | ⟨r',clock,rfl,hw⟩
   ·simp only [Builtin.len_,hts,e0,Sem.run_bind,run_under hu,Result.andThen_ok,Sem.run_pure]
    rw [← hsz]; rfl
   ·simp only [Builtin.len_,hts,e0,Sem.run_bind,run_under hu,Result.andThen_ok,Sem.run_pure,run_getObj_map hw,hsz]
  ·cases h
 ·cases h
end Go.Abs
end
section
namespace Go.Abs
variable {P : Program} {tab : Tab} {σ : Sg}
theorem cap_ok (sr : SR σ) {H : Heap} {t : TypeId} {e : TypeId} (hu : P.underlying t = some (.slice e)) {x : AV} {xv : Value} (hx : VR σ x xv) {r : Res} (ts : Array TypeId) (hts : ts[0]? = some t) (ty : TypeId)
  (h : capA H x = some r) (hf : Foot H σ r) : (∃ rd,r.e = .loc rd [] 0) ∧ Qt P (Builtin.cap_ ts ty #[xv]) σ r.v := by
 have e0 : (#[xv] : Array Value)[0]? = some xv := rfl
 have key : ∀ n : Int,VR σ (.sc (.int .i64 n)) (goInt n) := fun n => .tree (.sc rfl)
 unfold capA at h
 split at h
 ·cases h
  obtain ⟨rfl,_⟩ := hx.sc_inv
  refine ⟨⟨[],rfl⟩,_,?_,key _⟩
  simp only [Builtin.cap_,hts,e0,Sem.run_bind,run_under hu,Result.andThen_ok,Sem.run_pure]
  rfl
 ·cases h
  obtain ⟨a,vs,s,cap,rfl,_,_,_,_,hc⟩ := hx.isl_inv
  have hce := hc rfl
  subst hce
  refine ⟨⟨[],rfl⟩,_,?_,key _⟩
  simp only [Builtin.cap_,hts,e0,Sem.run_bind,run_under hu,Result.andThen_ok,Sem.run_pure]
 ·rename_i n g off len c
  split at h
  ·rename_i es s fz ho
   split at h
   ·rename_i hg
    cases h
    have hn : σ.h n = some (.cells es s fz) := by rw [← hf _ _ _ rfl n (by simp)]; exact ho
    obtain ⟨cap',arr,t',rg,rfl,hw,hl,hr,hle,hcap⟩ := hx.sl_inv sr hn hg
    have hce := (hcap.1 c rfl).1
    subst hce
    refine ⟨⟨[n],rfl⟩,_,?_,key _⟩
    simp only [Builtin.cap_,hts,e0,Sem.run_bind,run_under hu,Result.andThen_ok,Sem.run_pure]
   ·cases h
  ·cases h
 ·cases h
theorem pureVal_run {s : Sem Value} {v : Value} (h : pureVal s = some v) (w : World) : s.run P w = .ok v w := by
 cases s <;> simp only [pureVal,reduceCtorEq,Option.some.injEq] at h
 subst h
 rfl
theorem intOp_scalar {op : BinOp} {t : TypeId} {k j : IntKind} {a b : Int} {v : Value} (h : pureVal (binOp op t (.int k a) (.int j b)) = some v) : scalarB v = true := by
 have : ∀ s : Sem Value,pureVal s = some v → (∀ x,s = .pure x → scalarB x = true) → scalarB v = true := by
  intro s hs hx
  cases s <;> simp only [pureVal,reduceCtorEq,Option.some.injEq] at hs
  subst hs
  exact hx _ rfl
 refine this _ h (fun x hx => ?_)
 cases op <;> simp only [binOp,Op.intArith,Op.intDiv,Op.intBits,Op.intCmp,Op.shift] at hx <;> (repeat' split at hx) <;> (first | (cases hx; rfl) | cases hx)
theorem stringOp_scalar {op : BinOp} {a b : ByteArray} {v : Value} (h : pureVal (Op.stringOp op a b) = some v) : scalarB v = true := by
 have : ∀ s : Sem Value,pureVal s = some v → (∀ x,s = .pure x → scalarB x = true) → scalarB v = true := by
  intro s hs hx
  cases s <;> simp only [pureVal,reduceCtorEq,Option.some.injEq] at hs
  subst hs
  exact hx _ rfl
 refine this _ h (fun x hx => ?_)
 cases op <;> simp only [Op.stringOp] at hx <;> (repeat' split at hx) <;> (first | (cases hx; rfl) | cases hx)
theorem scs_vr : ∀ {cs : List AV} {xs : List Value} {ds : List Value},scs cs = some xs → VRs σ cs ds → ds = xs
 | [],_,_,h,.nil => by cases h; rfl
 | c :: cs,xs,_,h,.cons hv hs => by
  cases c <;> simp only [scs,reduceCtorEq] at h
  split at h
  ·rename_i l hl
   cases h
   obtain ⟨rfl,_⟩ := hv.sc_inv
   rw [scs_vr hl hs]
  ·cases h
section equal
variable {t : TypeId} (w : World)
theorem eq_bool (hu : P.underlying t = some .bool) (a b : Bool) : (Op.equal t (.bool a) (.bool b)).run P w = .ok (a == b) w := by
 show (Op.equalIn (9999 + 1) t _ _).run P w = _
 unfold Op.equalIn
 simp only [Sem.run_bind,run_under hu,Result.andThen_ok,Sem.run_pure]
theorem eq_ptr {e : TypeId} (hu : P.underlying t = some (.pointer e)) (a : Option Addr) : (Op.equal t (.pointer a) (.pointer none)).run P w = .ok a.isNone w := by
 show (Op.equalIn (9999 + 1) t _ _).run P w = _
 unfold Op.equalIn
 cases a <;> simp only [Sem.run_bind,run_under hu,Result.andThen_ok,Sem.run_pure] <;> rfl
theorem eq_slice {e : TypeId} (hu : P.underlying t = some (.slice e)) (a : Option Addr) (l c : Nat) : (Op.equal t (.slice a l c) (.slice none 0 0)).run P w = .ok a.isNone w := by
 show (Op.equalIn (9999 + 1) t _ _).run P w = _
 unfold Op.equalIn
 cases a <;> simp only [Sem.run_bind,run_under hu,Result.andThen_ok,Sem.run_pure] <;> rfl
theorem eq_nilIface {ms : Array (String × TypeId)} (hu : P.underlying t = some (.interface ms)) : (Op.equal t .nilIface .nilIface).run P w = .ok true w := by
 show (Op.equalIn (9999 + 1) t _ _).run P w = _
 unfold Op.equalIn
 simp only [Sem.run_bind,run_under hu,Result.andThen_ok,Sem.run_pure]
theorem eq_iface {ms : Array (String × TypeId)} (hu : P.underlying t = some (.interface ms)) (u : TypeId) (v : Value) : (Op.equal t (.iface u v) .nilIface).run P w = .ok false w := by
 show (Op.equalIn (9999 + 1) t _ _).run P w = _
 unfold Op.equalIn
 simp only [Sem.run_bind,run_under hu,Result.andThen_ok,Sem.run_pure]
end equal
def odd (x : Value) : Prop := (∀ k n,x ≠ .int k n) ∧ (∀ s,x ≠ .string s) ∧ (∀ k n,x ≠ .float k n) ∧ (∀ k n m,x ≠ .complex k n m)
theorem eqA_ok (tabOk : TabOK P tab) {t : TypeId} {d : TyD} (hd : tab t = some d) {x y : AV} {xv yv : Value} (hx : VR σ x xv) (hy : VR σ y yv) {b : Bool}
  (X Y : Operand) (h : eqA d (isConst X || isConst Y) x y = some b) (op : BinOp) :
  (Op.equal t xv yv).run P σ.w = .ok b σ.w ∧ (eqGuard op t X Y xv yv).run P σ.w = .ok () σ.w ∧ odd xv := by
 have D := tabOk t d hd
 have hu := D.under
 have ptrs : ∀ e,P.underlying t = some (.pointer e) → ∀ a,xv = .pointer a → yv = .pointer none → (Op.equal t xv yv).run P σ.w = .ok a.isNone σ.w ∧ (eqGuard op t X Y xv yv).run P σ.w = .ok () σ.w ∧ odd xv := by
  rintro e hu a rfl rfl
  exact ⟨eq_ptr σ.w hu a,by cases op <;> rfl,by simp [odd]⟩
 have slcs : ∀ e,P.underlying t = some (.slice e) → ∀ a l c,xv = .slice a l c → yv = .slice none 0 0 → (Op.equal t xv yv).run P σ.w = .ok a.isNone σ.w ∧ (eqGuard op t X Y xv yv).run P σ.w = .ok () σ.w ∧ odd xv := by
  rintro e hu a l c rfl rfl
  exact ⟨eq_slice σ.w hu a l c,by cases op <;> rfl,by simp [odd]⟩
 unfold eqA at h
 split at h
 ·rename_i a b'
  split at h
  ·rename_i hk
   cases h
   obtain ⟨rfl,_⟩ := hx.sc_inv
   obtain ⟨rfl,_⟩ := hy.sc_inv
   simp only [KOK,hk] at hu
   exact ⟨eq_bool σ.w hu a b',by cases op <;> rfl,by simp [odd]⟩
  ·cases h
 ·rename_i as bs
  split at h
  ·rename_i ks xs ys hfl hxs hys
   obtain ⟨ds,rfl,hds⟩ := hx.agg_inv
   obtain ⟨es,rfl,hes⟩ := hy.agg_inv
   rw [scs_vr hxs hds,scs_vr hys hes]
   obtain ⟨h1,h2⟩ := D.flat _ hfl
   refine ⟨h2 _ _ _ h _,?_,by simp [odd]⟩
   cases op <;> first | rfl | (show (eqGuard _ t X Y (.agg xs.toArray) (.agg ys.toArray)).run P σ.w = _; unfold eqGuard; simp [h1])
  ·cases h
 ·unfold nilEq at h
  split at h <;> (try (cases h; done)) <;> split at h <;> (try (cases h; done)) <;> rename_i hk <;> simp only [KOK,hk] at hu
  ·cases h
   obtain ⟨rfl,_⟩ := hx.sc_inv; obtain ⟨rfl,_⟩ := hy.sc_inv
   exact slcs _ hu none 0 0 rfl rfl
  ·cases h
   obtain ⟨rfl,_⟩ := hy.sc_inv
   obtain ⟨a,vs,s,cap,rfl,_⟩ := hx.isl_inv
   exact slcs _ hu (some a) _ _ rfl rfl
  ·cases h
   obtain ⟨rfl,_⟩ := hy.sc_inv
   cases hx with
   | tree h => cases h
   | sl => exact slcs _ hu (some _) _ _ rfl rfl
   | stale h => obtain ⟨_,a,c,rfl,_⟩ := h; exact slcs _ hu (some a) _ _ rfl rfl
  ·cases h
   obtain ⟨rfl,_⟩ := hx.sc_inv; obtain ⟨rfl,_⟩ := hy.sc_inv
   obtain ⟨e,hu⟩ := hu
   exact ptrs _ hu none rfl rfl
  ·cases h
   obtain ⟨rfl,_⟩ := hy.sc_inv
   obtain ⟨e,hu⟩ := hu
   obtain ⟨a,vs,rfl,_⟩ := hx.ipt_inv
   exact ptrs _ hu (some a) rfl rfl
  ·cases h
   obtain ⟨rfl,_⟩ := hy.sc_inv
   obtain ⟨e,hu⟩ := hu
   cases hx with
   | tree h => cases h
   | pt => exact ptrs _ hu (some _) rfl rfl
   | stale h => obtain ⟨_,b,o,rfl⟩ := h; exact ptrs _ hu (some _) rfl rfl
  ·split at h
   ·rename_i hcc
    cases h
    obtain ⟨rfl,_⟩ := hx.sc_inv; obtain ⟨rfl,_⟩ := hy.sc_inv
    obtain ⟨e,hu⟩ := hu
    refine ⟨eq_nilIface σ.w hu,?_,by simp [odd]⟩
    cases op <;> first | rfl | (cases X <;> cases Y <;> first | rfl | (simp [isConst] at hcc))
   ·cases h
  ·cases h
   obtain ⟨rfl,_⟩ := hy.sc_inv
   obtain ⟨e,hu⟩ := hu
   obtain ⟨a,rfl,_⟩ := hx.ifc_inv
   exact ⟨eq_iface σ.w hu _ _,by cases op <;> rfl,by simp [odd]⟩
theorem binOp_ok (tabOk : TabOK P tab) {op : BinOp} {t : TypeId} {x y : AV} {xv yv : Value} (hx : VR σ x xv) (hy : VR σ y yv) (X Y : Operand) {r : Res}
  (h : binOpA tab op t (isConst X || isConst Y) x y = some r) : r.e = .loc [] [] 0 ∧ Qt P (do eqGuard op t X Y xv yv; binOp op t xv yv) σ r.v := by
 unfold binOpA at h
 split at h
 ·rename_i k a j b
  split at h
  ·rename_i v hv
   cases h
   obtain ⟨rfl,_⟩ := hx.sc_inv
   obtain ⟨rfl,_⟩ := hy.sc_inv
   refine ⟨rfl,v,?_,.tree (.sc (intOp_scalar hv))⟩
   have : (eqGuard op t X Y (.int k a) (.int j b)).run P σ.w = .ok () σ.w := by cases op <;> rfl
   simp only [Sem.run_bind,this,Result.andThen_ok,pureVal_run hv]
  ·cases h
 ·rename_i a b
  obtain ⟨rfl,_⟩ := hx.sc_inv
  obtain ⟨rfl,_⟩ := hy.sc_inv
  have hg : (eqGuard op t X Y (.string a) (.string b)).run P σ.w = .ok () σ.w := by cases op <;> rfl
  have hb : binOp op t (.string a) (.string b) = Op.stringOp op a b := by cases op <;> rfl
  split at h
  ·split at h
   ·rename_i hle
    cases h
    refine ⟨rfl,_,?_,.tree (.sc rfl)⟩
    have h63 : ¬ (((a.size + b.size : Nat) : Int) > IntKind.i64.max) := by
     have : (IntKind.i64.max : Int) = 2 ^ 63 - 1 := rfl
     rw [this]; omega
    simp only [Sem.run_bind,hg,Result.andThen_ok,hb,Op.stringOp,if_neg h63,Sem.run_pure]
   ·cases h
  ·split at h
   ·rename_i v hv
    cases h
    refine ⟨rfl,v,?_,.tree (.sc (stringOp_scalar hv))⟩
    simp only [Sem.run_bind,hg,Result.andThen_ok,hb,pureVal_run hv]
   ·cases h
 ·split at h
  ·rename_i d hd
   split at h
   ·rename_i b hb
    cases h
    obtain ⟨h1,h2,o1,o2,o3,o4⟩ := eqA_ok tabOk hd hx hy X Y hb .eql
    refine ⟨rfl,.bool b,?_,.tree (.sc rfl)⟩
    have : binOp .eql t xv yv = (do pure (.bool (← Op.equal t xv yv))) := by
     cases xv <;> first | rfl | (exact absurd rfl (o1 _ _)) | (exact absurd rfl (o2 _)) | (exact absurd rfl (o3 _ _)) | (exact absurd rfl (o4 _ _ _))
    simp only [Sem.run_bind,h2,Result.andThen_ok,this,h1,Sem.run_pure]
   ·cases h
  ·cases h
 ·split at h
  ·rename_i d hd
   split at h
   ·rename_i b hb
    cases h
    obtain ⟨h1,h2,o1,o2,o3,o4⟩ := eqA_ok tabOk hd hx hy X Y hb .neq
    refine ⟨rfl,.bool (!b),?_,.tree (.sc rfl)⟩
    have : binOp .neq t xv yv = (do pure (.bool (!(← Op.equal t xv yv)))) := by
     cases xv <;> first | rfl | (exact absurd rfl (o1 _ _)) | (exact absurd rfl (o2 _)) | (exact absurd rfl (o3 _ _)) | (exact absurd rfl (o4 _ _ _))
    simp only [Sem.run_bind,h2,Result.andThen_ok,this,h1,Sem.run_pure]
   ·cases h
  ·cases h
 ·cases h
theorem unOp_ok {op : UnOp} {v r : Value} (hs : (match v with | .int _ _ | .bool _ => True | _ => False)) (h : pureVal (Op.unary op v) = some r) : Qt P (Op.unary op v) σ (.sc r) := by
 refine ⟨r,pureVal_run h _,.tree (.sc ?_)⟩
 have key : ∀ s : Sem Value,pureVal s = some r → (∀ x,s = .pure x → scalarB x = true) → scalarB r = true := by
  intro s hs hx
  cases s <;> simp only [pureVal,reduceCtorEq,Option.some.injEq] at hs
  subst hs
  exact hx _ rfl
 refine key _ h (fun x hx => ?_)
 cases v <;> simp only [] at hs <;> cases op <;> simp only [Op.unary,Op.intArith,Op.intBits] at hx <;> first | (cases hx; rfl) | cases hx
theorem convert_ok (tabOk : TabOK P tab) {s d : TypeId} {ds dd : TyD} (hs : tab s = some ds) (hd : tab d = some dd) {x : AV} {xv : Value} (hx : VR σ x xv) {r : Res} (h : convertA ds dd x = some r) :
  r.e = .loc [] [] 0 ∧ Qt P (convert s d xv) σ r.v := by
 have Ds := (tabOk _ _ hs).under
 have Dd := (tabOk _ _ hd).under
 unfold convertA at h
 split at h
 ·rename_i h1 h2
  cases h
  obtain ⟨rfl,_⟩ := hx.sc_inv
  simp only [KOK,h1] at Ds
  simp only [KOK,h2] at Dd
  refine ⟨rfl,_,?_,.tree (.sc rfl)⟩
  unfold convert
  simp only [Sem.run_bind,run_under Ds,run_under Dd,Result.andThen_ok]
  rfl
 ·rename_i h1 h2
  cases h
  obtain ⟨rfl,_⟩ := hx.sc_inv
  simp only [KOK,h1] at Ds
  simp only [KOK,h2] at Dd
  refine ⟨rfl,_,?_,.tree (.sc rfl)⟩
  unfold convert
  simp only [Sem.run_bind,run_under Ds,run_under Dd,Result.andThen_ok]
  rfl
 ·cases h
theorem makeInterface_ok (tabOk : TabOK P tab) {t : TypeId} {d : TyD} (hd : tab t = some d) {x : AV} {xv : Value} (hx : VR σ x xv) {r : Res}
  (h : (match d.k with | .other | .iface => none | _ => quiet (.ifc t x)) = some r) : r.e = .loc [] [] 0 ∧ Qt P (Instr.makeInterface t xv) σ r.v := by
 have D := (tabOk _ _ hd).under
 have key : ∀ u,P.underlying t = some u → (match u with | .interface _ => False | _ => True) → Qt P (Instr.makeInterface t xv) σ (.ifc t x) := by
  intro u hu hn
  refine ⟨.iface t xv,?_,.ifc hx⟩
  unfold Instr.makeInterface
  simp only [Sem.run_bind,run_under hu,Result.andThen_ok]
  cases u <;> first | rfl | exact hn.elim
 split at h
 ·cases h
 ·cases h
 ·rename_i h1 h2
  cases h
  refine ⟨rfl,?_⟩
  cases hk : d.k <;> simp only [KOK,hk] at D
  case strct => obtain ⟨f,D,_⟩ := D; exact key _ D trivial
  case ptr => obtain ⟨f,D⟩ := D; exact key _ D trivial
  case iface => exact absurd hk h2
  case other => exact absurd hk h1
  all_goals exact key _ D trivial
theorem typeAssert_ok (tabOk : TabOK P tab) {X t : TypeId} {d : TyD} (hd : tab t = some d) {u : TypeId} {x : AV} {xv : Value} (hx : VR σ (.ifc u x) xv) {ok : Bool} {r : Res}
  (h : (match d.k with
   | .other | .iface => none
   | _ => if u = t then quiet (if ok then .tup [x,.sc (.bool true)] else x)
    else if ok then (match zeroOf d with | some z => quiet (.tup [z,.sc (.bool false)]) | none => none) else none) = some r) :
  r.e = .loc [] [] 0 ∧ Qt P (Instr.typeAssert xv X t ok) σ r.v := by
 have T := tabOk _ _ hd
 have D := T.under
 obtain ⟨v,rfl,hv⟩ := hx.ifc_inv
 have key : ∀ ud,P.underlying t = some ud → (match ud with | .interface _ => False | _ => True) →
   (if u = t then quiet (if ok then .tup [x,.sc (.bool true)] else x)
    else if ok then (match zeroOf d with | some z => quiet (.tup [z,.sc (.bool false)]) | none => none) else none) = some r →
   r.e = .loc [] [] 0 ∧ Qt P (Instr.typeAssert (.iface u v) X t ok) σ r.v := by
  intro ud hu hn h
  split at h
  ·rename_i hut
   cases h
   refine ⟨rfl,if ok then .tuple #[v,.bool true] else v,?_,?_⟩
   ·unfold Instr.typeAssert
    simp only [Sem.run_bind,run_under hu,Result.andThen_ok]
    cases ud <;> first | exact hn.elim | (simp only [if_pos hut]; rfl)
   ·cases ok with
    | true => exact VR.tup (ds := [v,.bool true]) (.cons hv (.cons (.tree (.sc rfl)) .nil))
    | false => exact hv
  ·rename_i hut
   cases ok with
   | false => simp at h
   | true =>
    simp only [if_true] at h
    split at h
    ·rename_i z hz
     cases h
     obtain ⟨zv,hzv,hzr⟩ := zeroOf_vr (σ := σ) T hz
     refine ⟨rfl,.tuple #[zv,.bool false],?_,VR.tup (ds := [zv,.bool false]) (.cons hzr (.cons (.tree (.sc rfl)) .nil))⟩
     unfold Instr.typeAssert
     simp only [Sem.run_bind,run_under hu,Result.andThen_ok]
     cases ud <;> first | exact hn.elim | (simp only [if_neg hut,if_true,Sem.run_bind,hzv,Result.andThen_ok,Sem.run_pure])
    ·cases h
 split at h
 ·cases h
 ·cases h
 ·rename_i h1 h2
  cases hk : d.k <;> simp only [KOK,hk] at D
  case strct => obtain ⟨f,D,_⟩ := D; exact key _ D trivial h
  case ptr => obtain ⟨f,D⟩ := D; exact key _ D trivial h
  case iface => exact absurd hk h2
  case other => exact absurd hk h1
  all_goals exact key _ D trivial h
end Go.Abs
end
