/- What the walking machine's values and objects say of those of the abstract machine. -/
import Derived.Test.YthbenojbjjgnaaaGreatUAf
set_option linter.unusedVariables false
set_option linter.unusedSimpArgs false
set_option linter.unusedSectionVars false
section
namespace Go.Abs
inductive Tr (α : Type) where
  | nil
  | node (a : α) (l r : Tr α)
def Tr.get {α : Type} : Tr (Option α) → Nat → Option α
  | .nil,_ => none
  | .node a l r,n => bif Nat.beq n 0 then a else bif Nat.beq (n % 2) 1 then l.get (n / 2) else r.get (n / 2 - 1)
def mkTr {α : Type} (f : Nat → α) : Nat → Nat → Nat → Tr α
  | 0,_,_ => .nil
  | k + 1,lo,st => .node (f lo) (mkTr f k (lo + st) (2 * st)) (mkTr f k (lo + 2 * st) (2 * st))
theorem mkTr_get {α : Type} (f : Nat → Option α) : ∀ (k lo st n : Nat) (x : α),(mkTr f k lo st).get n = some x → f (lo + n * st) = some x
  | 0,_,_,_,_,h => by cases h
  | k + 1,lo,st,n,x,h => by
    simp only [mkTr,Tr.get] at h
    by_cases e : n = 0
    · subst e; simpa using h
    · have e' : Nat.beq n 0 = false := by
        cases hq : Nat.beq n 0 with
        | false => rfl
        | true => exact absurd (Nat.eq_of_beq_eq_true hq) e
      rw [e'] at h
      simp only [cond_false] at h
      cases hq : Nat.beq (n % 2) 1 with
      | true =>
        rw [hq] at h
        simp only [cond_true] at h
        have hm := Nat.eq_of_beq_eq_true hq
        have := mkTr_get f k _ _ _ _ h
        rw [← this]
        congr 1
        have h2 : n = 2 * (n / 2) + 1 := by omega
        generalize n / 2 = m at h2
        subst h2
        rw [Nat.add_mul,Nat.mul_comm 2 m,Nat.mul_assoc]
        omega
      | false =>
        rw [hq] at h
        simp only [cond_false] at h
        have hm : n % 2 ≠ 1 := fun q => by rw [q] at hq; cases hq
        have := mkTr_get f k _ _ _ _ h
        rw [← this]
        congr 1
        have h2 : n = 2 * (n / 2 - 1) + 2 := by omega
        generalize n / 2 - 1 = m at h2
        subst h2
        rw [Nat.add_mul,Nat.mul_comm 2 m,Nat.mul_assoc]
        omega
def kindOf (P : Program) : TypeDesc → Option TyK
  | .int k => some (.int k)
  | .string => some .str
  | .bool => some .bool
  | .struct fs => if fs.toList.all (fun f => (P.info? f.type).isSome) then some (.strct (fs.toList.map fun f => (f.offset,f.type))) else none
  | .array n e => some (.arr n e)
  | .slice e => some (.slice e)
  | .map k e => some (.map k e)
  | .pointer _ => some .ptr
  | .interface _ => some .iface
  | u => if u.isRow then none else some .other
def flatF (P : Program) : List Field → Nat → Option (List TyK)
  | [],_ => some []
  | f :: fs, i => if f.offset = i ∧ (f.name == "_") = false then
      match P.underlying f.type,flatF P fs (i + 1) with
      | some (.int k),some ks => some (.int k :: ks)
      | some .string,some ks => some (.str :: ks)
      | some .bool,some ks => some (.bool :: ks)
      | _,_ => none
    else none
def flatOf (P : Program) (t : TypeId) : TypeDesc → Option (List TyK)
  | .struct fs => if P.stoodInHeld t = false ∧ P.eqGuardType P.depth t = false then flatF P fs.toList 0 else none
  | _ => none
def isAggV : Value → Bool
  | .agg _ => true
  | _ => false
def tabOf (P : Program) (t : TypeId) : Option TyD :=
  match P.info? t,P.underlying t with
  | some i,some u => match i.zero,kindOf P u with
    | some z,some k => if z.cells.toList.all scalarB && (z.cells.toList.length == i.size) && (isAggV z == TyD.isAgg ⟨k,0,0,[],none⟩) then
        some ⟨k,i.size,i.bytes,z.cells.toList,flatOf P t u⟩ else none
    | _,_ => none
  | _,_ => none
theorem kindOf_ok {P : Program} {t : TypeId} {u : TypeDesc} {k : TyK} (hu : P.underlying t = some u) (h : kindOf P u = some k) : KOK P t k := by
  cases u <;> simp only [kindOf] at h
  case struct fs =>
    split at h
    · rename_i hall
      cases h
      exact ⟨fs,hu,rfl,fun f hf => (List.all_eq_true.1 hall) f hf⟩
    · cases h
  all_goals first
    | (cases h; exact hu)
    | (cases h; exact ⟨_,hu⟩)
    | (split at h
       · cases h
       · rename_i hr
         cases h
         exact ⟨_,hu,by first | (simp; done) | (simpa using hr)⟩)
def fitU : TypeDesc → TyK → Bool
  | .int a,.int b => decide (a = b)
  | .string,.str => true
  | .bool,.bool => true
  | _,_ => false
theorem run_isAgg_of {P : Program} {t : TypeId} {u : TypeDesc} {k : TyK} (hu : P.underlying t = some u) (h : fitU u k = true) (w : World) : (isAgg t).run P w = .ok false w := by
  unfold isAgg
  cases u <;> simp_all [run_under hu,fitU]
theorem run_equal_cell {P : Program} {t : TypeId} {u : TypeDesc} {k : TyK} (hu : P.underlying t = some u) (hk : fitU u k = true) {x y : Value} {b : Bool} (hf : fitK k x = true) (hs : sameKey x y = some b) (d : Nat) (w : World) :
    (Op.equalIn (d + 1) t x y).run P w = .ok b w := by
  cases k <;> cases u <;> simp only [fitU,Bool.false_eq_true] at hk
  case int.int =>
    cases x <;> simp only [fitK,Bool.false_eq_true] at hf
    cases y <;> simp only [sameKey,reduceCtorEq] at hs
    split at hs
    · rename_i e
      subst e
      cases hs
      simp only [Op.equalIn,Sem.run_bind,run_under hu,Result.andThen_ok]
      simp
    · cases hs
  case str.string =>
    cases x <;> simp only [fitK,Bool.false_eq_true] at hf
    cases y <;> simp only [sameKey,reduceCtorEq] at hs
    cases hs
    simp only [Op.equalIn,Sem.run_bind,run_under hu,Result.andThen_ok]
    simp
  case bool.bool =>
    cases x <;> simp only [fitK,Bool.false_eq_true] at hf
    cases y <;> simp only [sameKey,reduceCtorEq] at hs
    cases hs
    simp only [Op.equalIn,Sem.run_bind,run_under hu,Result.andThen_ok]
    simp
theorem flat_loop {P : Program} {xs ys : Array Value} (d : Nat) : ∀ (fs : List Field) (i : Nat) (ks : List TyK) (as bs : List Value) (b : Bool),flatF P fs i = some ks → eqVals ks as bs = some b → (∀ j,xs[i + j]? = as[j]?) → (∀ j,ys[i + j]? = bs[j]?) → ∀ w : World,
    (forIn fs ((none, ()) : Option Bool × Unit) fun f __s => (if f.name ≠ "_" then do
              let __do_lift ← part f.type xs f.offset
              let __do_lift_1 ← part f.type ys f.offset
              let __do_lift ← Op.equalIn (d + 1) f.type __do_lift __do_lift_1
              if (!__do_lift) = true then pure (ForInStep.done (some false,())) else pure (ForInStep.yield (none,()))
            else pure (ForInStep.yield (none,())) : Sem (ForInStep (Option Bool × Unit)))).run P w = .ok (if b then none else some false,()) w
  | [],i,ks,as,bs,b,h1,h2,_,_,w => by
    cases h1
    cases as <;> cases bs <;> simp only [eqVals,reduceCtorEq] at h2
    cases h2
    simp
  | f :: fs,i,ks,as,bs,b,h1,h2,hx,hy,w => by
    simp only [flatF] at h1
    split at h1
    rotate_left
    · cases h1
    rename_i hc
    obtain ⟨ho,hn⟩ := hc
    have hn' : f.name ≠ "_" := fun e => by rw [e] at hn; simp at hn
    have key : ∀ (u : TypeDesc) (k : TyK) (ks' : List TyK),P.underlying f.type = some u → flatF P fs (i + 1) = some ks' → fitU u k = true →
        eqVals (k :: ks') as bs = some b →
        (forIn (f :: fs) ((none, ()) : Option Bool × Unit) fun f __s => (if f.name ≠ "_" then do
              let __do_lift ← part f.type xs f.offset
              let __do_lift_1 ← part f.type ys f.offset
              let __do_lift ← Op.equalIn (d + 1) f.type __do_lift __do_lift_1
              if (!__do_lift) = true then pure (ForInStep.done (some false,())) else pure (ForInStep.yield (none,()))
            else pure (ForInStep.yield (none,())) : Sem (ForInStep (Option Bool × Unit)))).run P w = .ok (if b then none else some false,()) w := by
      intro u k ks' hu hfl hk he
      cases as with
      | nil => simp only [eqVals,reduceCtorEq] at he
      | cons a as =>
      cases bs with
      | nil => simp only [eqVals,reduceCtorEq] at he
      | cons c bs =>
      simp only [eqVals] at he
      split at he
      · rename_i hf
        split at he
        · rename_i x y hs hr
          cases he
          have hpx : (part f.type xs f.offset).run P w = .ok a w := by
            have := hx 0
            simp at this
            unfold part
            simp only [Sem.run_bind,run_isAgg_of hu hk,Result.andThen_ok,Bool.false_eq_true,if_false,ho]
            rw [this]
            simp
          have hpy : (part f.type ys f.offset).run P w = .ok c w := by
            have := hy 0
            simp at this
            unfold part
            simp only [Sem.run_bind,run_isAgg_of hu hk,Result.andThen_ok,Bool.false_eq_true,if_false,ho]
            rw [this]
            simp
          have ih := flat_loop d fs (i + 1) ks' as bs y hfl hr (fun j => by have := hx (j + 1); rw [show i + 1 + j = i + (j + 1) by omega]; simpa using this) (fun j => by have := hy (j + 1); rw [show i + 1 + j = i + (j + 1) by omega]; simpa using this) w
          rw [List.forIn_cons]
          simp only [if_pos hn',Sem.run_bind,hpx,hpy,Result.andThen_ok,run_equal_cell hu hk hf hs d w]
          cases x with
          | true =>
            simp only [Bool.not_true,Bool.false_eq_true,if_false,Sem.run_pure,Result.andThen_ok,Bool.true_and]
            exact ih
          | false => simp
        · cases he
      · cases he
    split at h1
    · rename_i k ks' hu hfl
      cases h1
      exact key _ _ _ hu hfl (by simp [fitU]) h2
    · rename_i ks' hu hfl
      cases h1
      exact key _ _ _ hu hfl rfl h2
    · rename_i ks' hu hfl
      cases h1
      exact key _ _ _ hu hfl rfl h2
    · cases h1
theorem flatOf_ok {P : Program} {t : TypeId} {u : TypeDesc} (hu : P.underlying t = some u) {ks : List TyK} (h : flatOf P t u = some ks) : FlatEq P t ks := by
  cases u <;> simp only [flatOf,reduceCtorEq] at h
  case struct fs =>
    split at h
    · rename_i hc
      refine ⟨hc.2,fun xs ys b he w => ?_⟩
      unfold Op.equal Op.maxDepth
      rw [show (10000 : Nat) = 9999 + 1 from rfl,Op.equalIn]
      simp only [Sem.run_bind,run_under hu,Result.andThen_ok,run_program,hc.1,Bool.false_eq_true,if_false,Sem.run_pure]
      have := flat_loop (P := P) (xs := xs.toArray) (ys := ys.toArray) 9998 fs.toList 0 ks xs ys b h he (fun j => by simp) (fun j => by simp) w
      rw [← Array.forIn_toList]
      simp only [show (9999 : Nat) = 9998 + 1 from rfl]
      rw [this]
      cases b <;> simp
    · cases h
theorem tabOf_ok (P : Program) : TabOK P (tabOf P) := by
  intro t d h
  unfold tabOf at h
  split at h
  · rename_i i u hi hu
    split at h
    · rename_i z k hz hk
      split at h
      · rename_i hc
        cases h
        simp only [Bool.and_eq_true,beq_iff_eq] at hc
        obtain ⟨⟨h1,h2⟩,h3⟩ := hc
        have hag : ∀ (a b c : Nat) (l : List Value) (f : Option (List TyK)),TyD.isAgg ⟨k,a,b,l,f⟩ = isAggV z := fun a b c l f => by
          rw [h3]; cases k <;> rfl
        refine ⟨⟨i,z,hi,rfl,rfl,hz,rfl,fun hh => ?_,fun hh => ?_⟩,kindOf_ok hu hk,h1,h2,fun ks hf => flatOf_ok hu hf⟩
        · rw [hag _ _ 0] at hh
          cases z <;> simp_all [isAggV,Value.cells]
        · rw [hag _ _ 0] at hh
          cases z <;> simp_all [isAggV,Value.cells]
      · cases h
    · cases h
  · cases h
def fnOf (P : Program) (f : FuncId) : Option FnD :=
  match P.funcs[f]? with
  | some fn => match fn.body with
    | some b => some ⟨fn.ntmps,fn.results.toList,b⟩
    | none => none
  | none => none
def tabT (P : Program) : Tab := (mkTr (tabOf P) 10 0 1).get
def fnT (P : Program) : FuncId → Option FnD := (mkTr (fnOf P) 10 0 1).get
theorem tabT_ok (P : Program) : TabOK P (tabT P) := fun t d h => tabOf_ok P t d (by simpa using mkTr_get _ _ _ _ _ _ h)
theorem fnT_ok {P : Program} (hn : P.funcs.toList.all (fun fn => !(fn.name == "runtime.NumGoroutine")) = true) {f : FuncId} {d : FnD} (h : fnT P f = some d) : FnOK P f d := by
  have h : fnOf P f = some d := by simpa using mkTr_get _ _ _ _ _ _ h
  unfold fnOf at h
  split at h
  · rename_i fn hf
    split at h
    · rename_i b hb
      cases h
      refine ⟨fn,hf,hb,rfl,rfl,?_⟩
      have := (List.all_eq_true.1 hn) fn (by simpa using Array.mem_of_getElem? hf)
      simpa using this
    · cases h
  · cases h
end Go.Abs
end
section
namespace Go.Abs
noncomputable section
inductive WV where
 | sc (x : Value)
 | agg (cs : List WV)
 | tup (vs : List WV)
 | lst (es : List (List WV))
 | row (n : Nat)
 | box (n fo : Nat)
 | elt (n i fo : Nat)
 | ipt (cs : List WV)
 | win (n lo len : Nat) (cp : Bool)
 | fn (f : FuncId) (first caps : List WV)
 | fnp (f : FuncId) (first caps : List WV)
 | mp (n : Nat)
 deriving Inhabited
inductive WO where
 | box (cs : List WV) (fz : Bool)
 | row (es : List (List WV)) (s : Nat) (fz : Bool) (rt : Nat)
 | set (ks : List Value) (v : Option Value)
 deriving Inhabited
abbrev WT := List (Nat × WV)
structure WH where
 objs : List (Nat × WO)
 nx : Nat
 deriving Inhabited
def lk {α : Type} (l : List (Nat × α)) (n : Nat) : Option α := List.rec none (fun p _ ih => match p with | (m,a) => bif Nat.beq m n then some a else ih) l
def rmv {α : Type} (l : List (Nat × α)) (n : Nat) : List (Nat × α) := List.rec [] (fun p _ ih => match p with | (m,a) => bif Nat.beq m n then ih else (m,a) :: ih) l
def forceN (n : Nat) (K : Nat → Prop) : Prop := Nat.rec (motive := fun _ => Prop) (K 0) (fun m _ => K m) (Nat.add n 1)
def undefW : WV := .sc (.tuple #[])
def ofConstW : Value → Option WV
 | .agg cs => bif cs.all scalarB then some (.agg (cs.toList.map .sc)) else none
 | v => bif scalarB v then some (.sc v) else none
def evW (T : WT) : Operand → Option WV
 | .tmp t => lk T t
 | .const v => ofConstW v
 | .func f => some (.fnp f [] [])
 | _ => none
def cellW : WV → WV
 | .sc (.slice none 0 0) => .lst []
 | v => v
def cellsW : WV → Option (List WV)
 | .agg cs => some cs
 | .tup _ => none
 | .win _ _ _ _ => none
 | .fn _ _ _ => none
 | .fnp _ _ _ => none
 | .mp _ => none
 | .sc (.tuple _) => none
 | .sc (.agg _) => none
 | v => some [cellW v]
def zeroW (d : TyD) : List WV := d.zero.map fun v => cellW (.sc v)
def zeroN (d : TyD) (k : Nat) : List WV := d.zero.zipIdx.map fun p => bif Nat.beq p.2 k then .sc p.1 else cellW (.sc p.1)
def takeW (n : Nat) (cs : List WV) : List WV := bif Nat.beq n cs.length then cs else cs.take n
def dropW (n : Nat) (cs : List WV) : List WV := match n with
 | 0 => cs
 | n + 1 => cs.drop (n + 1)
def ofCellsW (d : TyD) (cs : List WV) : Option WV :=
 bif Nat.beq cs.length d.size then (match d.isAgg with | true => some (.agg cs) | false => match cs with | [v] => some v | _ => none) else none
def spliceW (cs : List WV) (at_ : Nat) (new : List WV) : List WV := bif Nat.beq new.length cs.length && Nat.beq at_ 0 then new else cs.take at_ ++ (new ++ cs.drop (at_ + new.length))
def storableW : WV → Bool
 | .sc (.tuple _) | .agg _ | .tup _ | .win _ _ _ _ | .fn _ _ _ | .fnp _ _ _ | .mp _ => false
 | _ => true
def fillW (place : Nat → Option (Nat × Nat)) : List (Nat × WV) → List WV → Option (List WV)
 | [],cells => some cells
 | (i,v) :: rest,cells =>
  match place i,cellsW v with
  | some (off,size),some cs => bif Nat.beq cs.length size && Nat.ble (off + size) cells.length then fillW place rest (spliceW cells off cs) else none
  | _,_ => none
def setW (s : Nat) : List (Nat × WV) → List (List WV) → Option (List (List WV))
 | [],es => some es
 | (i,v) :: rest,es =>
  match cellsW v with
  | some cs => bif Nat.beq cs.length s && Nat.blt i es.length then setW s rest (es.set i cs) else none
  | none => none
structure WE where
 rd : List Nat
 wr : List Nat
abbrev WK := WV → WH → WE → Prop
def both (b : Bool) (X Y : Prop) : Prop := Bool.rec (motive := fun _ => Prop) Y X b
theorem bothT {X Y : Prop} (h : both true X Y) : X := h
theorem bothF {X Y : Prop} (h : both false X Y) : Y := h
theorem br {b : Bool} {X Y : Prop} (h1 : b = true → X) (h2 : b = false → Y) : Bool.rec (motive := fun _ => Prop) Y X b := by
 cases b
 ·exact h2 rfl
 ·exact h1 rfl
def leafB : WV → Bool
 | .sc (.tuple _) => false
 | .sc _ | .lst _ | .ipt _ => true
 | _ => false
def leafs (es : List (List WV)) : Prop := ∀ e ∈ es,e.all leafB = true
mutual
inductive PR : WV → AV → Prop
 | sc {x : Value} : PR (.sc x) (.sc x)
 | agg {cs : List WV} {xs : List AV} (h : PRs cs xs) : PR (.agg cs) (.agg xs)
 | tup {cs : List WV} {xs : List AV} (h : PRs cs xs) : PR (.tup cs) (.tup xs)
 | emp : PR (.lst []) (.sc (.slice none 0 0))
 | lst {es : List (List WV)} {xs : List (List AV)} {c : Bool} (h : PRss es xs) : PR (.lst es) (.isl xs c)
 | ipt {cs : List WV} {xs : List AV} (h : PRs cs xs) : PR (.ipt cs) (.ipt xs)
 | fnp {f : FuncId} {a b : List WV} {xs ys : List AV} (ha : PRs a xs) (hb : PRs b ys) (hl : a.all leafB = true) (hm : b.all leafB = true) : PR (.fnp f a b) (.fn (.func f) xs ys)
inductive PRs : List WV → List AV → Prop
 | nil : PRs [] []
 | cons {c : WV} {cs : List WV} {x : AV} {xs : List AV} (h : PR c x) (hs : PRs cs xs) : PRs (c :: cs) (x :: xs)
inductive PRss : List (List WV) → List (List AV) → Prop
 | nil : PRss [] []
 | cons {c : List WV} {cs : List (List WV)} {x : List AV} {xs : List (List AV)} (h : PRs c x) (hs : PRss cs xs) : PRss (c :: cs) (x :: xs)
end
def WValid (P : Program) (f : FuncId) (args : List WV) (G : WV → Prop) : Prop := ∀ xs,PRs args xs → ∃ r x,PR r x ∧ G r ∧ Valid P f xs (.ret x)
def WOwn (P : Program) (f : FuncId) (args : List WV) (s : Nat) (z : Bool) (G : List (List WV) → Prop) : Prop :=
 ∀ xs,PRs args xs → (∃ es ys fz,PRss es ys ∧ G es ∧ (∀ e ∈ es,e.length = s) ∧ fz ≤ ys.length ∧ (z = false → fz = 0) ∧ ValidOwn P f xs ys s fz) ∨ (G [] ∧ Valid P f xs (.ret (.sc (.slice none 0 0))))
def ShowsR (H : Heap) (x : AV) (es : List (List WV)) (s : Nat) : Prop :=
 (x = .sc (.slice none 0 0) ∧ es = []) ∨ ∃ b g cap zs,x = .sl b g 0 g cap ∧ look H.objs b = some (.cells zs s 0) ∧ zs.length = g ∧ PRss es zs ∧ (cap = none ∨ cap = some g)
def notRow (x : AV) (k : Nat) : Prop := ∀ b g o l c,x = .sl b g o l c → b ≠ k
def WUpd (P : Program) (f : FuncId) (post : List WV) (s : Nat) (es : List (List WV)) (G : List (List WV) → Prop) : Prop :=
 ∀ (H : Heap) (x : AV) (xs : List AV),(∀ m,H.next ≤ m → look H.objs m = none) → ShowsR H x es s → PRs post xs →
  ∃ es' y H',G es' ∧ (∀ e ∈ es',e.length = s) ∧ leafs es' ∧ Valid2 P f (x :: xs) H (.ret y) H' ∧ H.next ≤ H'.next ∧ (∀ m,H'.next ≤ m → look H'.objs m = none) ∧
   (∀ k,look H'.objs k ≠ none → look H.objs k ≠ none ∨ H.next ≤ k) ∧ (∀ k,k < H.next → notRow x k → look H'.objs k = look H.objs k ∧ notRow y k) ∧ ShowsR H' y es' s
def WSet (P : Program) (f : FuncId) (post : List WV) (s : Nat) (es : List (List WV)) (G : List (List WV) → Prop) : Prop :=
 ∀ (H : Heap) (x : AV) (xs : List AV),(∀ m,H.next ≤ m → look H.objs m = none) → ShowsR H x es s → PRs post xs →
  ∃ es' H',G es' ∧ (∀ e ∈ es',e.length = s) ∧ Valid2 P f (x :: xs) H (.ret (.sc (.tuple #[]))) H' ∧ H.next ≤ H'.next ∧ (∀ m,H'.next ≤ m → look H'.objs m = none) ∧
   (∀ k,look H'.objs k ≠ none → look H.objs k ≠ none ∨ H.next ≤ k) ∧ (∀ k,k < H.next → notRow x k → look H'.objs k = look H.objs k) ∧ ShowsR H' x es' s
def GL : Nat := 4294967295
section
variable (P : Program) (tab : Tab)
def plainK (v : WV) (H : WH) (K : WK) : Prop := K v H ⟨[],[]⟩
def newBox (H : WH) (cs : List WV) (K : WK) : Prop := match H with | ⟨objs,nx⟩ => forceN nx fun n => forceN (n + 1) fun m => K (.box n 0) ⟨(n,.box cs false) :: objs,m⟩ ⟨[],[n]⟩
def newRow (H : WH) (es : List (List WV)) (s : Nat) (fz : Bool) (rd : List Nat) (K : WK) : Prop := match H with | ⟨objs,nx⟩ => forceN nx fun n => forceN (n + 1) fun m => K (.row n) ⟨(n,.row es s fz n) :: objs,m⟩ ⟨rd,[n]⟩
def showW (H : WH) (s : Nat) : WV → Option (List (List WV) × List Nat)
 | .sc (.slice none 0 0) => some ([],[])
 | .lst es => some (es,[])
 | .row n => match lk H.objs n with
  | some (.row es s' _ rt) => bif Nat.beq s' s then some (es,[rt]) else none
  | _ => none
 | .win n lo len _ => match lk H.objs n with
  | some (.row es s' _ rt) => bif Nat.beq s' s then some ((es.drop lo).take len,[rt]) else none
  | _ => none
 | _ => none
def bytesW (x : ByteArray) : List (List WV) := x.data.toList.map fun b => [.sc (.int .u8 b.toNat)]
def roomP (bytes need : Nat) : Prop := (2 * need + 192) * bytes ≤ 2 ^ 48 ∧ need ≤ 2 ^ 60
def cellP (s : Nat) (ys : List (List WV)) : Prop := ∀ y ∈ ys,y.length = s ∧ y.all storableW = true
def newName (H : WH) (m : Nat) (o : WO) (e : WE) (K : WK) : Prop := match H with | ⟨objs,nx⟩ => forceN nx fun n => forceN (n + 1) fun m' => K (.row n) ⟨(n,o) :: rmv objs m,m'⟩ e
def appendW (H : WH) (de : TyD) (s : WV) (ys : List (List WV)) (rd : List Nat) (K : WK) : Prop :=
 match s with
 | .sc (.slice none 0 0) => roomP de.bytes ys.length ∧ cellP de.size ys ∧ newRow H ys de.size false rd K
 | .row m => match lk H.objs m with
  | some (.row es sz fz rt) => bif Nat.beq sz de.size then roomP de.bytes (es.length + ys.length) ∧ cellP de.size ys ∧ ∃ zs,es ++ ys = zs ∧ newName H m (.row zs sz fz rt) ⟨rd,[rt]⟩ K else False
  | _ => False
 | .win m lo len true => match lk H.objs m with
  | some (.row es sz _ rt) => bif Nat.beq sz de.size then ys ≠ [] ∧ roomP de.bytes (len + ys.length) ∧ cellP de.size ys ∧ ∃ zs,(es.drop lo).take len ++ ys = zs ∧ newRow H zs de.size false (rt :: rd) K else False
  | _ => False
 | _ => False
def boundsW (len : Nat) (lo hi : Option WV) (K : Nat → Nat → Prop) : Prop :=
 match lo,hi with
 | none,none => K 0 len
 | some (.sc (.int _ l)),none => 0 ≤ l ∧ l ≤ len ∧ K l.toNat len
 | none,some (.sc (.int _ h)) => 0 ≤ h ∧ h ≤ len ∧ K 0 h.toNat
 | some (.sc (.int _ l)),some (.sc (.int _ h)) => 0 ≤ l ∧ l ≤ h ∧ h ≤ len ∧ K l.toNat h.toNat
 | _,_ => False
def optW (T : WT) : Option Operand → Option (Option WV)
 | none => some none
 | some x => (evW T x).map some
def isBool (d : TyD) : Bool := match d.k with | .bool => true | _ => false
def scBin (op : BinOp) (t : TypeId) (x y : WV) : Option WV :=
 match x,y with
 | .sc (.int k a),.sc (.int j b) => (pureVal (Go.binOp op t (.int k a) (.int j b))).map .sc
 | .sc (.bool a),.sc (.bool b) => match op,(tab t).map isBool with
  | .eql,some true => some (.sc (.bool (a == b)))
  | .neq,some true => some (.sc (.bool (!(a == b))))
  | _,_ => none
 | _,_ => none
def mapO {α β : Type} (f : α → Option β) : List α → Option (List β)
 | [] => some []
 | a :: r => match f a with | none => none | some b => match mapO f r with | none => none | some bs => some (b :: bs)
inductive DeepC (H : WH) : List WV → List WV → List Nat → Prop
 | nil : DeepC H [] [] []
 | leaf {v : WV} {cs ds : List WV} {ns : List Nat} (h : leafB v = true) (hs : DeepC H cs ds ns) : DeepC H (v :: cs) (v :: ds) ns
 | row {m s rt : Nat} {fz : Bool} {es : List (List WV)} {cs ds : List WV} {ns : List Nat} (h : lk H.objs m = some (.row es s fz rt)) (hl : leafs es) (hs : DeepC H cs ds ns) : DeepC H (.row m :: cs) (.lst es :: ds) (m :: ns)
inductive Deep (H : WH) : List (List WV) → List (List WV) → List Nat → Prop
 | nil : Deep H [] [] []
 | leaf {e : List WV} {r r' : List (List WV)} {ns : List Nat} (h : e.all leafB = true) (hs : Deep H r r' ns) : Deep H (e :: r) (e :: r') ns
 | deep {c d : List WV} {r r' : List (List WV)} {ns ms : List Nat} (h : DeepC H c d ns) (hs : Deep H r r' ms) : Deep H (c :: r) (d :: r') (ns ++ ms)
theorem deep0 {H : WH} {es : List (List WV)} (h : leafs es) : Deep H es es [] := by
 induction es with
 | nil => exact .nil
 | cons e r ih => exact .leaf (h e (by simp)) (ih fun x hx => h x (by simp [hx]))
theorem deep_snoc {H : WH} {es : List (List WV)} {c d : List WV} {ns : List Nat} (h : leafs es) (hc : DeepC H c d ns) : Deep H (es ++ [c]) (es ++ [d]) ns := by
 induction es with
 | nil => simpa using Deep.deep hc .nil
 | cons e r ih => exact .leaf (h e (by simp)) (ih fun x hx => h x (by simp [hx]))
def viewC (H : WH) (v : WV) (K : WV → List Nat → Prop) : Prop := match v with
 | .sc (.slice none 0 0) => K (.lst []) []
 | .sc x => K (.sc x) []
 | .lst es => K (.lst es) []
 | .ipt cs => K (.ipt cs) []
 | .row n => match lk H.objs n with
  | some (.row es _ _ _) => ∃ zs ns,Deep H es zs ns ∧ K (.lst zs) (n :: ns)
  | _ => False
 | .win n lo len _ => match lk H.objs n with
  | some (.row es _ _ _) => leafs es ∧ ∃ zs,(es.drop lo).take len = zs ∧ K (.lst zs) [n]
  | _ => False
 | .box n 0 => match lk H.objs n with
  | some (.box cs _) => bif cs.all leafB then K (.ipt cs) [n] else False
  | _ => False
 | _ => False
def viewCs (H : WH) : List WV → (List WV → List Nat → Prop) → Prop
 | [],K => K [] []
 | c :: cs,K => viewC H c fun d ns => viewCs H cs fun ds ms => K (d :: ds) (ns ++ ms)
def viewV (H : WH) (v : WV) (K : WV → List Nat → Prop) : Prop := match v with
 | .agg cs => bif cs.all leafB then K (.agg cs) [] else viewCs H cs fun ds ns => K (.agg ds) ns
 | .fnp f a b => K (.fnp f a b) []
 | .fn f a b => viewCs H a fun as ns => viewCs H b fun bs ms => bif as.all leafB && bs.all leafB then K (.fnp f as bs) (ns ++ ms) else False
 | v => viewC H v K
def viewVs (H : WH) : List WV → (List WV → List Nat → Prop) → Prop
 | [],K => K [] []
 | c :: cs,K => viewV H c fun d ns => viewVs H cs fun ds ms => K (d :: ds) (ns ++ ms)
def freezeO (ns : List Nat) (n : Nat) (o : WO) : WO := match o with
 | .row es s fz rt => bif ns.contains n then .row es s true rt else .row es s fz rt
 | .box cs fz => bif ns.contains n then .box cs true else .box cs fz
 | .set ks v => .set ks v
def freezeW (objs : List (Nat × WO)) (ns : List Nat) : List (Nat × WO) := List.rec [] (fun p _ ih => match p with | (n,o) => (n,freezeO ns n o) :: ih) objs
def rootW (n : Nat) (o : Option WO) : List Nat := match o with
 | some (.set _ _) => [n]
 | some (.row _ _ _ rt) => [rt]
 | some (.box _ _) => [n]
 | _ => []
def rootsW (objs : List (Nat × WO)) : List Nat → List Nat
 | [] => []
 | n :: ns => rootW n (lk objs n) ++ rootsW objs ns
def freezeH (H : WH) (ns : List Nat) : WH := match ns with
 | [] => H
 | ns => ⟨freezeW H.objs ns,H.nx⟩
def mvW (T : WT) (H : WH) (K : WK) (x : Operand) : Prop := match evW T x with | some v => plainK v H K | none => False
def pickW (T : WT) (H : WH) (K : WK) (c a b : Operand) : Prop := match evW T c with
 | some (.sc (.bool q)) => both q (mvW T H K a) (mvW T H K b)
 | _ => False
def allocW (H : WH) (K : WK) (t : TypeId) : Prop := match tab t with
 | some d => match d.k with
  | .arr _ _ => False
  | .slice _ => newBox H (zeroN d 0) K
  | _ => newBox H (zeroW d) K
 | none => False
def boxW (T : WT) (H : WH) (K : WK) (t : TypeId) (x : Operand) : Prop := match tab t,(evW T x).bind cellsW with
 | some d,some cs => match d.k with
  | .arr _ _ => False
  | _ => bif Nat.beq cs.length d.size then newBox H cs K else False
 | _,_ => False
def partsW (T : WT) (parts : Array (Nat × Operand)) : Option (List (Nat × WV)) := mapO (fun p : Nat × Operand => (evW T p.2).map fun v => (p.1,v)) parts.toList
def placeW (fs : List (Nat × TypeId)) (i : Nat) : Option (Nat × Nat) := (fs[i]?).bind fun f => (tab f.2).map fun df => (f.1,df.size)
def rawB (t : TypeId) : List (Nat × WV) → Bool
 | [(5,_)] => Nat.beq t 61
 | _ => false
def buildW (T : WT) (H : WH) (K : WK) (t : TypeId) (parts : Array (Nat × Operand)) : Prop := match tab t,partsW T parts with
 | some d,some ps => match d.k with
  | .strct fs => match fillW (placeW tab fs) ps (bif rawB t ps then zeroN d 6 else zeroW d) with
   | some cs => plainK (.agg cs) H K
   | none => False
  | _ => False
 | _,_ => False
def elemD (d : TyD) : Option TyD := match d.k with
 | .slice e => tab e
 | _ => none
def rowsW (T : WT) (H : WH) (K : WK) (t : TypeId) (len : Nat) (parts : Array (Nat × Operand)) : Prop := match (tab t).bind (elemD tab),partsW T parts with
 | some de,some ps => match setW de.size ps (List.replicate len (zeroW de)) with
  | some es => bif Nat.beq de.zero.length de.size && !(Nat.beq de.size 0) && Nat.ble (len * de.size) 1048576 then newRow H es de.size false [] K else False
  | none => False
 | _,_ => False
def giveW (H : WH) (K : WK) (e : WE) (v : Option WV) : Prop := match v with | some v => K v H e | none => False
def loadBox (H : WH) (K : WK) (d : TyD) (n fo : Nat) : Prop := match lk H.objs n with
 | some (.box cs _) => bif Nat.ble (fo + d.size) cs.length then giveW H K ⟨[n],[]⟩ (ofCellsW d (takeW d.size (dropW fo cs))) else False
 | _ => False
def loadElt (H : WH) (K : WK) (d : TyD) (n i fo : Nat) : Prop := match lk H.objs n with
 | some (.row es s _ rt) => ∃ cs,es[i]? = some cs ∧ (bif Nat.ble (fo + d.size) s then giveW H K ⟨[rt],[]⟩ (ofCellsW d (takeW d.size (dropW fo cs))) else False)
 | _ => False
def loadW (T : WT) (H : WH) (K : WK) (t : TypeId) (a : Operand) : Prop := match tab t,evW T a with
 | some d,some (.ipt cs) => giveW H K ⟨[],[]⟩ (ofCellsW d (takeW d.size cs))
 | some d,some (.box n fo) => loadBox H K d n fo
 | some d,some (.elt n i fo) => loadElt H K d n i fo
 | _,_ => False
def storeBox (H : WH) (K : WK) (d : TyD) (n fo : Nat) (new : List WV) : Prop := match lk H.objs n with
 | some (.box cs false) => bif Nat.beq new.length d.size && Nat.ble (fo + d.size) cs.length && new.all storableW then K undefW ⟨(n,.box (spliceW cs fo new) false) :: H.objs,H.nx⟩ ⟨[],[n]⟩ else False
 | _ => False
def storeElt (H : WH) (K : WK) (d : TyD) (n i fo : Nat) (new : List WV) : Prop := match lk H.objs n with
 | some (.row es s false rt) => ∃ cs,es[i]? = some cs ∧ (bif Nat.beq new.length d.size && Nat.ble (fo + d.size) s && new.all storableW then ∃ zs,es.set i (spliceW cs fo new) = zs ∧ K undefW ⟨(n,.row zs s false rt) :: H.objs,H.nx⟩ ⟨[],[rt]⟩ else False)
 | _ => False
def storeW (T : WT) (H : WH) (K : WK) (t : TypeId) (a x : Operand) : Prop := match tab t,evW T a,(evW T x).bind cellsW with
 | some d,some (.box n fo),some new => storeBox H K d n fo new
 | some d,some (.elt n i fo),some new => storeElt H K d n i fo new
 | _,_,_ => False
def aliveB (H : WH) (n : Nat) : Bool := match lk H.objs n with | some _ => true | none => false
def nilW' (T : WT) (H : WH) (K : WK) (x : Operand) : Prop := match evW T x with
 | some (.ipt cs) => plainK (.ipt cs) H K
 | some (.box n fo) => bif aliveB H n then plainK (.box n fo) H K else False
 | some (.elt n i fo) => bif aliveB H n then plainK (.elt n i fo) H K else False
 | _ => False
def catW (H : WH) (K : WK) (op : BinOp) (t : TypeId) (a b : WV) : Prop := match a,b with
 | .sc (.string a),.sc (.string b) => match op with
  | .add => a.size + b.size ≤ 2 ^ 60 ∧ plainK (.sc (.string (a ++ b))) H K
  | op => giveW H K ⟨[],[]⟩ ((pureVal (Op.stringOp op a b)).map .sc)
 | a,b => giveW H K ⟨[],[]⟩ (scBin tab op t a b)
def isSlK (d : TyD) : Bool := match d.k with | .slice _ => true | _ => false
def nilB (H : WH) (K : WK) (op : BinOp) (t : TypeId) (es : List (List WV)) : Prop := match op,(tab t).map isSlK with
 | .eql,some true => ∀ b : Bool,(b = true → es = []) → plainK (.sc (.bool b)) H K
 | _,_ => False
def binW (T : WT) (H : WH) (K : WK) (op : BinOp) (t : TypeId) (x y : Operand) : Prop := match evW T x,evW T y with
 | some (.lst es),some (.sc (.slice none 0 0)) => nilB tab H K op t es
 | some a,some b => catW tab H K op t a b
 | _,_ => False
def unW (T : WT) (H : WH) (K : WK) (op : UnOp) (x : Operand) : Prop := match evW T x with
 | some (.sc v) => (match v with
  | .int _ _ | .bool _ => giveW H K ⟨[],[]⟩ ((pureVal (Op.unary op v)).map .sc)
  | _ => False)
 | _ => False
def convV (s d : TyK) (v : Value) : Option WV := match s,d,v with
 | .int _,.int k,.int _ n => some (.sc (.int k (k.wrap n)))
 | .str,.str,.string s => some (.sc (.string s))
 | _,_,_ => none
def outW : List (List WV) → Option (List UInt8)
 | [] => some []
 | [.sc (.int .u8 n)] :: r => (match outW r with | some l => some (UInt8.ofNat n.toNat :: l) | none => none)
 | _ => none
def isU8 (e : TypeId) : Bool := match tab e with
 | some de => (match de.k with | .int .u8 => true | _ => false)
 | none => false
def convX (H : WH) (K : WK) (ds dd : TyD) (v : WV) : Prop := match ds.k,dd.k,v with
 | .str,.slice e,.sc (.string s) => (bif isU8 tab e then ∃ l,bytesW s = l ∧ plainK (.lst l) H K else False)
 | .slice e,.str,v => (bif isU8 tab e then (match showW H 1 v with
  | some (es,rd) => ∃ bs : List UInt8,outW es = some bs ∧ K (.sc (.string ⟨bs.toArray⟩)) H ⟨rd,[]⟩
  | none => False) else False)
 | a,b,.sc v => giveW H K ⟨[],[]⟩ (convV a b v)
 | _,_,_ => False
def convW (T : WT) (H : WH) (K : WK) (s d : TypeId) (x : Operand) : Prop := match tab s,tab d,evW T x with
 | some ds,some dd,some v => convX tab H K ds dd v
 | _,_,_ => False
def fieldOf (t : TypeId) (f : Nat) : Option (Nat × TyD) := match tab t with
 | some d => (match d.k with
  | .strct fs => (match fs[f]? with
   | some (off,t') => (tab t').map fun dt => (off,dt)
   | none => none)
  | _ => none)
 | none => none
def faddr (H : WH) (K : WK) (off : Nat) (size : Nat) (a : WV) : Prop := match a with
 | .ipt cs => bif Nat.ble (off + size) cs.length then plainK (.ipt (dropW off cs)) H K else False
 | .box n fo => bif aliveB H n then forceN (fo + off) fun g => plainK (.box n g) H K else False
 | .elt n i fo => bif aliveB H n then forceN (fo + off) fun g => plainK (.elt n i g) H K else False
 | _ => False
def fieldAddrW (T : WT) (H : WH) (K : WK) (t : TypeId) (x : Operand) (f : Nat) : Prop := match fieldOf tab t f,evW T x with
 | some (off,dt),some a => bif Nat.beq dt.size 0 then False else faddr H K off dt.size a
 | _,_ => False
def fieldW (T : WT) (H : WH) (K : WK) (t : TypeId) (x : Operand) (f : Nat) : Prop := match fieldOf tab t f,evW T x with
 | some (off,dt),some (.agg cs) => bif Nat.ble (off + dt.size) cs.length then giveW H K ⟨[],[]⟩ (ofCellsW dt (takeW dt.size (dropW off cs))) else False
 | _,_ => False
def idxRow (H : WH) (K : WK) (de : TyD) (n : Nat) (iv : Int) : Prop := match lk H.objs n with
 | some (.row es s _ rt) => bif Nat.beq s de.size then 0 ≤ iv ∧ iv.toNat < es.length ∧ K (.elt n iv.toNat 0) H ⟨[rt],[]⟩ else False
 | _ => False
def indexAddrW (T : WT) (H : WH) (K : WK) (t : TypeId) (x i : Operand) : Prop := match (tab t).bind (elemD tab),evW T x,evW T i with
 | some de,some (.lst es),some (.sc (.int _ iv)) => 0 ≤ iv ∧ ∃ cs,es[iv.toNat]? = some cs ∧ cs.length = de.size ∧ plainK (.ipt cs) H K
 | some de,some (.row n),some (.sc (.int _ iv)) => idxRow H K de n iv
 | _,_,_ => False
def isStr (d : TyD) : Bool := match d.k with | .str => true | _ => false
def indexW (T : WT) (H : WH) (K : WK) (t : TypeId) (x i : Operand) : Prop := match tab t,evW T x,evW T i with
 | some d,some (.sc (.string s)),some (.sc (.int _ iv)) => bif isStr d then 0 ≤ iv ∧ ∃ b,s[iv.toNat]? = some b ∧ plainK (.sc (.int .u8 b.toNat)) H K else False
 | _,_,_ => False
def sliceV (H : WH) (K : WK) (d : TyD) (v : WV) (l h : Option WV) : Prop := match d.k,v with
 | .str,.sc (.string s) => boundsW s.size l h fun l h => plainK (.sc (.string (s.extract l h))) H K
 | .slice e,.lst es => (match tab e with
  | some de => (∀ x ∈ es,x.length = de.size) ∧ boundsW es.length l h fun l h => ∃ zs,(es.drop l).take (h - l) = zs ∧ plainK (.lst zs) H K
  | none => False)
 | .slice e,.row n => (match tab e,lk H.objs n with
  | some de,some (.row es s _ rt) => (bif Nat.beq s de.size then boundsW es.length l h fun a b => ∃ len,b - a = len ∧ K (.win n a len false) H ⟨[rt],[]⟩ else False)
  | _,_ => False)
 | _,_ => False
def sliceM (H : WH) (K : WK) (d : TyD) (v : WV) (l : Option WV) (hv mv : WV) : Prop := match d.k,v,l,hv,mv with
 | .slice e,.lst es,some (.sc (.int _ lv)),.sc (.int _ h),.sc (.int _ m) => (match tab e with
  | some de => (∀ x ∈ es,x.length = de.size) ∧ 0 ≤ lv ∧ lv ≤ h ∧ h ≤ es.length ∧ m = h ∧ ∃ zs,(es.drop lv.toNat).take (h.toNat - lv.toNat) = zs ∧ plainK (.lst zs) H K
  | none => False)
 | .slice e,.row n,none,.sc (.int _ h),.sc (.int _ m) => (match tab e,lk H.objs n with
  | some de,some (.row es s _ rt) => (bif Nat.beq s de.size then 0 ≤ h ∧ h ≤ es.length ∧ m = h ∧ K (.win n 0 h.toNat true) H ⟨[rt],[]⟩ else False)
  | _,_ => False)
 | _,_,_,_,_ => False
def sliceW (T : WT) (H : WH) (K : WK) (t : TypeId) (x : Operand) (lo hi mx : Option Operand) : Prop := match tab t,evW T x,optW T lo,optW T hi,mx with
 | some d,some v,some l,some h,none => sliceV tab H K d v l h
 | some d,some v,some l,some (some h),some m => (match evW T m with
  | some mv => sliceM tab H K d v l h mv
  | none => False)
 | _,_,_,_,_ => False
def makeSliceW (T : WT) (H : WH) (K : WK) (t : TypeId) (l c : Operand) : Prop := match (tab t).bind (elemD tab),evW T l,evW T c with
 | some de,some (.sc (.int _ lv)),some (.sc (.int _ cv)) => 0 ≤ lv ∧ lv ≤ cv ∧ cv ≤ 2 ^ 40 ∧ de.bytes * cv ≤ 2 ^ 47 ∧ ∃ zs,List.replicate lv.toNat (zeroW de) = zs ∧ (bif Nat.beq de.zero.length de.size then newRow H zs de.size false [] K else False)
 | _,_,_ => False
def isMap (d : TyD) : Bool := match d.k with | .map _ _ => true | _ => false
def hasK (kv : Value) (ks : List Value) : Option Bool := (findK kv ks 0).map Option.isSome
def insK (kv : Value) (ks : List Value) : Option (List Value) := (hasK kv ks).map fun b => bif b then ks else ks ++ [kv]
def newSet (H : WH) (K : WK) : Prop := match H with | ⟨objs,nx⟩ => forceN nx fun n => forceN (n + 1) fun m => K (.mp n) ⟨(n,.set [] none) :: objs,m⟩ ⟨[],[n]⟩
def makeMapW (T : WT) (H : WH) (K : WK) (t : TypeId) (r : Option Operand) : Prop := match tab t,r with
 | some d,none => bif isMap d then newSet H K else False
 | some d,some x => (match evW T x with
  | some (.sc (.int _ _)) => bif isMap d then newSet H K else False
  | _ => False)
 | _,_ => False
def mapD (d : TyD) (k : Value) : Option Value := match d.k with
 | .map kt et => (match tab kt,tab et with
  | some dk,some de => (match keyOf dk.k (.sc k),de.isAgg,de.zero with
   | some k',false,[z] => (bif Nat.beq de.size 1 then some z else none)
   | _,_,_ => none)
  | _,_ => none)
 | _ => none
def lookupW (T : WT) (H : WH) (K : WK) (t : TypeId) (x k : Operand) (ok : Bool) : Prop := match tab t,evW T x,evW T k,ok with
 | some d,some (.mp n),some (.sc kv),false => (match mapD tab d kv,lk H.objs n with
  | some z,some (.set ks v) => ∃ b,hasK kv ks = some b ∧ both b (match v with | some v0 => K (.sc v0) H ⟨[n],[]⟩ | none => False) (K (.sc z) H ⟨[n],[]⟩)
  | _,_ => False)
 | _,_,_,_ => False
def updMapW (T : WT) (H : WH) (K : WK) (t : TypeId) (m k x : Operand) : Prop := match tab t,evW T m,evW T k,evW T x with
 | some d,some (.mp n),some (.sc kv),some (.sc xv) => (match mapD tab d kv,lk H.objs n with
  | some _,some (.set ks v) => (v = none ∨ v = some xv) ∧ ∃ ks',insK kv ks = some ks' ∧ K undefW ⟨(n,.set ks' (some xv)) :: H.objs,H.nx⟩ ⟨[],[n]⟩
  | _,_ => False)
 | _,_,_,_ => False
def extractW (T : WT) (H : WH) (K : WK) (t : Operand) (i : Nat) : Prop := match evW T t with
 | some (.tup vs) => giveW H K ⟨[],[]⟩ vs[i]?
 | _ => False
def lenRow (H : WH) (K : WK) (n : Nat) : Prop := match lk H.objs n with
 | some (.row es _ _ rt) => ∃ n : Nat,es.length = n ∧ K (.sc (.int .i64 n)) H ⟨[rt],[]⟩
 | _ => False
def isSl (d : TyD) : Bool := match d.k with | .slice _ => true | _ => false
def lenV (H : WH) (K : WK) (sl st : Bool) (x : WV) : Prop := match x with
 | .lst es => bif sl then ∃ n : Nat,es.length = n ∧ plainK (.sc (.int .i64 n)) H K else False
 | .sc (.string s) => bif st then plainK (.sc (.int .i64 s.size)) H K else False
 | .sc (.slice none 0 0) => bif sl then plainK (.sc (.int .i64 0)) H K else False
 | .row n => bif sl then lenRow H K n else False
 | _ => False
def lenW (T : WT) (H : WH) (K : WK) (t : TypeId) (x : Operand) : Prop := match evW T x,tab t with
 | some v,some d => lenV H K (isSl d) (isStr d) v
 | _,_ => False
def appX (H : WH) (K : WK) (de du : TyD) (sv xv : WV) : Prop := match du.k,xv with
 | .str,.sc (.string str) => bif Nat.beq de.size 1 then appendW H de sv (bytesW str) [] K else False
 | .slice _,xv => (match showW H de.size xv with
  | some (ys,rd) => appendW H de sv ys rd K
  | none => False)
 | _,_ => False
def appW (T : WT) (H : WH) (K : WK) (t u : TypeId) (s x : Operand) : Prop := match (tab t).bind (elemD tab),tab u,evW T s,evW T x with
 | some de,some du,some sv,some xv => appX H K de du sv xv
 | _,_,_,_ => False
def builtinW (T : WT) (H : WH) (K : WK) (b : Builtin) (ts : List TypeId) (xs : List Operand) : Prop := match b,ts,xs with
 | .len,[t],[x] => lenW tab T H K t x
 | .append,[t,u],[s,x] => appW tab T H K t u s x
 | _,_,_ => False
def thawW (r : WV) (H : WH) (ns : List Nat) : WH := match r with
 | .sc _ => H
 | _ => freezeH H ns
def callsW (H : WH) (K : WK) (f : FuncId) (vs : List WV) : Prop := viewVs H vs fun args ns =>
 (∃ G,WValid P f args G ∧ ∀ r,G r → K r (thawW r H ns) ⟨[],rootsW H.objs ns⟩) ∨
 (∃ s z G,WOwn P f args s z G ∧ ∀ es,G es → newRow (freezeH H ns) es s z [] fun v H' e => K v H' ⟨[],e.wr ++ rootsW H.objs ns⟩) ∨
 (∃ m post es s rt G,vs = .row m :: post ∧ lk H.objs m = some (.row es s false rt) ∧ leafs es ∧ post.all leafB = true ∧ WUpd P f post s es G ∧ ∀ es',G es' → newName H m (.row es' s false rt) ⟨[rt],[rt,GL]⟩ K) ∨
 (∃ m post es s rt G,vs = .row m :: post ∧ lk H.objs m = some (.row es s false rt) ∧ leafs es ∧ post.all leafB = true ∧ WSet P f post s es G ∧ ∀ es',G es' → K undefW ⟨(m,.row es' s false rt) :: H.objs,H.nx⟩ ⟨[rt],[rt,GL]⟩)
def argsW (T : WT) (H : WH) (K : WK) (f : FuncId) (xs : List Operand) : Prop := match mapO (evW T) xs with
 | some vs => callsW P H K f vs
 | none => False
def valW (T : WT) (H : WH) (K : WK) (g : Operand) (xs : List Operand) : Prop := match evW T g,mapO (evW T) xs with
 | some (.fn f a b),some vs => callsW P H K f (a ++ vs ++ b)
 | some (.fnp f a b),some vs => callsW P H K f (a ++ vs ++ b)
 | _,_ => False
def callW (T : WT) (H : WH) (K : WK) (c : Call) : Prop := match c.callee with
 | .builtin b => builtinW tab T H K b c.argTypes.toList c.args.toList
 | .value (.func f) => argsW P T H K f c.args.toList
 | .value (.tmp t) => valW P T H K (.tmp t) c.args.toList
 | _ => False
def makeW (T : WT) (H : WH) (K : WK) (f : Fn) (first caps : Array Operand) : Prop := match f,mapO (evW T) first.toList,mapO (evW T) caps.toList with
 | .func g,some a,some b => plainK (.fn g a b) H K
 | _,_,_ => False
def opW (T : WT) (H : WH) (o : Oper) (K : WK) : Prop :=
 match o.op with
 | .move x => mvW T H K x
 | .assign x => mvW T H K x
 | .pick c a b => pickW T H K c a b
 | .alloc t => allocW tab H K t
 | .box t x => boxW tab T H K t x
 | .build t parts => buildW tab T H K t parts
 | .buildSlice t len parts => rowsW tab T H K t len parts
 | .load t a => loadW tab T H K t a
 | .store t a x => storeW tab T H K t a x
 | .nilCheck x => nilW' T H K x
 | .binOp op t x y _ => binW tab T H K op t x y
 | .unOp op _ x => unW T H K op x
 | .convert s d x => convW tab T H K s d x
 | .fieldAddr t x f => fieldAddrW tab T H K t x f
 | .field t x f => fieldW tab T H K t x f
 | .indexAddr t x i => indexAddrW tab T H K t x i
 | .index t x i => indexW tab T H K t x i
 | .slice t x lo hi mx => sliceW tab T H K t x lo hi mx
 | .extract t i => extractW T H K t i
 | .call c => callW P tab T H K c
 | .makeFunc f first caps => makeW T H K f first caps
 | .makeSlice t l c => makeSliceW tab T H K t l c
 | .makeMap t r => makeMapW tab T H K t r
 | .lookup t x k ok => lookupW tab T H K t x k ok
 | .mapUpdate t m k x => updMapW tab T H K t m k x
 | _ => False
def wantW (ops : Array Oper) (T : WT) (o : Oper) (Y : WT → Prop) (N : WT → Prop) : Prop :=
 match o.guard with
 | none => Y T
 | some (j,want) => match (ops[j]?).bind (·.dst) with
  | none => N T
  | some d => match lk T d with
   | some (.sc (.bool b)) => both b (match want with | true => Y ((d,.sc (.bool true)) :: T) | false => N ((d,.sc (.bool true)) :: T)) (match want with | true => N ((d,.sc (.bool false)) :: T) | false => Y ((d,.sc (.bool false)) :: T))
   | some (.sc (.tuple _)) => N T
   | _ => False
def putW (d : Option Tmp) (T : WT) (v : WV) (K : WT → Prop) : Prop := match d with | some d => K ((d,v) :: T) | none => K T
def opsW (ops : Array Oper) (K : WT → WH → List WE → Prop) (l : List Oper) : WT → WH → List WE → Prop :=
 List.rec K (fun o _ ih T H rs => wantW ops T o (fun T => opW P tab T H o fun v H' e => putW o.dst T v fun T => ih T H' (e :: rs)) (fun T => putW o.dst T undefW fun T => ih T H (⟨[],[]⟩ :: rs))) l
inductive WX where
 | normal
 | exit (id : Nat)
 | ret
abbrev WQ := WX → WT → WH → Prop
def apartW (a b : WE) : Bool := !(a.wr.contains GL) && !(b.wr.contains GL) && a.wr.all (fun n => !(b.rd.contains n) && !(b.wr.contains n)) && b.wr.all (fun n => !(a.rd.contains n))
def drawW (ops : Array Oper) (l : List Oper) (recs : List WE) : Bool :=
 recs.length == l.length &&
 (List.range l.length).all (fun j => match l[j]? with
  | some o => o.after.toList.all (fun e => !Region.binds .any e || decide (e.on < j)) &&
   (List.range j).all (fun i => ((befs l []).getD j 0).testBit i || (match l[i]? with
    | some p => p.apart ops o && apartW (recs.getD i ⟨[],[]⟩) (recs.getD j ⟨[],[]⟩)
    | none => false))
  | none => false)
def regionW (ops : Array Oper) (draw : Bool) (T : WT) (H : WH) (Q : WQ) : Prop :=
 opsW P tab ops (fun T' H' rs => match draw with | true => drawW ops ops.toList rs.reverse = true ∧ Q .normal T' H' | false => Q .normal T' H') ops.toList T H []
end
end
end Go.Abs
end
section
namespace Go.Abs
inductive All2 {α β : Type} (r : α → β → Prop) : List α → List β → Prop
  | nil : All2 r [] []
  | cons {a : α} {b : β} {as : List α} {bs : List β} (h : r a b) (hs : All2 r as bs) : All2 r (a :: as) (b :: bs)
section
variable {α β : Type} {r q : α → β → Prop}
theorem All2.length : ∀ {as : List α} {bs : List β},All2 r as bs → as.length = bs.length
  | _,_,.nil => rfl
  | _,_,.cons _ h => by simp [h.length]
theorem All2.append : ∀ {as as' : List α} {bs bs' : List β},All2 r as bs → All2 r as' bs' → All2 r (as ++ as') (bs ++ bs')
  | _,_,_,_,.nil,h => h
  | _,_,_,_,.cons h hs,h' => .cons h (hs.append h')
theorem All2.take : ∀ (n : Nat) {as : List α} {bs : List β},All2 r as bs → All2 r (as.take n) (bs.take n)
  | 0,_,_,_ => by simpa using All2.nil
  | _ + 1,_,_,.nil => .nil
  | n + 1,_,_,.cons h hs => .cons h (hs.take n)
theorem All2.drop : ∀ (n : Nat) {as : List α} {bs : List β},All2 r as bs → All2 r (as.drop n) (bs.drop n)
  | 0,_,_,h => h
  | _ + 1,_,_,.nil => .nil
  | n + 1,_,_,.cons _ hs => by simpa using hs.drop n
theorem All2.get : ∀ {as : List α} {bs : List β},All2 r as bs → ∀ {i : Nat} {a : α},as[i]? = some a → ∃ b,bs[i]? = some b ∧ r a b
  | _,_,.nil,i,a,h => by simp at h
  | _,_,.cons h hs,0,a,e => by simp at e; subst e; exact ⟨_,rfl,h⟩
  | _,_,.cons h hs,i + 1,a,e => by simp at e; simpa using hs.get e
theorem All2.set : ∀ {as : List α} {bs : List β},All2 r as bs → ∀ (i : Nat) {a : α} {b : β},r a b → All2 r (as.set i a) (bs.set i b)
  | _,_,.nil,_,_,_,_ => .nil
  | _,_,.cons _ hs,0,_,_,h' => .cons h' hs
  | _,_,.cons h hs,i + 1,_,_,h' => .cons h (hs.set i h')
theorem All2.mono (hq : ∀ a b,r a b → q a b) : ∀ {as : List α} {bs : List β},All2 r as bs → All2 q as bs
  | _,_,.nil => .nil
  | _,_,.cons h hs => .cons (hq _ _ h) (hs.mono hq)
theorem All2.monoM : ∀ {as : List α} {bs : List β},(∀ a ∈ as,∀ b,r a b → q a b) → All2 r as bs → All2 q as bs
  | _,_,_,.nil => .nil
  | _,_,hq,.cons h hs => .cons (hq _ (by simp) _ h) (hs.monoM fun a ha => hq a (by simp [ha]))
theorem All2.replicate (n : Nat) {a : α} {b : β} (h : r a b) : All2 r (List.replicate n a) (List.replicate n b) := by
  induction n with
  | zero => exact .nil
  | succ n ih => exact .cons h ih
theorem All2.map {γ : Type} (f : γ → α) (g : γ → β) (h : ∀ c,r (f c) (g c)) : ∀ (l : List γ),All2 r (l.map f) (l.map g)
  | [] => .nil
  | c :: l => .cons (h c) (All2.map f g h l)
end
theorem prs_all2 : ∀ {cs : List WV} {xs : List AV},PRs cs xs ↔ All2 PR cs xs := fun {cs xs} =>
  ⟨fun h => by
    induction cs generalizing xs with
    | nil => cases h; exact .nil
    | cons c cs ih => cases h with | cons h hs => exact .cons h (ih hs),
   fun h => by
    induction h with
    | nil => exact .nil
    | cons h _ ih => exact .cons h ih⟩
theorem prss_all2 {cs : List (List WV)} {xs : List (List AV)} : PRss cs xs ↔ All2 PRs cs xs :=
  ⟨fun h => by
    induction cs generalizing xs with
    | nil => cases h; exact .nil
    | cons c cs ih => cases h with | cons h hs => exact .cons h (ih hs),
   fun h => by
    induction h with
    | nil => exact .nil
    | cons h _ ih => exact .cons h ih⟩
structure Rn where
  nx : Nat
  al : Nat → Prop
  ob : Nat → Nat
  av : Nat → AV
def refA : AV → Bool
  | .sl _ _ _ _ _ | .pt _ _ _ _ | .sc (.slice none 0 0) => true
  | _ => false
theorem refA_cells {x : AV} (h : refA x = true) : cellsOf x = some [x] ∧ x.storable = true := by
  unfold refA at h
  split at h <;> first | exact ⟨rfl,rfl⟩ | cases h
mutual
inductive WR (R : Rn) : WV → AV → Prop
  | pure {v : WV} {x : AV} (h : PR v x) : WR R v x
  | agg {cs : List WV} {xs : List AV} (h : WRs R cs xs) : WR R (.agg cs) (.agg xs)
  | tup {cs : List WV} {xs : List AV} (h : WRs R cs xs) : WR R (.tup cs) (.tup xs)
  | row {n : Nat} {x : AV} (hn : n < R.nx) (hr : refA x = true) (h : R.al n → x = R.av n) : WR R (.row n) x
  | box {n fo : Nat} {x : AV} (hn : n < R.nx) (hr : refA x = true) (h : R.al n → x = .pt (R.ob n) 1 0 fo) : WR R (.box n fo) x
  | elt {n i fo : Nat} {x : AV} (hn : n < R.nx) (hr : refA x = true) (h : R.al n → ∃ g cap,R.av n = .sl (R.ob n) g 0 g cap ∧ x = .pt (R.ob n) g i fo) : WR R (.elt n i fo) x
  | fn {f : FuncId} {a b : List WV} {xs ys : List AV} (ha : WRs R a xs) (hb : WRs R b ys) : WR R (.fn f a b) (.fn (.func f) xs ys)
  | mp {n : Nat} {x : AV} (hn : n < R.nx) (h : R.al n → x = .mp (R.ob n)) : WR R (.mp n) x
  | win {n lo len : Nat} {cp : Bool} {x : AV} (hn : n < R.nx) (h : R.al n → (len = 0 ∧ (x = .sc (.slice none 0 0) ∨ (cp = false ∧ x = .isl [] false))) ∨ ∃ g cap c' lo',R.av n = .sl (R.ob n) g 0 g cap ∧ x = .sl (R.ob n) g lo' len c' ∧ (len ≠ 0 → lo' = lo) ∧ lo' + len ≤ g ∧ (cp = true → c' = some len)) : WR R (.win n lo len cp) x
inductive WRs (R : Rn) : List WV → List AV → Prop
  | nil : WRs R [] []
  | cons {c : WV} {cs : List WV} {x : AV} {xs : List AV} (h : WR R c x) (hs : WRs R cs xs) : WRs R (c :: cs) (x :: xs)
end
abbrev WRss (R : Rn) : List (List WV) → List (List AV) → Prop := All2 (WRs R)
theorem wrs_all2 {R : Rn} {cs : List WV} {xs : List AV} : WRs R cs xs ↔ All2 (WR R) cs xs :=
  ⟨fun h => by
    induction cs generalizing xs with
    | nil => cases h; exact .nil
    | cons c cs ih => cases h with | cons h hs => exact .cons h (ih hs),
   fun h => by
    induction h with
    | nil => exact .nil
    | cons h _ ih => exact .cons h ih⟩
theorem PRs.wrs {R : Rn} {cs : List WV} {xs : List AV} (h : PRs cs xs) : WRs R cs xs := wrs_all2.2 ((prs_all2.1 h).mono fun _ _ => .pure)
theorem PRss.wrss {R : Rn} {cs : List (List WV)} {xs : List (List AV)} (h : PRss cs xs) : WRss R cs xs := (prss_all2.1 h).mono fun _ _ => PRs.wrs
structure Rn.Le (R R' : Rn) : Prop where
  nx : R.nx ≤ R'.nx
  keep : ∀ n,n < R.nx → R'.al n → R.al n ∧ R'.ob n = R.ob n ∧ R'.av n = R.av n
theorem Rn.Le.refl (R : Rn) : R.Le R := ⟨Nat.le_refl _,fun _ _ h => ⟨h,rfl,rfl⟩⟩
theorem Rn.Le.trans {R R' R'' : Rn} (h : R.Le R') (h' : R'.Le R'') : R.Le R'' := ⟨Nat.le_trans h.nx h'.nx,fun n hn ha => by
  obtain ⟨a1,a2,a3⟩ := h'.keep n (Nat.lt_of_lt_of_le hn h.nx) ha
  obtain ⟨b1,b2,b3⟩ := h.keep n hn a1
  exact ⟨b1,a2.trans b2,a3.trans b3⟩⟩
variable {R R' : Rn}
mutual
theorem WR.mono (l : R.Le R') {v : WV} {x : AV} : WR R v x → WR R' v x
  | .pure h => .pure h
  | .agg h => .agg (h.mono l)
  | .tup h => .tup (h.mono l)
  | .fn ha hb => .fn (ha.mono l) (hb.mono l)
  | .mp hn h => .mp (Nat.lt_of_lt_of_le hn l.nx) fun ha => by obtain ⟨a,b,c⟩ := l.keep _ hn ha; rw [b]; exact h a
  | .row hn hr h => .row (Nat.lt_of_lt_of_le hn l.nx) hr fun ha => by obtain ⟨a,_,c⟩ := l.keep _ hn ha; rw [c]; exact h a
  | .box hn hr h => .box (Nat.lt_of_lt_of_le hn l.nx) hr fun ha => by obtain ⟨a,b,_⟩ := l.keep _ hn ha; rw [b]; exact h a
  | .elt hn hr h => .elt (Nat.lt_of_lt_of_le hn l.nx) hr fun ha => by obtain ⟨a,b,c⟩ := l.keep _ hn ha; rw [b,c]; exact h a
  | .win hn h => .win (Nat.lt_of_lt_of_le hn l.nx) fun ha => by obtain ⟨a,b,c⟩ := l.keep _ hn ha; rw [b,c]; exact h a
theorem WRs.mono (l : R.Le R') {v : List WV} {x : List AV} : WRs R v x → WRs R' v x
  | .nil => .nil
  | .cons h hs => .cons (h.mono l) (hs.mono l)
end
theorem WRss.mono (l : R.Le R') {v : List (List WV)} {x : List (List AV)} (h : WRss R v x) : WRss R' v x := All2.mono (fun _ _ h => WRs.mono l h) h
theorem PR.sc_inv {v : Value} {x : AV} (h : PR (.sc v) x) : x = .sc v := by cases h; rfl
theorem PR.lst_inv {es : List (List WV)} {x : AV} (h : PR (.lst es) x) : (es = [] ∧ x = .sc (.slice none 0 0)) ∨ ∃ xs c,x = .isl xs c ∧ PRss es xs := by
  cases h with
  | emp => exact .inl ⟨rfl,rfl⟩
  | lst h => exact .inr ⟨_,_,rfl,h⟩
theorem PR.ipt_inv {cs : List WV} {x : AV} (h : PR (.ipt cs) x) : ∃ xs,x = .ipt xs ∧ PRs cs xs := by cases h with | ipt h => exact ⟨_,rfl,h⟩
theorem PR.agg_inv {cs : List WV} {x : AV} (h : PR (.agg cs) x) : ∃ xs,x = .agg xs ∧ PRs cs xs := by cases h with | agg h => exact ⟨_,rfl,h⟩
theorem PR.tup_inv {cs : List WV} {x : AV} (h : PR (.tup cs) x) : ∃ xs,x = .tup xs ∧ PRs cs xs := by cases h with | tup h => exact ⟨_,rfl,h⟩
theorem WR.sc_inv {v : Value} {x : AV} (h : WR R (.sc v) x) : x = .sc v := by cases h with | pure h => exact h.sc_inv
theorem WR.lst_inv {es : List (List WV)} {x : AV} (h : WR R (.lst es) x) : (es = [] ∧ x = .sc (.slice none 0 0)) ∨ ∃ xs c,x = .isl xs c ∧ PRss es xs := by cases h with | pure h => exact h.lst_inv
theorem WR.ipt_inv {cs : List WV} {x : AV} (h : WR R (.ipt cs) x) : ∃ xs,x = .ipt xs ∧ PRs cs xs := by cases h with | pure h => exact h.ipt_inv
theorem WR.agg_inv {cs : List WV} {x : AV} (h : WR R (.agg cs) x) : ∃ xs,x = .agg xs ∧ WRs R cs xs := by
  cases h with
  | pure h => obtain ⟨xs,rfl,q⟩ := h.agg_inv; exact ⟨xs,rfl,PRs.wrs q⟩
  | agg h => exact ⟨_,rfl,h⟩
theorem WR.tup_inv {cs : List WV} {x : AV} (h : WR R (.tup cs) x) : ∃ xs,x = .tup xs ∧ WRs R cs xs := by
  cases h with
  | pure h => obtain ⟨xs,rfl,q⟩ := h.tup_inv; exact ⟨xs,rfl,PRs.wrs q⟩
  | tup h => exact ⟨_,rfl,h⟩
theorem WR.row_inv {n : Nat} {x : AV} (h : WR R (.row n) x) : n < R.nx ∧ refA x = true ∧ (R.al n → x = R.av n) := by
  cases h with
  | pure h => cases h
  | row a b c => exact ⟨a,b,c⟩
theorem WR.box_inv {n fo : Nat} {x : AV} (h : WR R (.box n fo) x) : n < R.nx ∧ refA x = true ∧ (R.al n → x = .pt (R.ob n) 1 0 fo) := by
  cases h with
  | pure h => cases h
  | box a b c => exact ⟨a,b,c⟩
theorem WR.elt_inv {n i fo : Nat} {x : AV} (h : WR R (.elt n i fo) x) : n < R.nx ∧ refA x = true ∧ (R.al n → ∃ g cap,R.av n = .sl (R.ob n) g 0 g cap ∧ x = .pt (R.ob n) g i fo) := by
  cases h with
  | pure h => cases h
  | elt a b c => exact ⟨a,b,c⟩
theorem WR.win_inv {n lo len : Nat} {cp : Bool} {x : AV} (h : WR R (.win n lo len cp) x) : R.al n → (len = 0 ∧ (x = .sc (.slice none 0 0) ∨ (cp = false ∧ x = .isl [] false))) ∨ ∃ g cap c' lo',R.av n = .sl (R.ob n) g 0 g cap ∧ x = .sl (R.ob n) g lo' len c' ∧ (len ≠ 0 → lo' = lo) ∧ lo' + len ≤ g ∧ (cp = true → c' = some len) := by
  cases h with
  | pure h => cases h
  | win _ b => exact b
theorem WR.mp_inv {n : Nat} {x : AV} (h : WR R (.mp n) x) : n < R.nx ∧ (R.al n → x = .mp (R.ob n)) := by
  cases h with
  | pure h => cases h
  | mp a b => exact ⟨a,b⟩
theorem WR.fn_inv {f : FuncId} {a b : List WV} {x : AV} (h : WR R (.fn f a b) x) : ∃ xs ys,x = .fn (.func f) xs ys ∧ WRs R a xs ∧ WRs R b ys := by
  cases h with
  | pure h => cases h
  | fn ha hb => exact ⟨_,_,rfl,ha,hb⟩
theorem WR.fnp_inv {f : FuncId} {a b : List WV} {x : AV} (h : WR R (.fnp f a b) x) : ∃ xs ys,x = .fn (.func f) xs ys ∧ PRs a xs ∧ PRs b ys ∧ a.all leafB = true ∧ b.all leafB = true := by
  cases h with
  | pure h => cases h with | fnp ha hb hl hm => exact ⟨_,_,rfl,ha,hb,hl,hm⟩
theorem leaf_pr {v : WV} {x : AV} (hl : leafB v = true) (h : WR R v x) : PR v x := by
  cases h with
  | pure h => exact h
  | agg h => cases hl
  | tup h => cases hl
  | fn => cases hl
  | mp => cases hl
  | row => cases hl
  | box => cases hl
  | elt => cases hl
  | win => cases hl
theorem leaf_prs {cs : List WV} {xs : List AV} (hl : cs.all leafB = true) (h : WRs R cs xs) : PRs cs xs :=
  prs_all2.2 ((wrs_all2.1 h).monoM fun a ha _ h => leaf_pr ((List.all_eq_true.1 hl) a ha) h)
theorem leafs_prss {es : List (List WV)} {xs : List (List AV)} (hl : leafs es) (h : WRss R es xs) : PRss es xs :=
  prss_all2.2 (All2.monoM (fun a ha _ h => leaf_prs (hl a ha) h) h)
theorem storable_of {v : WV} {x : AV} (hs : storableW v = true) (h : WR R v x) : x.storable = true := by
  cases h with
  | pure h => cases h with
    | @sc y => cases y <;> first | rfl | cases hs
    | agg h => cases hs
    | tup h => cases hs
    | emp => rfl
    | lst => rfl
    | ipt => rfl
    | fnp => cases hs
  | agg => cases hs
  | tup => cases hs
  | fn => cases hs
  | mp => cases hs
  | row _ hr _ => exact (refA_cells hr).2
  | box _ hr _ => exact (refA_cells hr).2
  | elt _ hr _ => exact (refA_cells hr).2
  | win => cases hs
theorem storables_of : ∀ {cs : List WV} {xs : List AV},cs.all storableW = true → WRs R cs xs → xs.all AV.storable = true
  | _,_,_,.nil => rfl
  | _,_,hs,.cons h hr => by
    simp only [List.all_cons,Bool.and_eq_true] at hs ⊢
    exact ⟨storable_of hs.1 h,storables_of hs.2 hr⟩
theorem lk_look {α : Type} : ∀ (l : List (Nat × α)) (n : Nat),lk l n = look l n
  | [],_ => rfl
  | (m,a) :: r,n => by
    show (bif Nat.beq m n then some a else lk r n) = _
    simp only [look]
    cases h : Nat.beq m n with
    | true => rw [if_pos (Nat.eq_of_beq_eq_true h)]; rfl
    | false => rw [if_neg (Nat.ne_of_beq_eq_false h)]; exact lk_look r n
theorem lk_cons {α : Type} (m : Nat) (a : α) (r : List (Nat × α)) (n : Nat) : lk ((m,a) :: r) n = if m = n then some a else lk r n := by
  rw [lk_look,lk_look]; rfl
theorem lk_rmv {α : Type} : ∀ (l : List (Nat × α)) (n m : Nat),lk (rmv l n) m = if n = m then none else lk l m
  | [],n,m => by simp [rmv,lk]
  | (k,a) :: r,n,m => by
    show lk (bif Nat.beq k n then rmv r n else (k,a) :: rmv r n) m = _
    cases h : Nat.beq k n with
    | true =>
      have := Nat.eq_of_beq_eq_true h
      subst this
      show lk (rmv r k) m = _
      rw [lk_rmv r k m,lk_cons]
      split
      · rfl
      · rfl
    | false =>
      have := Nat.ne_of_beq_eq_false h
      show lk ((k,a) :: rmv r n) m = _
      rw [lk_cons,lk_rmv r n m,lk_cons]
      by_cases hm : k = m
      · subst hm
        rw [if_pos rfl,if_neg (fun e => this e.symm),if_pos rfl]
      · rw [if_neg hm,if_neg hm]
theorem takeW_eq (n : Nat) (cs : List WV) : takeW n cs = cs.take n := by
  unfold takeW
  cases h : Nat.beq n cs.length with
  | true => rw [Nat.eq_of_beq_eq_true h]; simp
  | false => rfl
theorem dropW_eq (n : Nat) (cs : List WV) : dropW n cs = cs.drop n := by cases n <;> rfl
theorem spliceW_eq (cs : List WV) (a : Nat) (new : List WV) : spliceW cs a new = cs.take a ++ new ++ cs.drop (a + new.length) := by
  unfold spliceW
  cases h : (Nat.beq new.length cs.length && Nat.beq a 0) with
  | true =>
    simp only [Bool.and_eq_true] at h
    obtain rfl : a = 0 := Nat.eq_of_beq_eq_true h.2
    have := Nat.eq_of_beq_eq_true h.1
    simp [this]
  | false => simp
theorem splice_ok {cs : List WV} {xs : List AV} (h : WRs R cs xs) (a : Nat) {new : List WV} {ys : List AV} (hn : WRs R new ys) : WRs R (spliceW cs a new) (splice xs a ys) := by
  rw [spliceW_eq]
  have hl := (wrs_all2.1 hn).length
  unfold splice
  rw [hl]
  exact wrs_all2.2 ((((wrs_all2.1 h).take a).append (wrs_all2.1 hn)).append ((wrs_all2.1 h).drop _))
theorem cells_ok {v : WV} {x : AV} {cs : List WV} (h : WR R v x) (hc : cellsW v = some cs) : ∃ xs,cellsOf x = some xs ∧ WRs R cs xs := by
  have one : ∀ {v : WV} {x : AV},WR R v x → cellsOf x = some [x] → cellW v = v → ∃ xs,cellsOf x = some xs ∧ WRs R [cellW v] xs := fun h1 h2 h3 => ⟨_,h2,by rw [h3]; exact .cons h1 .nil⟩
  unfold cellsW at hc
  split at hc
  · obtain ⟨xs,rfl,q⟩ := h.agg_inv
    cases hc
    exact ⟨xs,rfl,q⟩
  · cases hc
  · cases hc
  · cases hc
  · cases hc
  · cases hc
  · cases hc
  · cases hc
  · rename_i n1 n2 n5 n6 n7 n8 n3 n4
    cases hc
    cases v with
    | sc y =>
      obtain rfl := h.sc_inv
      cases y
      case tuple a => exact absurd rfl (n3 a)
      case slice a b c =>
        cases a with
        | some a => exact ⟨_,rfl,.cons (.pure .sc) .nil⟩
        | none =>
          cases b with
          | succ b => exact ⟨_,rfl,.cons (.pure .sc) .nil⟩
          | zero => cases c with
            | succ c => exact ⟨_,rfl,.cons (.pure .sc) .nil⟩
            | zero => exact ⟨_,rfl,.cons (.pure .emp) .nil⟩
      all_goals exact ⟨_,rfl,.cons (.pure .sc) .nil⟩
    | agg cs => exact absurd rfl (n1 cs)
    | tup cs => exact absurd rfl (n2 cs)
    | lst es =>
      have h' := h
      rcases h.lst_inv with ⟨rfl,rfl⟩ | ⟨xs,c,rfl,_⟩
      · exact one h' rfl rfl
      · exact one h' rfl rfl
    | ipt cs =>
      have h' := h
      obtain ⟨xs,rfl,_⟩ := h.ipt_inv
      exact one h' rfl rfl
    | row n => exact one h (refA_cells h.row_inv.2.1).1 rfl
    | box n fo => exact one h (refA_cells h.box_inv.2.1).1 rfl
    | elt n i fo => exact one h (refA_cells h.elt_inv.2.1).1 rfl
    | win n i fo cp => exact absurd rfl (n5 _ _ _ _)
    | fn f a b => exact absurd rfl (n6 _ _ _)
    | fnp f a b => exact absurd rfl (n7 _ _ _)
    | mp n => exact absurd rfl (n8 _)
theorem ofCells_ok {d : TyD} {cs : List WV} {xs : List AV} {v : WV} (h : WRs R cs xs) (ho : ofCellsW d cs = some v) : ∃ x,ofCells d xs = some x ∧ WR R v x := by
  have hl := (wrs_all2.1 h).length
  unfold ofCellsW at ho
  cases hb : Nat.beq cs.length d.size with
  | false => rw [hb] at ho; cases ho
  | true =>
    rw [hb] at ho
    simp only [cond_true] at ho
    unfold ofCells
    rw [if_pos (by rw [← hl]; exact Nat.eq_of_beq_eq_true hb)]
    cases ha : d.isAgg with
    | true =>
      rw [ha] at ho
      cases ho
      exact ⟨.agg xs,by simp,.agg h⟩
    | false =>
      rw [ha] at ho
      simp only [] at ho
      split at ho
      · cases ho
        cases h with
        | cons h1 h2 => cases h2; exact ⟨_,by simp,h1⟩
      · cases ho
theorem zero_ok (d : TyD) : PRs (zeroW d) (d.zero.map .sc) := by
  unfold zeroW
  induction d.zero with
  | nil => exact .nil
  | cons v l ih =>
    refine .cons ?_ ih
    show PR (cellW (.sc v)) (.sc v)
    unfold cellW
    split
    · rename_i e
      cases e
      exact .emp
    · exact .sc
theorem cellW_ok (v : Value) : PR (cellW (.sc v)) (.sc v) := by
  unfold cellW
  split
  · rename_i e
    cases e
    exact .emp
  · exact .sc
theorem zeroN_ok (d : TyD) (k : Nat) : PRs (zeroN d k) (d.zero.map .sc) := by
  unfold zeroN
  have : ∀ (l : List Value) (i : Nat),PRs ((l.zipIdx i).map fun p => bif Nat.beq p.2 k then WV.sc p.1 else cellW (.sc p.1)) (l.map .sc) := by
    intro l
    induction l with
    | nil => intro i; exact .nil
    | cons v l ih =>
      intro i
      refine .cons ?_ (ih (i + 1))
      show PR (bif Nat.beq i k then WV.sc v else cellW (.sc v)) (.sc v)
      cases Nat.beq i k
      · exact cellW_ok v
      · exact .sc
  exact this d.zero 0
end Go.Abs
end
