/- What the evaluator knows of a program, out of the program itself. -/
import Derived.Test.YtojknjmcmadhcaaGreatDoorAg

section
namespace Go.Abs

/-- A table as a tree of closed terms. -/
inductive Tr (α : Type) where
  | nil
  | node (a : α) (l r : Tr α)

def Tr.get {α : Type} : Tr (Option α) → Nat → Option α
  | .nil, _ => none
  | .node a l r, n => bif Nat.beq n 0 then a else bif Nat.beq (n % 2) 1 then l.get (n / 2) else r.get (n / 2 - 1)

def mkTr {α : Type} (f : Nat → α) : Nat → Nat → Nat → Tr α
  | 0, _, _ => .nil
  | k + 1, lo, st => .node (f lo) (mkTr f k (lo + st) (2 * st)) (mkTr f k (lo + 2 * st) (2 * st))

theorem mkTr_get {α : Type} (f : Nat → Option α) : ∀ (k lo st n : Nat) (x : α), (mkTr f k lo st).get n = some x → f (lo + n * st) = some x
  | 0, _, _, _, _, h => by cases h
  | k + 1, lo, st, n, x, h => by
    simp only [mkTr, Tr.get] at h
    by_cases e : n = 0
    · subst e; simpa using h
    · have e' : Nat.beq n 0 = false := by
        cases hq : Nat.beq n 0 with
        | false => rfl
        | true => exact absurd (Nat.eq_of_beq_eq_true hq) e
      rw [e'] at h
      simp only [cond_false] at h
      cases hq : Nat.beq (n % 2) 1 with
      | true =>
        rw [hq] at h
        simp only [cond_true] at h
        have hm := Nat.eq_of_beq_eq_true hq
        have := mkTr_get f k _ _ _ _ h
        rw [← this]
        congr 1
        have h2 : n = 2 * (n / 2) + 1 := by omega
        generalize n / 2 = m at h2
        subst h2
        rw [Nat.add_mul, Nat.mul_comm 2 m, Nat.mul_assoc]
        omega
      | false =>
        rw [hq] at h
        simp only [cond_false] at h
        have hm : n % 2 ≠ 1 := fun q => by rw [q] at hq; cases hq
        have := mkTr_get f k _ _ _ _ h
        rw [← this]
        congr 1
        have h2 : n = 2 * (n / 2 - 1) + 2 := by omega
        generalize n / 2 - 1 = m at h2
        subst h2
        rw [Nat.add_mul, Nat.mul_comm 2 m, Nat.mul_assoc]
        omega

/-- The kind of a description. -/
def kindOf (P : Program) : TypeDesc → Option TyK
  | .int k => some (.int k)
  | .string => some .str
  | .bool => some .bool
  | .struct fs => if fs.toList.all (fun f => (P.info? f.type).isSome) then some (.strct (fs.toList.map fun f => (f.offset, f.type))) else none
  | .array n e => some (.arr n e)
  | .slice e => some (.slice e)
  | .map k e => some (.map k e)
  | .pointer _ => some .ptr
  | .interface _ => some .iface
  | u => if u.isRow then none else some .other

/-- The kinds of the fields, if all are cells of their own. -/
def flatF (P : Program) : List Field → Nat → Option (List TyK)
  | [], _ => some []
  | f :: fs, i => if f.offset = i ∧ (f.name == "_") = false then
      match P.underlying f.type, flatF P fs (i + 1) with
      | some (.int k), some ks => some (.int k :: ks)
      | some .string, some ks => some (.str :: ks)
      | some .bool, some ks => some (.bool :: ks)
      | _, _ => none
    else none

def flatOf (P : Program) (t : TypeId) : TypeDesc → Option (List TyK)
  | .struct fs => if P.stoodInHeld t = false ∧ P.eqGuardType P.depth t = false then flatF P fs.toList 0 else none
  | _ => none

def isAggV : Value → Bool
  | .agg _ => true
  | _ => false

def tabOf (P : Program) (t : TypeId) : Option TyD :=
  match P.info? t, P.underlying t with
  | some i, some u => match i.zero, kindOf P u with
    | some z, some k => if z.cells.toList.all scalarB && (z.cells.toList.length == i.size) && (isAggV z == TyD.isAgg ⟨k, 0, 0, [], none⟩) then
        some ⟨k, i.size, i.bytes, z.cells.toList, flatOf P t u⟩ else none
    | _, _ => none
  | _, _ => none

theorem kindOf_ok {P : Program} {t : TypeId} {u : TypeDesc} {k : TyK} (hu : P.underlying t = some u) (h : kindOf P u = some k) : KOK P t k := by
  cases u <;> simp only [kindOf] at h
  case struct fs =>
    split at h
    · rename_i hall
      cases h
      exact ⟨fs, hu, rfl, fun f hf => (List.all_eq_true.1 hall) f hf⟩
    · cases h
  all_goals first
    | (cases h; exact hu)
    | (cases h; exact ⟨_, hu⟩)
    | (split at h
       · cases h
       · rename_i hr
         cases h
         exact ⟨_, hu, by first | (simp; done) | (simpa using hr)⟩)

/-- Basic kinds. -/
def fitU : TypeDesc → TyK → Bool
  | .int a, .int b => decide (a = b)
  | .string, .str => true
  | .bool, .bool => true
  | _, _ => false

theorem run_isAgg_of {P : Program} {t : TypeId} {u : TypeDesc} {k : TyK} (hu : P.underlying t = some u) (h : fitU u k = true) (w : World) : (isAgg t).run P w = .ok false w := by
  unfold isAgg
  cases u <;> simp_all [run_under hu, fitU]

theorem run_equal_cell {P : Program} {t : TypeId} {u : TypeDesc} {k : TyK} (hu : P.underlying t = some u) (hk : fitU u k = true) {x y : Value} {b : Bool} (hf : fitK k x = true) (hs : sameKey x y = some b) (d : Nat) (w : World) :
    (Op.equalIn (d + 1) t x y).run P w = .ok b w := by
  cases k <;> cases u <;> simp only [fitU, Bool.false_eq_true] at hk
  case int.int =>
    cases x <;> simp only [fitK, Bool.false_eq_true] at hf
    cases y <;> simp only [sameKey, reduceCtorEq] at hs
    split at hs
    · rename_i e
      subst e
      cases hs
      simp only [Op.equalIn, Sem.run_bind, run_under hu, Result.andThen_ok]
      simp
    · cases hs
  case str.string =>
    cases x <;> simp only [fitK, Bool.false_eq_true] at hf
    cases y <;> simp only [sameKey, reduceCtorEq] at hs
    cases hs
    simp only [Op.equalIn, Sem.run_bind, run_under hu, Result.andThen_ok]
    simp
  case bool.bool =>
    cases x <;> simp only [fitK, Bool.false_eq_true] at hf
    cases y <;> simp only [sameKey, reduceCtorEq] at hs
    cases hs
    simp only [Op.equalIn, Sem.run_bind, run_under hu, Result.andThen_ok]
    simp

theorem flat_loop {P : Program} {xs ys : Array Value} (d : Nat) : ∀ (fs : List Field) (i : Nat) (ks : List TyK) (as bs : List Value) (b : Bool), flatF P fs i = some ks → eqVals ks as bs = some b → (∀ j, xs[i + j]? = as[j]?) → (∀ j, ys[i + j]? = bs[j]?) → ∀ w : World,
    (forIn fs ((none, ()) : Option Bool × Unit) fun f __s => (if f.name ≠ "_" then do
              let __do_lift ← part f.type xs f.offset
              let __do_lift_1 ← part f.type ys f.offset
              let __do_lift ← Op.equalIn (d + 1) f.type __do_lift __do_lift_1
              if (!__do_lift) = true then pure (ForInStep.done (some false, ())) else pure (ForInStep.yield (none, ()))
            else pure (ForInStep.yield (none, ())) : Sem (ForInStep (Option Bool × Unit)))).run P w = .ok (if b then none else some false, ()) w
  | [], i, ks, as, bs, b, h1, h2, _, _, w => by
    cases h1
    cases as <;> cases bs <;> simp only [eqVals, reduceCtorEq] at h2
    cases h2
    simp
  | f :: fs, i, ks, as, bs, b, h1, h2, hx, hy, w => by
    simp only [flatF] at h1
    split at h1
    rotate_left
    · cases h1
    rename_i hc
    obtain ⟨ho, hn⟩ := hc
    have hn' : f.name ≠ "_" := fun e => by rw [e] at hn; simp at hn
    have key : ∀ (u : TypeDesc) (k : TyK) (ks' : List TyK), P.underlying f.type = some u → flatF P fs (i + 1) = some ks' → fitU u k = true →
        eqVals (k :: ks') as bs = some b →
        (forIn (f :: fs) ((none, ()) : Option Bool × Unit) fun f __s => (if f.name ≠ "_" then do
              let __do_lift ← part f.type xs f.offset
              let __do_lift_1 ← part f.type ys f.offset
              let __do_lift ← Op.equalIn (d + 1) f.type __do_lift __do_lift_1
              if (!__do_lift) = true then pure (ForInStep.done (some false, ())) else pure (ForInStep.yield (none, ()))
            else pure (ForInStep.yield (none, ())) : Sem (ForInStep (Option Bool × Unit)))).run P w = .ok (if b then none else some false, ()) w := by
      intro u k ks' hu hfl hk he
      cases as with
      | nil => simp only [eqVals, reduceCtorEq] at he
      | cons a as =>
      cases bs with
      | nil => simp only [eqVals, reduceCtorEq] at he
      | cons c bs =>
      simp only [eqVals] at he
      split at he
      · rename_i hf
        split at he
        · rename_i x y hs hr
          cases he
          have hpx : (part f.type xs f.offset).run P w = .ok a w := by
            have := hx 0
            simp at this
            unfold part
            simp only [Sem.run_bind, run_isAgg_of hu hk, Result.andThen_ok, Bool.false_eq_true, if_false, ho]
            rw [this]
            simp
          have hpy : (part f.type ys f.offset).run P w = .ok c w := by
            have := hy 0
            simp at this
            unfold part
            simp only [Sem.run_bind, run_isAgg_of hu hk, Result.andThen_ok, Bool.false_eq_true, if_false, ho]
            rw [this]
            simp
          have ih := flat_loop d fs (i + 1) ks' as bs y hfl hr (fun j => by have := hx (j + 1); rw [show i + 1 + j = i + (j + 1) by omega]; simpa using this) (fun j => by have := hy (j + 1); rw [show i + 1 + j = i + (j + 1) by omega]; simpa using this) w
          rw [List.forIn_cons]
          simp only [if_pos hn', Sem.run_bind, hpx, hpy, Result.andThen_ok, run_equal_cell hu hk hf hs d w]
          cases x with
          | true =>
            simp only [Bool.not_true, Bool.false_eq_true, if_false, Sem.run_pure, Result.andThen_ok, Bool.true_and]
            exact ih
          | false => simp
        · cases he
      · cases he
    split at h1
    · rename_i k ks' hu hfl
      cases h1
      exact key _ _ _ hu hfl (by simp [fitU]) h2
    · rename_i ks' hu hfl
      cases h1
      exact key _ _ _ hu hfl rfl h2
    · rename_i ks' hu hfl
      cases h1
      exact key _ _ _ hu hfl rfl h2
    · cases h1

theorem flatOf_ok {P : Program} {t : TypeId} {u : TypeDesc} (hu : P.underlying t = some u) {ks : List TyK} (h : flatOf P t u = some ks) : FlatEq P t ks := by
  cases u <;> simp only [flatOf, reduceCtorEq] at h
  case struct fs =>
    split at h
    · rename_i hc
      refine ⟨hc.2, fun xs ys b he w => ?_⟩
      unfold Op.equal Op.maxDepth
      rw [show (10000 : Nat) = 9999 + 1 from rfl, Op.equalIn]
      simp only [Sem.run_bind, run_under hu, Result.andThen_ok, run_program, hc.1, Bool.false_eq_true, if_false]
      have := flat_loop (P := P) (xs := xs.toArray) (ys := ys.toArray) 9998 fs.toList 0 ks xs ys b h he (fun j => by simp) (fun j => by simp) w
      rw [← Array.forIn_toList]
      simp only [show (9999 : Nat) = 9998 + 1 from rfl]
      rw [this]
      cases b <;> simp
    · cases h

theorem tabOf_ok (P : Program) : TabOK P (tabOf P) := by
  intro t d h
  unfold tabOf at h
  split at h
  · rename_i i u hi hu
    split at h
    · rename_i z k hz hk
      split at h
      · rename_i hc
        cases h
        simp only [Bool.and_eq_true, beq_iff_eq] at hc
        obtain ⟨⟨h1, h2⟩, h3⟩ := hc
        have hag : ∀ (a b c : Nat) (l : List Value) (f : Option (List TyK)), TyD.isAgg ⟨k, a, b, l, f⟩ = isAggV z := fun a b c l f => by
          rw [h3]; cases k <;> rfl
        refine ⟨⟨i, z, hi, rfl, rfl, hz, rfl, fun hh => ?_, fun hh => ?_⟩, kindOf_ok hu hk, h1, h2, fun ks hf => flatOf_ok hu hf⟩
        · rw [hag _ _ 0] at hh
          cases z <;> simp_all [isAggV, Value.cells]
        · rw [hag _ _ 0] at hh
          cases z <;> simp_all [isAggV, Value.cells]
      · cases h
    · cases h
  · cases h

/-- The bodies. -/
def fnOf (P : Program) (f : FuncId) : Option FnD :=
  match P.funcs[f]? with
  | some fn => match fn.body with
    | some b => some ⟨fn.ntmps, fn.results.toList, b⟩
    | none => none
  | none => none

/-- The tables of a program. -/
def tabT (P : Program) : Tab := (mkTr (tabOf P) 10 0 1).get
def fnT (P : Program) : FuncId → Option FnD := (mkTr (fnOf P) 10 0 1).get

theorem tabT_ok (P : Program) : TabOK P (tabT P) := fun t d h => tabOf_ok P t d (by simpa using mkTr_get _ _ _ _ _ _ h)

theorem fnT_ok {P : Program} (hn : P.funcs.toList.all (fun fn => !(fn.name == "runtime.NumGoroutine")) = true) {f : FuncId} {d : FnD} (h : fnT P f = some d) : FnOK P f d := by
  have h : fnOf P f = some d := by simpa using mkTr_get _ _ _ _ _ _ h
  unfold fnOf at h
  split at h
  · rename_i fn hf
    split at h
    · rename_i b hb
      cases h
      refine ⟨fn, hf, hb, rfl, rfl, ?_⟩
      have := (List.all_eq_true.1 hn) fn (by simpa using Array.mem_of_getElem? hf)
      simpa using this
    · cases h
  · cases h

end Go.Abs
end

/- A memo of proved calls. -/
section
namespace Go.Abs

def zi (n : Int) : Value := .int .i64 n
def zs (b : ByteArray) : Value := .string b
def nsl : Value := .slice none 0 0
def u8s (l : List Int) : List (List AV) := l.map fun n => [.sc (.int .u8 n)]
def i64s (l : List Int) : List (List AV) := l.map fun n => [.sc (.int .i64 n)]

/-- A call and its result. -/
structure Ent where
  f : FuncId
  args : List AV
  out : Out

def findE (f : FuncId) (args : List AV) : List Ent → Option Out
  | [] => none
  | e :: es => bif Nat.beq e.f f then (bif eqAVs e.args args then some e.out else findE f args es) else findE f args es

theorem findE_ok {P : Program} {f : FuncId} {args : List AV} {r : Out} : ∀ {es : List Ent}, (∀ e ∈ es, Valid P e.f e.args e.out) → findE f args es = some r → Valid P f args r
  | [], _, h => by cases h
  | e :: es, he, h => by
    simp only [findE] at h
    cases h1 : Nat.beq e.f f with
    | false =>
      rw [h1] at h
      exact findE_ok (fun x hx => he x (by simp [hx])) h
    | true =>
      rw [h1] at h
      cases h2 : eqAVs e.args args with
      | false =>
        rw [h2] at h
        exact findE_ok (fun x hx => he x (by simp [hx])) h
      | true =>
        rw [h2] at h
        cases h
        have := he e (by simp)
        rwa [Nat.eq_of_beq_eq_true h1, eqAVs_eq h2] at this

/-- Answers by hand. -/
structure Spec where
  s1 : FuncId → List AV → (FuncId → List AV → Option Out) → Option Out
  s2 : FuncId → List AV → Heap → (FuncId → List AV → Heap → Option (Out × Heap)) → Option (Out × Heap)
  meth : TypeId → String → Option FuncId := fun _ _ => none

structure SpecOK (P : Program) (S : Spec) : Prop where
  s1 : ∀ c1, (∀ f args r, c1 f args = some r → Valid P f args r) → ∀ f args r, S.s1 f args c1 = some r → Valid P f args r
  s2 : ∀ c2, (∀ f args H r H', c2 f args H = some (r, H') → Valid2 P f args H r H') → ∀ f args H r H', S.s2 f args H c2 = some (r, H') → Valid2 P f args H r H'
  meth : ∀ t m f, S.meth t m = some f → MethOK P t m f := by intro _ _ _ h; cases h

/-- A program, functions called in the caller's heap, functions that give a row of their own, answers by hand, a memo. -/
def mkE (P : Program) (inl own : List FuncId) (S : Spec) (es : List Ent) : Env where
  tab := tabT P
  fn := fnT P
  isInl := fun f => inl.any fun g => Nat.beq g f
  isOwn := fun f => own.any fun g => Nat.beq g f
  spec := fun f args c1 => match findE f args es with
    | some r => some r
    | none => S.s1 f args c1
  spec2 := S.s2
  meth := S.meth

theorem mkE_ok {P : Program} {inl own : List FuncId} {S : Spec} {es : List Ent} (hm : P.follows .mixedOrders = true) (hn : P.funcs.toList.all (fun fn => !(fn.name == "runtime.NumGoroutine")) = true) (hS : SpecOK P S) (he : ∀ e ∈ es, Valid P e.f e.args e.out) :
    EnvOK P (mkE P inl own S es) where
  tab := tabT_ok P
  mixed := hm
  fn := fun _ _ h => fnT_ok hn h
  spec := fun c1 hc f args r h => by
    simp only [mkE] at h
    split at h
    · rename_i hf; cases h; exact findE_ok he hf
    · exact hS.s1 c1 hc f args r h
  spec2 := hS.s2
  meth := hS.meth

/-- Is this the answer? -/
def isOut : Option Out → Out → Bool
  | some (.ret a), .ret b => eqAV a b
  | some (.pan a), .pan b => eqAV a b
  | _, _ => false

theorem isOut_eq {x : Option Out} {r : Out} (h : isOut x r = true) : x = some r := by
  unfold isOut at h
  split at h
  · rw [eqAV_eq h]
  · rw [eqAV_eq h]
  · cases h

/-- A call, run by the kernel. -/
theorem ran {P : Program} {E : Env} (ok : EnvOK P E) (fuel n : Nat) {f : FuncId} {args : List AV} {r : Out} (h : isOut ((ev E fuel n).c1 f args) r = true) : Valid P f args r := ev_valid ok (isOut_eq h)

theorem ents_cons {P : Program} {f : FuncId} {args : List AV} {r : Out} {es : List Ent} (h : Valid P f args r) (he : ∀ e ∈ es, Valid P e.f e.args e.out) : ∀ e ∈ (⟨f, args, r⟩ :: es : List Ent), Valid P e.f e.args e.out := fun e hm => by
  rcases List.mem_cons.1 hm with rfl | hm
  · exact h
  · exact he e hm

end Go.Abs
end
