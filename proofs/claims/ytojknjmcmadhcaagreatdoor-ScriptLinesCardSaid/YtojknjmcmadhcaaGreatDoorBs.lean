/- What the run leans on: strings.Count at one byte, strings.Join, methods. -/
import Derived.Test.YtojknjmcmadhcaaGreatDoorBv
import Derived.Test.YtojknjmcmadhcaaGreatDoorBp
import Derived.Test.YtojknjmcmadhcaaGreatDoorIb
import Derived.Shelf.Strings.OnBuilder
import Derived.Test.YtojknjmcmadhcaaGreatDoorBi

section
namespace Go.Proofs
open Go.Shelf
def joinRen : Ren := ⟨renPairs [(156, 21), (165, 35), (166, 36), (169, 37), (240, 52), (241, 53), (276, 68), (277, 69)], renPairs [(31, 29), (9, 9), (3, 3), (4, 4), (0, 0), (20, 20), (72, 83), (76, 87), (70, 81), (37, 78), (75, 86), (127, 97), (164, 127), (5, 5), (80, 89)], fun n => n⟩
theorem joinLays : Lays.n156 Tryz.prog joinRen := by
  constructor <;> first | kernel_rfl | (intro _; kernel_rfl)
theorem joinExtra : Builder.Extra Tryz.prog joinRen where
  sizeBuilder := by kernel_rfl
  liesBuilder := by kernel_rfl
  t5 := Tryz.underlying5
  a5 := fun w => by kernel_rfl
  z5 := fun w => by kernel_rfl
  v5 := fun w => by kernel_rfl
  infoByte := by kernel_rfl
  cellsByte := by kernel_rfl
  sizeByte := by kernel_rfl
  neB5 := by decide
end Go.Proofs
namespace Go.Abs.R50
open Go.Proofs Go.Proofs.R50 Go.RowKit

theorem valid_count (s : ByteArray) (c : UInt8) : Valid Tryz.prog 46 [.sc (.string s), .sc (.string ⟨#[c]⟩)] (.ret (.sc (.int .i64 (Lib.countByte s.data.toList c)))) := by
  refine ⟨⟨_, Tryz.func46, rfl, by kernel_rfl⟩, ?_⟩
  intro w I J vs hI hJ hv
  cases hv with
  | cons h hs =>
  cases hs with
  | cons h2 hs =>
  cases hs
  cases h
  cases h2
  refine (Tryz.strings_Count_one s c w).mono ?_
  rintro e w' ⟨rfl, rfl⟩
  exact ⟨Below.refl _ _, I, J, fun _ _ h => h, fun _ _ h => .inl h, fun _ h => h, fun _ h => .inl h, .sc rfl⟩

noncomputable section
/-- How often one byte stands in a text. -/
def count1 (args : List AV) : Option Out := match args with
  | [.sc (.string s), .sc (.string ⟨⟨[c]⟩⟩)] => some (.ret (.sc (.int .i64 (Lib.countByte s.data.toList c))))
  | _ => none

def strsE : List (List AV) → Option (List ByteArray)
  | [] => some []
  | [.sc (.string b)] :: r => match strsE r with | some l => some (b :: l) | none => none
  | _ => none

def joinB (xs : List ByteArray) (sep : ByteArray) : ByteArray := ⟨(Lib.join (xs.map (·.data.toList)) sep.data.toList).toArray⟩
/-- Texts joined. -/
def join1 (args : List AV) : Option Out := match args with
  | [.isl es _, .sc (.string sep)] => match strsE es with
    | some xs => bif Nat.ble xs.length 1000000 && Nat.ble (Lib.join (xs.map (·.data.toList)) sep.data.toList).length 1000000 then some (.ret (.sc (.string (joinB xs sep)))) else none
    | none => none
  | _ => none
end

theorem strsE_tvs {w : World} {I : Nat → Nat → Prop} {J : Nat → Prop} : ∀ {es : List (List AV)} {l : List ByteArray} {vs : List Value}, strsE es = some l → TVs w I J es.flatten vs → vs = l.map Value.string ∧ es.length = l.length
  | [], l, vs, h, hv => by
    cases h
    cases hv
    exact ⟨rfl, rfl⟩
  | e :: r, l, vs, h, hv => by
    unfold strsE at h
    split at h
    · rename_i h2; cases h2
    · rename_i n r' h2
      cases h2
      split at h
      · rename_i l' hl
        cases h
        cases hv with
        | cons h1 h2 =>
          cases h1
          obtain ⟨rfl, e⟩ := strsE_tvs hl h2
          exact ⟨rfl, by simp [e]⟩
      · cases h
    · cases h

theorem valid_join {es : List (List AV)} {cd : Bool} {xs : List ByteArray} {sep : ByteArray} (hx : strsE es = some xs) (h1 : xs.length ≤ 1000000) (h2 : (Lib.join (xs.map (·.data.toList)) sep.data.toList).length ≤ 1000000) :
    Valid Tryz.prog 21 [.isl es cd, .sc (.string sep)] (.ret (.sc (.string (joinB xs sep)))) := by
  refine ⟨⟨_, Tryz.func21, rfl, by kernel_rfl⟩, ?_⟩
  intro w I J vs hI hJ hv
  cases hv with
  | cons h hs =>
  cases hs with
  | cons h3 hs =>
  cases hs
  cases h3
  cases h with
  | isl q1 q2 q3 q4 q5 =>
    rename_i a vs s cap
    obtain ⟨rfl, e⟩ := strsE_tvs hx q1
    obtain ⟨bk, o, sp⟩ := a
    obtain ⟨q6, q7⟩ := q2
    simp only at q6 q7
    subst q6
    have key : Calls Tryz.prog 21 #[.slice (some ⟨bk, o, none⟩) xs.length cap, .string sep] w fun e w' => e = .returned (.string (joinB xs sep)) ∧ Below w.heap.size w w' := by
      cases xs with
      | nil =>
        refine (Any.strings_Join_none joinLays joinExtra (some ⟨bk, o, none⟩) cap sep w).mono ?_
        rintro e w' ⟨rfl, rfl⟩
        exact ⟨rfl, Below.refl _ _⟩
      | cons x r =>
        have hb : bk < w.heap.size := hI _ _ (q7 0 (.string x) (by simp)).1
        exact Any.strings_Join joinLays joinExtra bk o cap (x :: r) sep w (fun j y hy => (q7 j (.string y) (by simp only [List.getElem?_map, hy]; rfl)).2) hb (by omega) (by omega) (by omega)
    rw [e]
    refine key.mono ?_
    rintro e w' ⟨rfl, hb⟩
    exact ⟨hb, I, J, fun _ _ h => h, fun _ _ h => .inl h, fun _ h => h, fun _ h => .inl h, .sc rfl⟩

noncomputable section
/-- The methods that are called through an interface. -/
def meth1 (t : TypeId) (m : String) : Option FuncId := match m with
  | "fedchat/server.handle" => bif Nat.beq t 687 then some 758 else bif Nat.beq t 688 then some 766 else bif Nat.beq t 689 then some 773 else bif Nat.beq t 691 then some 781 else bif Nat.beq t 692 then some 793 else bif Nat.beq t 693 then some 794 else bif Nat.beq t 694 then some 804 else none
  | _ => none
end
theorem methOK1 : ∀ t m f, meth1 t m = some f → MethOK Tryz.prog t m f := fun t m f h => by
  unfold meth1 at h
  split at h
  · cases e0 : Nat.beq t 687 with
    | true => cases Nat.eq_of_beq_eq_true e0; cases h; intro v w; kernel_rfl
    | false =>
    rw [e0, cond_false] at h
    cases e1 : Nat.beq t 688 with
    | true => cases Nat.eq_of_beq_eq_true e1; cases h; intro v w; kernel_rfl
    | false =>
    rw [e1, cond_false] at h
    cases e2 : Nat.beq t 689 with
    | true => cases Nat.eq_of_beq_eq_true e2; cases h; intro v w; kernel_rfl
    | false =>
    rw [e2, cond_false] at h
    cases e3 : Nat.beq t 691 with
    | true => cases Nat.eq_of_beq_eq_true e3; cases h; intro v w; kernel_rfl
    | false =>
    rw [e3, cond_false] at h
    cases e4 : Nat.beq t 692 with
    | true => cases Nat.eq_of_beq_eq_true e4; cases h; intro v w; kernel_rfl
    | false =>
    rw [e4, cond_false] at h
    cases e5 : Nat.beq t 693 with
    | true => cases Nat.eq_of_beq_eq_true e5; cases h; intro v w; kernel_rfl
    | false =>
    rw [e5, cond_false] at h
    cases e6 : Nat.beq t 694 with
    | true => cases Nat.eq_of_beq_eq_true e6; cases h; intro v w; kernel_rfl
    | false =>
    rw [e6, cond_false] at h
    cases h
  · cases h
end Go.Abs.R50
end

/- What the run leans on. -/
section
namespace Go.Abs.R50
open Go.Proofs
noncomputable abbrev P : Program := Tryz.prog
theorem mixed : P.follows .mixedOrders = true := by kernel_rfl
theorem names : P.funcs.toList.all (fun fn => !(fn.name == "runtime.NumGoroutine")) = true := by kernel_rfl

noncomputable def intsV : List Value → Option (List Int)
  | [] => some []
  | .int .i64 n :: r => match intsV r with | some l => some (n :: l) | none => none
  | _ => none

theorem intsV_eq : ∀ {vs : List Value} {l : List Int}, intsV vs = some l → vs = l.map (Value.int .i64)
  | [], l, h => by cases h; rfl
  | v :: r, l, h => by
    unfold intsV at h
    split at h
    · rename_i e; cases e
    · rename_i n r' e
      cases e
      split at h
      · rename_i l' hl
        cases h
        rw [intsV_eq hl]
        rfl
      · cases h
    · cases h


/-- Where a string first has a byte. -/
noncomputable def find1 (args : List AV) : Option Out := match args with
  | [.sc (.string s), .sc (.int .u8 b)] => some (.ret (.sc (.int .i64 (Lib.indexByte s.data.toList b.toNat.toUInt8))))
  | _ => none
/-- The keys of a map in order. -/
noncomputable def sorted1 (args : List AV) : Option Out := match args with
  | [.imt keys _] => match intsV keys with
    | some l => bif Nat.ble l.length 1000000 then some (.ret (.isl (i64s (sortI l)) false)) else none
    | none => none
  | _ => none
/-- A refusal that is caught. -/
noncomputable def caught1 (c1 : FuncId → List AV → Option Out) (args : List AV) : Option Out := match args with
  | [.fn (.func g) first caps] => match c1 g (first ++ caps) with
    | some (.ret _) => some (.ret (.sc (.int .i64 0)))
    | some (.pan (.ifc 656 (.agg [.sc (.int .i64 n)]))) => some (.ret (.sc (.int .i64 n)))
    | _ => none
  | _ => none
/-- One event put into a row. -/
noncomputable def insert2 (args : List AV) (H : Heap) : Option (Out × Heap) := match args with
  | [.sl n g 0 l none, .sc (.int .i64 i), .sl m 1 0 1 _] => match look H.objs n, look H.objs m with
    | some (.cells es s fz), some (.cells ys s' _) =>
      if m ≠ n ∧ es.length = g ∧ l = g ∧ ys.length = 1 ∧ 0 ≤ i ∧ i.toNat ≤ g ∧ fz ≤ i.toNat ∧ g ≤ 1000000 ∧ s = 29 ∧ s' = 29 ∧ es.all (·.all AV.storable) = true ∧ ys.all (·.all AV.storable) = true then
        some (.ret (.sl n (g + 1) 0 (g + 1) none), ⟨put H.objs n (.cells (es.take i.toNat ++ ys ++ es.drop i.toNat) 29 fz), H.next⟩) else none
    | _, _ => none
  | _ => none

noncomputable def sp : Abs.Spec where
  s1 := fun f args c1 => bif Nat.beq f 85 then find1 args else bif Nat.beq f 625 then sorted1 args else bif Nat.beq f 442 then caught1 c1 args else bif Nat.beq f 789 then origin1 c1 args else bif Nat.beq f 46 then count1 args else bif Nat.beq f 21 then join1 args else none
  s2 := fun f args H _c2 => bif Nat.beq f 348 then insert2 args H else none
  meth := meth1

theorem specs : SpecOK P sp where
  s1 := fun c1 hc f args r h => by
    simp only [sp] at h
    cases h1 : Nat.beq f 85 with
    | true =>
      rw [h1] at h
      cases Nat.eq_of_beq_eq_true h1
      simp only [cond_true, find1] at h
      split at h
      · cases h; exact valid_find _ _
      · cases h
    | false =>
    rw [h1, cond_false] at h
    cases h2 : Nat.beq f 625 with
    | true =>
      rw [h2] at h
      cases Nat.eq_of_beq_eq_true h2
      simp only [cond_true, sorted1] at h
      split at h
      · split at h
        · rename_i l hl
          cases hb : Nat.ble l.length 1000000 with
          | true =>
            rw [hb] at h
            cases h
            rw [intsV_eq hl]
            exact valid_sorted l _ (Nat.le_of_ble_eq_true hb)
          | false => rw [hb] at h; cases h
        · cases h
      · cases h
    | false =>
    rw [h2, cond_false] at h
    cases h3 : Nat.beq f 442 with
    | true =>
      rw [h3] at h
      cases Nat.eq_of_beq_eq_true h3
      simp only [cond_true, caught1] at h
      split at h
      · split at h
        · rename_i hq
          cases h
          exact valid_decided_ret (hc _ _ _ hq)
        · rename_i hq
          cases h
          exact valid_decided_pan (hc _ _ _ hq)
        · cases h
      · cases h
    | false =>
    rw [h3, cond_false] at h
    cases h4 : Nat.beq f 789 with
    | true =>
      rw [h4] at h
      cases Nat.eq_of_beq_eq_true h4
      exact valid_origin1 hc h
    | false =>
    rw [h4, cond_false] at h
    cases h5 : Nat.beq f 46 with
    | true =>
      rw [h5] at h
      cases Nat.eq_of_beq_eq_true h5
      simp only [cond_true, count1] at h
      split at h
      · cases h; exact valid_count _ _
      · cases h
    | false =>
    rw [h5, cond_false] at h
    cases h6 : Nat.beq f 21 with
    | true =>
      rw [h6] at h
      cases Nat.eq_of_beq_eq_true h6
      simp only [cond_true, join1] at h
      split at h
      · split at h
        · rename_i es cd sep _ xs hx
          cases hb : (Nat.ble xs.length 1000000 && Nat.ble (Lib.join (xs.map (·.data.toList)) sep.data.toList).length 1000000) with
          | true =>
            rw [hb] at h
            cases h
            rw [Bool.and_eq_true] at hb
            exact valid_join hx (Nat.le_of_ble_eq_true hb.1) (Nat.le_of_ble_eq_true hb.2)
          | false => rw [hb] at h; cases h
        · cases h
      · cases h
    | false => rw [h6] at h; cases h
  s2 := fun c2 hc f args H r H' h => by
    simp only [sp] at h
    cases h1 : Nat.beq f 348 with
    | true =>
      rw [h1] at h
      cases Nat.eq_of_beq_eq_true h1
      simp only [cond_true, insert2] at h
      split at h
      · split at h
        · rename_i hn hm
          split at h
          · rename_i hh
            obtain ⟨q1, q2, rfl, q4, q5, q6, q7, q8, rfl, rfl, q11, q12⟩ := hh
            cases h
            obtain ⟨k, rfl⟩ := Int.eq_ofNat_of_zero_le q5
            exact valid_insert hn hm q1 q2 q4 q6 q7 q8 q11 q12
          · cases h
        · cases h
      · cases h
    | false => rw [h1] at h; cases h
  meth := methOK1

def inl : List FuncId := [33, 41, 42, 43, 44, 75, 90, 100, 101, 102, 137, 151, 155, 188, 192, 220, 254, 279, 286, 348, 409, 412, 417, 418, 422, 430, 463, 470, 485, 506, 517, 518, 536, 537, 564, 565, 566, 567, 568, 569, 570, 571, 572, 573, 574, 575, 617, 629, 643, 644, 645, 646, 647, 676, 686, 783]
def own : List FuncId := [70, 99, 152, 179, 248, 252, 308, 316, 346, 435, 508, 523, 638, 639]
end Go.Abs.R50
end
