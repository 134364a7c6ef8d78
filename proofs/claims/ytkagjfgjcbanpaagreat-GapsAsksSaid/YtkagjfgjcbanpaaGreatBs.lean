/- What the run leans on. -/
import Derived.Test.YtkagjfgjcbanpaaGreatBv
import Derived.Test.YtkagjfgjcbanpaaGreatBi

section
namespace Go.Abs.R29
open Go.Proofs
noncomputable section
noncomputable abbrev P : Program := Tryz.prog
theorem mixed : P.follows .mixedOrders = true := by kernel_rfl
theorem names : P.funcs.toList.all (fun fn => !(fn.name == "runtime.NumGoroutine")) = true := by kernel_rfl

noncomputable def intsV : List Value → Option (List Int)
  | [] => some []
  | .int .i64 n :: r => match intsV r with | some l => some (n :: l) | none => none
  | _ => none

theorem intsV_eq : ∀ {vs : List Value} {l : List Int}, intsV vs = some l → vs = l.map (Value.int .i64)
  | [], l, h => by cases h; rfl
  | v :: r, l, h => by
    unfold intsV at h
    split at h
    · rename_i e; cases e
    · rename_i n r' e
      cases e
      split at h
      · rename_i l' hl
        cases h
        rw [intsV_eq hl]
        rfl
      · cases h
    · cases h

/-- Where a string first has a byte. -/
noncomputable def find1 (args : List AV) : Option Out := match args with
  | [.sc (.string s), .sc (.int .u8 b)] => some (.ret (.sc (.int .i64 (Lib.indexByte s.data.toList b.toNat.toUInt8))))
  | _ => none
/-- The keys of a map in order. -/
noncomputable def sorted1 (args : List AV) : Option Out := match args with
  | [.imt keys _] => match intsV keys with
    | some l => bif Nat.ble l.length 1000000 then some (.ret (.isl (i64s (sortI l)) false)) else none
    | none => none
  | _ => none
/-- A refusal that is caught. -/
noncomputable def caught1 (c1 : FuncId → List AV → Option Out) (args : List AV) : Option Out := match args with
  | [.fn (.func g) first caps] => match c1 g (first ++ caps) with
    | some (.ret _) => some (.ret (.sc (.int .i64 0)))
    | some (.pan (.ifc 273 (.agg [.sc (.int .i64 n)]))) => some (.ret (.sc (.int .i64 n)))
    | _ => none
  | _ => none
/-- One event put into a row. -/
noncomputable def insert2 (args : List AV) (H : Heap) : Option (Out × Heap) := match args with
  | [.sl n g 0 l none, .sc (.int .i64 i), .sl m 1 0 1 _] => match look H.objs n, look H.objs m with
    | some (.cells es s fz), some (.cells ys s' _) =>
      if m ≠ n ∧ es.length = g ∧ l = g ∧ ys.length = 1 ∧ 0 ≤ i ∧ i.toNat ≤ g ∧ fz ≤ i.toNat ∧ g ≤ 1000000 ∧ s = 29 ∧ s' = 29 ∧ es.all (·.all AV.storable) = true ∧ ys.all (·.all AV.storable) = true then
        some (.ret (.sl n (g + 1) 0 (g + 1) none), ⟨put H.objs n (.cells (es.take i.toNat ++ ys ++ es.drop i.toNat) 29 fz), H.next⟩) else none
    | _, _ => none
  | _ => none

noncomputable def sp : Abs.Spec where
  s1 := fun f args c1 => bif Nat.beq f 311 then find1 args else bif Nat.beq f 163 then sorted1 args else bif Nat.beq f 202 then caught1 c1 args else none
  s2 := fun f args H c2 => bif Nat.beq f 148 then insert2 args H else none

theorem specs : SpecOK P sp where
  s1 := fun c1 hc f args r h => by
    simp only [sp] at h
    cases h1 : Nat.beq f 311 with
    | true =>
      rw [h1] at h
      cases Nat.eq_of_beq_eq_true h1
      simp only [cond_true, find1] at h
      split at h
      · cases h; exact valid_find _ _
      · cases h
    | false =>
      rw [h1] at h
      cases h2 : Nat.beq f 163 with
      | true =>
        rw [h2] at h
        cases Nat.eq_of_beq_eq_true h2
        simp only [cond_true, cond_false, sorted1] at h
        split at h
        · split at h
          · rename_i l hl
            cases hb : Nat.ble l.length 1000000 with
            | true =>
              rw [hb] at h
              cases h
              rw [intsV_eq hl]
              exact valid_sorted l _ (Nat.le_of_ble_eq_true hb)
            | false => rw [hb] at h; cases h
          · cases h
        · cases h
      | false =>
        rw [h2] at h
        cases h3 : Nat.beq f 202 with
        | true =>
          rw [h3] at h
          cases Nat.eq_of_beq_eq_true h3
          simp only [cond_true, cond_false, caught1] at h
          split at h
          · split at h
            · rename_i hq
              cases h
              exact valid_decided_ret (hc _ _ _ hq)
            · rename_i hq
              cases h
              exact valid_decided_pan (hc _ _ _ hq)
            · cases h
          · cases h
        | false => rw [h3] at h; cases h
  s2 := fun c2 hc f args H r H' h => by
    simp only [sp] at h
    cases h1 : Nat.beq f 148 with
    | true =>
      rw [h1] at h
      cases Nat.eq_of_beq_eq_true h1
      simp only [cond_true, insert2] at h
      split at h
      · split at h
        · rename_i hn hm
          split at h
          · rename_i hh
            obtain ⟨q1, q2, rfl, q4, q5, q6, q7, q8, rfl, rfl, q11, q12⟩ := hh
            cases h
            obtain ⟨k, rfl⟩ := Int.eq_ofNat_of_zero_le q5
            exact valid_insert hn hm q1 q2 q4 q6 q7 q8 q11 q12
          · cases h
        · cases h
      · cases h
    | false => rw [h1] at h; cases h

def inl : List FuncId := [240, 241, 242, 243, 343, 344, 345, 346, 347, 413, 135, 177, 255, 256, 257, 258, 259, 260, 262, 263, 136, 352, 355, 356, 415, 244, 245, 246, 247, 248, 249, 250, 251, 148, 293, 302, 377, 214]
def own : List FuncId := [154, 162, 147]
end
end Go.Abs.R29
end
