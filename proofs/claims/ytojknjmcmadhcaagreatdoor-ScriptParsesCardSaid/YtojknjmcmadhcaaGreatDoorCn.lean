/- The law ScriptParses, walked. -/
import Derived.Test.YtojknjmcmadhcaaGreatDoorCj
import Derived.Test.YtojknjmcmadhcaaGreatDoorCk
import Derived.Test.YtojknjmcmadhcaaGreatDoorCl
import Derived.Test.YtojknjmcmadhcaaGreatDoorCm

section
namespace Go.Proofs.R50
open Go.ChangeShapes Go.WideShapes Go.ChangeAt Go.RowKit

/-- What Parse answers. -/
def parseRes (s : ByteArray) : List PA × Int × Int :=
  if 20000 < s.size then ([], 0, 7) else match parseGo (splitB 10 s) 0 [] with
    | .inr k => ([], k, 10)
    | .inl ps => (ps, 0, 0)
theorem post_res {s : ByteArray} {w w' : World} {e : Ending} (h : ParsePost s w e w') : ∃ v ts, e = .returned (.tuple #[v, .int .i64 (parseRes s).2.1, .int .i64 (parseRes s).2.2]) ∧ Acts w' v ts ∧ ts.map (·.2) = (parseRes s).1 ∧ Below w.heap.size w w' := by
  unfold ParsePost at h
  unfold parseRes
  split at h
  · rename_i hl
    rw [if_pos hl]
    exact ⟨_, [], h.1, Acts.nil, rfl, h.2⟩
  · rename_i hl
    rw [if_neg hl]
    split at h
    · rename_i k hk
      rw [hk]
      exact ⟨_, [], h.1, Acts.nil, rfl, h.2⟩
    · rename_i ps hk
      rw [hk]
      obtain ⟨v, ts, h1, h2, h3, h4⟩ := h
      exact ⟨v, ts, h1, h2.acts, h3, h4⟩

set_option maxRecDepth 100000 in
set_option maxHeartbeats 2000000 in
theorem scriptParses (s : ByteArray) (w : World) : Calls Tryz.prog 3 #[.string s] w fun e w' => e = .returned (.bool true) ∧ Below w.heap.size w w' := by
  by_cases h1 : 2000 < s.size ∧ s.size ≤ 20000
  · have h2 : (2000 : Int) < s.size := by omega
    have h3 : (s.size : Int) ≤ 20000 := by omega
    have Ha := Lib.hid (awake_ok w)
    clear h1
    go_enter Tryz.func3, Tryz.ntmps3
    go_wp2_with fail
    refine Calls.mono Ha ?_
    rintro e w1 ⟨rfl, hb⟩
    have Hb := Lib.hid hb
    clear hb
    go_wp2_with fail
    go_ret
    exact ⟨rfl, Hb⟩
  · have hs : s.size ≤ 2000 ∨ 20000 < s.size := by omega
    have Hp := Lib.hid fun w => parse_all s w hs
    have Hq := Lib.hid fun w => rparse_all s w hs
    have Ha := Lib.hid awake_ok
    obtain ⟨n, hn⟩ : ∃ n, (parseRes s).2.1 = n := ⟨_, rfl⟩
    obtain ⟨k, hk⟩ : ∃ k, (parseRes s).2.2 = k := ⟨_, rfl⟩
    have Hn := Lib.hid hn
    have Hk := Lib.hid hk
    clear hs hn hk
    go_enter Tryz.func3, Tryz.ntmps3
    have Hwalk : True := trivial
    rcases Nat.lt_or_ge 2000 s.size with hl | hl
    all_goals (first | (have h2 : (2000 : Int) < s.size := by omega) | (have h2 : ¬ (2000 : Int) < s.size := by omega))
    all_goals (try (have h3 : ¬ (s.size : Int) ≤ 20000 := by omega))
    all_goals
      clear h1
      go_wp2_with fail
      refine Calls.mono ((Hp : ∀ w, _) _) ?_
      intro e w1 hp
      obtain ⟨v, ts, rfl, ha1, hm1, hb1⟩ := post_res hp
      rw [(Hn : _ = n), (Hk : _ = k)]
      obtain ⟨o1, c1, rfl, -, -⟩ := ha1.form
      have Hb1 := Lib.hid hb1
      have Ha1 := Lib.hid ha1
      have Hm1 := Lib.hid hm1
      clear hp ha1 hm1 hb1
      go_wp2_with fail
      refine Calls.mono ((Hq : ∀ w, _) _) ?_
      intro e w2 hp
      obtain ⟨v2, ts2, rfl, ha2, hm2, hb2⟩ := post_res hp
      rw [(Hn : _ = n), (Hk : _ = k)]
      obtain ⟨o2, c2, rfl, -, -⟩ := ha2.form
      have Hsm := Lib.hid (same_ok _ _ ts ts2 w2 (Acts.on Ha1 hb2) ha2 ((Hm1 : _ = _).trans hm2.symm))
      have Hb2 := Lib.hid ((Hb1 : Below w.heap.size w w1).trans (hb2.mono (Below.size Hb1)))
      clear hp ha2 hm2 hb2
      go_wp2_with fail
      refine Calls.mono Hsm ?_
      rintro e w3 ⟨rfl, hb3⟩
      have Hb3 := Lib.hid ((Hb2 : Below w.heap.size w w2).trans (hb3.mono (Below.size Hb2)))
      clear hb3
      go_wp2_with fail
      refine Calls.mono ((Ha : ∀ w, _) _) ?_
      rintro e w4 ⟨rfl, hb4⟩
      have Hb4 := Lib.hid ((Hb3 : Below w.heap.size w w3).trans (hb4.mono (Below.size Hb3)))
      clear hb4
      go_wp2_with fail
      go_ret
      exact ⟨rfl, Hb4⟩
end Go.Proofs.R50
end
