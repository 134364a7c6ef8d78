/- The screen of the laws on queues: light. -/
import Derived.Test.YtfebldoplobkdaaSameD
namespace Go.Proofs.Ytfebldoplobkdaa
open Go.ChangeShapes Go.WideShapes Go.ChangeAt Go.RowKit

def SomeBool (p : Prop) (w : World) (x : Ending) (w' : World) : Prop := ∃ r : Bool, x = .returned (.bool r) ∧ (r = true → p) ∧ Below w.heap.size w w'
theorem SomeBool.no {p : Prop} {w w' : World} (h : Below w.heap.size w w') : SomeBool p w (.returned (.bool false)) w' := ⟨false, rfl, by simp, h⟩
theorem SomeBool.yes {p : Prop} {w w' : World} (h : Below w.heap.size w w') (hp : p) : SomeBool p w (.returned (.bool true)) w' := ⟨true, rfl, fun _ => hp, h⟩

theorem Row.form1 {w : World} {v : Value} {size n : Nat} {xs : List Value} (h : Row w v size n xs) : ∃ ao cap, v = .slice ao n cap := let ⟨ao, cap, h, _⟩ := h; ⟨ao, cap, h⟩

set_option maxRecDepth 100000 in
set_option maxHeartbeats 1000000 in
theorem light_any (v : Value) (es : List (List Value)) (most : Int) (w : World) (h : Evs w v es) :
    Calls Try.prog 8 #[v, .int .i64 most] w (SomeBool (es.length ≤ most) w) := by
  obtain ⟨ao, cap, rfl, hl, hcap⟩ := h.form
  have q0 := Below.refl w.heap.size w
  by_cases hm : most < es.length
  · go_enter Try.func8, Try.ntmps8
    go_wp2_with fail
    go_ret
    exact SomeBool.no q0
  · go_enter Try.func8, Try.ntmps8
    go_wp2_with fail
    go_loopw [5] (fun i wr => ∃ k : Nat, k ≤ es.length ∧ i = .int .i64 k ∧ Below w.heap.size w wr) (fun i _ => es.length - (intOf i).toNat)
    case atStart => exact ⟨0, Nat.zero_le _, rfl, q0⟩
    case round =>
      clear q0
      obtain ⟨k, hk, rfl, q⟩ := hrel
      by_cases hlt : k < es.length
      · obtain ⟨b, o, rfl, hb, hr, he⟩ := h.at_ hlt
        clear h
        generalize es[k] = c at *
        obtain ⟨id, room, sender, kind, st, key, time, depth, pv, av, text, n, tg, th, via, alv, dnv, uv, kv, i1, i2, i3, i4, i5, i6, i7, hash, srv, sum, rfl, h1, h2, h3, h4, h5, h6⟩ := he
        obtain ⟨np, xp, r⟩ := h1
        obtain ⟨pa, pc, rfl⟩ := r.form1
        obtain ⟨na, xa, r⟩ := h2
        obtain ⟨aa, ac, rfl⟩ := r.form1
        obtain ⟨nl, xl, r⟩ := h3
        obtain ⟨la, lc, rfl⟩ := r.form1
        obtain ⟨nd, xd, r⟩ := h4
        obtain ⟨da, dc, rfl⟩ := r.form1
        obtain ⟨nu, xu, r⟩ := h5
        obtain ⟨ua, uc, rfl⟩ := r.form1
        obtain ⟨nk, xk, r⟩ := h6
        obtain ⟨ka, kc, rfl⟩ := r.form1
        have hcs : wr.rangeAt b (o + k * 29) [.int .i64 id, .string room, .string sender, .int .i64 kind, .bool st, .string key, .int .i64 time, .int .i64 depth, .slice pa np pc, .slice aa na ac, .string text, .int .i64 n, .int .i64 tg, .bool th, .string via, .slice la nl lc, .slice da nd dc, .slice ua nu uc, .slice ka nk kc, .int .i64 i1, .int .i64 i2, .int .i64 i3, .int .i64 i4, .int .i64 i5, .int .i64 i6, .int .i64 i7, .int .i64 hash, .string srv, .int .i64 sum] := rangeAt_on hr hb q
        have hb2 : b < wr.heap.size := Nat.lt_of_lt_of_le hb q.size
        clear hr r
        have k1 : wr.cell? ⟨b, o + k * 29 + 1, none⟩ = some (.string room) := hcs 1 _ rfl
        have k2 : wr.cell? ⟨b, o + k * 29 + 2, none⟩ = some (.string sender) := hcs 2 _ rfl
        have k5 : wr.cell? ⟨b, o + k * 29 + 5, none⟩ = some (.string key) := hcs 5 _ rfl
        have k8 : wr.cell? ⟨b, o + k * 29 + 8, none⟩ = some (.slice pa np pc) := hcs 8 _ rfl
        have k9 : wr.cell? ⟨b, o + k * 29 + 9, none⟩ = some (.slice aa na ac) := hcs 9 _ rfl
        have k10 : wr.cell? ⟨b, o + k * 29 + 10, none⟩ = some (.string text) := hcs 10 _ rfl
        have k11 : wr.cell? ⟨b, o + k * 29 + 11, none⟩ = some (.int .i64 n) := hcs 11 _ rfl
        have k12 : wr.cell? ⟨b, o + k * 29 + 12, none⟩ = some (.int .i64 tg) := hcs 12 _ rfl
        have k13 : wr.cell? ⟨b, o + k * 29 + 13, none⟩ = some (.bool th) := hcs 13 _ rfl
        have k14 : wr.cell? ⟨b, o + k * 29 + 14, none⟩ = some (.string via) := hcs 14 _ rfl
        have k15 : wr.cell? ⟨b, o + k * 29 + 15, none⟩ = some (.slice la nl lc) := hcs 15 _ rfl
        have k16 : wr.cell? ⟨b, o + k * 29 + 16, none⟩ = some (.slice da nd dc) := hcs 16 _ rfl
        have k17 : wr.cell? ⟨b, o + k * 29 + 17, none⟩ = some (.slice ua nu uc) := hcs 17 _ rfl
        have k18 : wr.cell? ⟨b, o + k * 29 + 18, none⟩ = some (.slice ka nk kc) := hcs 18 _ rfl
        have k19 : wr.cell? ⟨b, o + k * 29 + 19, none⟩ = some (.int .i64 i1) := hcs 19 _ rfl
        have k20 : wr.cell? ⟨b, o + k * 29 + 20, none⟩ = some (.int .i64 i2) := hcs 20 _ rfl
        have k21 : wr.cell? ⟨b, o + k * 29 + 21, none⟩ = some (.int .i64 i3) := hcs 21 _ rfl
        have k22 : wr.cell? ⟨b, o + k * 29 + 22, none⟩ = some (.int .i64 i4) := hcs 22 _ rfl
        have k23 : wr.cell? ⟨b, o + k * 29 + 23, none⟩ = some (.int .i64 i5) := hcs 23 _ rfl
        have k24 : wr.cell? ⟨b, o + k * 29 + 24, none⟩ = some (.int .i64 i6) := hcs 24 _ rfl
        have k25 : wr.cell? ⟨b, o + k * 29 + 25, none⟩ = some (.int .i64 i7) := hcs 25 _ rfl
        clear hcs
        go_wp2_with fail
        case roundEnd =>
          go_roundw
          case rel => exact ⟨k + 1, by omega, by go_num, q.alloc q.size _⟩
          case measure => simp [intOf]; omega
        all_goals
          go_ret
          exact SomeBool.no (q.alloc q.size _)
      · go_wp2_with fail
        go_ret
        exact SomeBool.yes q (by first | trivial | omega)
end Go.Proofs.Ytfebldoplobkdaa
