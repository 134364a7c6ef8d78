/- The screens of the laws on rooms: lists of events. -/
import Derived.Test.YtkagjfgjcbanpaaGreatCc
import Derived.OwnWalk

section
namespace Go.Proofs.R29
open Go.ChangeShapes Go.WideShapes Go.ChangeAt Go.RowKit

theorem list_load78 {ops : Array Oper} {rest : List Oper} {a : Act} {w : World} {Q : Exit → Act → World → Prop} {dst : Option Tmp} {x : Operand} {ty : TypeId} {ps : String} {af : Array Edge}
    (b o : Nat) (cs : List Value) (hr : Hid (w.rangeAt b o cs)) {t : TypeId} {gd : Option (Tmp × Bool)} (ht : t = 78) (hg : gd = none) (hl : Hid (cs.length = 29)) (hx : a.eval x = .pointer (some ⟨b, o, none⟩)) (h : wpList Tryz.prog ops Q rest (a.put dst (.agg cs.toArray)) w) :
    wpList Tryz.prog ops Q ({ dst := dst, op := .load t x, type := ty, pos := ps, after := af, guard := gd } :: rest) a w := by
  subst ht hg
  exact wpList_load_mid rfl 78 x rfl b o hx cs _ hr under78 rfl (by rw [size78, hl]) h

set_option maxRecDepth 100000 in
set_option maxHeartbeats 1000000 in
theorem great8_any (v : Value) (es : List (List Value)) (most : Int) (w : World) (h : Evs w v es) :
    Calls Tryz.prog 16 #[v, .int .i64 most] w (AnyBool (es.length ≤ most ∧ ∀ c ∈ es, Lim c) w) := by
  obtain ⟨ao, cap, rfl, hl, hcap⟩ := h.form
  have q0 := Below.refl w.heap.size w
  by_cases hm : most < es.length
  · go_enter Tryz.func16, Tryz.ntmps16
    go_wp2_with fail
    go_ret
    exact AnyBool.yes q0
  · have hm2 : (es.length : Int) ≤ most := by omega
    have Hm := Lib.hid hm2
    clear hm2
    go_enter Tryz.func16, Tryz.ntmps16
    go_wp2_with fail
    go_loopw [5] (fun i wr => ∃ k : Nat, k ≤ es.length ∧ i = .int .i64 k ∧ Below w.heap.size w wr ∧ ∀ j c, j < k → es[j]? = some c → Lim c) (fun i _ => es.length - (intOf i).toNat)
    case atStart => exact ⟨0, Nat.zero_le _, rfl, q0, fun j c hj => by omega⟩
    case round =>
      clear q0
      obtain ⟨k, hk, rfl, q, hq⟩ := hrel
      have Hq := Lib.hid hq
      clear hq
      by_cases hlt : k < es.length
      · obtain ⟨b, o, rfl, hb, hr, he⟩ := h.at_ hlt
        have hr2 := rangeAt_on hr hb q
        have he2 := he.on q
        have hlen := he.len
        have hget : es[k]? = some es[k] := by simp [hlt]
        clear h hr he
        generalize es[k] = c at *
        have Hr := Lib.hid hr2
        have He := Lib.hid he2
        have Hl := Lib.hid hlen
        have Hg := Lib.hid hget
        clear hr2 he2 hlen hget
        go_wp2_with (first | ((with_reducible refine list_load78 b (o + k * 29) c Hr ?_ ?_ Hl ?_ ?_); all_goals try rfl) | (go_at_call 51; refine (long_any c _ He).mono ?_; rintro x w' ⟨r, rfl, hr, hb2⟩))
        case roundEnd =>
          go_roundw
          case rel =>
            refine ⟨k + 1, by omega, by go_num, q.trans (hb2.mono q.size), fun j c' hj hc' => ?_⟩
            rcases Nat.lt_succ_iff_lt_or_eq.1 hj with hj | rfl
            · exact Hq j c' hj hc'
            · have : es[j]? = some c := Hg
              rw [this] at hc'
              cases hc'
              first | exact hr rfl | exact hr (by assumption) | (simp_all; done)
          case measure => simp [intOf]; omega
        all_goals
          go_ret
          exact AnyBool.yes (q.trans (hb2.mono q.size))
      · go_wp2_with fail
        go_ret
        refine AnyBool.no q ⟨Hm, fun c hc => ?_⟩
        obtain ⟨j, hj, rfl⟩ := List.getElem_of_mem hc
        exact Hq j _ (by omega) (by simp [hj])
end Go.Proofs.R29
end

/- The screens of the laws on rooms: rooms. -/
section
namespace Go.Proofs.R29
open Go.ChangeShapes Go.WideShapes Go.ChangeAt Go.RowKit

/-- A slice in whose elements (of 'size' cells) the cell r is a text. -/
def StrCol (w : World) (ao : Option Addr) (n size r : Nat) : Prop := ∀ k, k < n → ∃ b off s, ao = some ⟨b, off, none⟩ ∧ ∀ w', Below w.heap.size w w' → w'.cell? ⟨b, off + k * size + r, none⟩ = some (.string s)

def RoomOK (w : World) (cs : List Value) (es ws : List (List Value)) : Prop := ∃ (id : ByteArray) (ev : Value) (ra : Option Addr) (rn rc : Nat) (wt : Value) (ha : Option Addr) (hn hc : Nat) (sa : Option Addr) (sn sc : Nat) (nx : Int) (ca : Option Addr) (cn cc : Nat) (ta : Option Addr) (tn tc : Nat),
  cs = [.string id, ev, .slice ra rn rc, wt, .slice ha hn hc, .slice sa sn sc, .int .i64 nx, .slice ca cn cc, .slice ta tn tc] ∧ Evs w ev es ∧ Evs w wt ws ∧ StrCol w sa sn 3 1 ∧ StrCol w ca cn 4 0 ∧ StrCol w ta tn 2 0

def Small (most : Int) (es ws : List (List Value)) : Prop := (es.length ≤ most ∧ ∀ c ∈ es, Lim c) ∧ (ws.length ≤ most ∧ ∀ c ∈ ws, Lim c)

set_option maxRecDepth 100000 in
set_option maxHeartbeats 4000000 in
theorem great27_any (cs : List Value) (es ws : List (List Value)) (most : Int) (w : World) (h : RoomOK w cs es ws) :
    Calls Tryz.prog 9 #[.agg cs.toArray, .int .i64 most] w (AnyBool (Small most es ws) w) := by
  obtain ⟨id, ev, ra, rn, rc, wt, ha, hn, hc, sa, sn, sc, nx, ca, cn, cc, ta, tn, tc, rfl, hev, hwt, hs, hct, ht⟩ := h
  have Hev := Lib.hid hev
  have Hwt := Lib.hid hwt
  have Hs := Lib.hid hs
  have Hc := Lib.hid hct
  have Ht := Lib.hid ht
  clear hev hwt hs hct ht
  have q0 : Below w.heap.size w (w.alloc (.cells #[.string id, ev, .slice ra rn rc, wt, .slice ha hn hc, .slice sa sn sc, .int .i64 nx, .slice ca cn cc, .slice ta tn tc] 30)) := (Below.refl w.heap.size w).alloc (Nat.le_refl _) _
  have hnew : (w.alloc (.cells #[.string id, ev, .slice ra rn rc, wt, .slice ha hn hc, .slice sa sn sc, .int .i64 nx, .slice ca cn cc, .slice ta tn tc] 30)).heap[w.heap.size]? = some (.cells #[.string id, ev, .slice ra rn rc, wt, .slice ha hn hc, .slice sa sn sc, .int .i64 nx, .slice ca cn cc, .slice ta tn tc] 30 (0, 0)) := heap_alloc_new w _
  have bx : ∀ w', Below (w.alloc (.cells #[.string id, ev, .slice ra rn rc, wt, .slice ha hn hc, .slice sa sn sc, .int .i64 nx, .slice ca cn cc, .slice ta tn tc] 30)).heap.size (w.alloc (.cells #[.string id, ev, .slice ra rn rc, wt, .slice ha hn hc, .slice sa sn sc, .int .i64 nx, .slice ca cn cc, .slice ta tn tc] 30)) w' → w'.cell? ⟨w.heap.size, 0, none⟩ = some (.string id) ∧ w'.cell? ⟨w.heap.size, 1, none⟩ = some (ev) ∧ w'.cell? ⟨w.heap.size, 2, none⟩ = some (.slice ra rn rc) ∧ w'.cell? ⟨w.heap.size, 3, none⟩ = some (wt) ∧ w'.cell? ⟨w.heap.size, 4, none⟩ = some (.slice ha hn hc) ∧ w'.cell? ⟨w.heap.size, 5, none⟩ = some (.slice sa sn sc) ∧ w'.cell? ⟨w.heap.size, 7, none⟩ = some (.slice ca cn cc) ∧ w'.cell? ⟨w.heap.size, 8, none⟩ = some (.slice ta tn tc) := fun w' hb => by
    have hb' : w'.heap[w.heap.size]? = some (.cells #[.string id, ev, .slice ra rn rc, wt, .slice ha hn hc, .slice sa sn sc, .int .i64 nx, .slice ca cn cc, .slice ta tn tc] 30 (0, 0)) := (hb.block _ (by simp)).trans hnew
    refine ⟨?_, ?_, ?_, ?_, ?_, ?_, ?_, ?_⟩ <;> (simp [World.cell?, hb'])
  have Bx := Lib.hid bx
  have Q0 := Lib.hid q0
  have hev0 : Evs (w.alloc (.cells #[.string id, ev, .slice ra rn rc, wt, .slice ha hn hc, .slice sa sn sc, .int .i64 nx, .slice ca cn cc, .slice ta tn tc] 30)) ev es := Evs.on Hev (q0.mono (Nat.le_refl _))
  have Hev0 := Lib.hid hev0
  clear bx q0 hnew hev0
  go_enter Tryz.func9, Tryz.ntmps9
  go_wp2_with fail
  refine (great8_any _ es most _ Hev0).mono ?_
  rintro x w2 ⟨r, rfl, hr, hb2⟩
  have Hr := Lib.hid hr
  obtain ⟨c0, c1, c2, c3, c4, c5, c7, c8⟩ := (Bx : ∀ w', Below (w.alloc (.cells #[.string id, ev, .slice ra rn rc, wt, .slice ha hn hc, .slice sa sn sc, .int .i64 nx, .slice ca cn cc, .slice ta tn tc] 30)).heap.size (w.alloc (.cells #[.string id, ev, .slice ra rn rc, wt, .slice ha hn hc, .slice sa sn sc, .int .i64 nx, .slice ca cn cc, .slice ta tn tc] 30)) w' → _) w2 hb2
  have q2 : Below w.heap.size w w2 := Below.trans Q0 (hb2.mono (by simp))
  have hwt2 : Evs w2 wt ws := Evs.on Hwt q2
  have Hwt2 := Lib.hid hwt2
  have Hb2 := Lib.hid hb2
  have Q2 := Lib.hid q2
  clear hr hwt2 hb2 q2
  generalize (w.alloc (.cells #[.string id, ev, .slice ra rn rc, wt, .slice ha hn hc, .slice sa sn sc, .int .i64 nx, .slice ca cn cc, .slice ta tn tc] 30)) = w1 at *
  cases r with
  | true =>
    go_wp2_with fail
    go_ret
    exact AnyBool.yes Q2
  | false =>
  go_wp2_with fail
  refine (great8_any _ ws most _ Hwt2).mono ?_
  clear c0 c1 c2 c3 c4 c5 c7 c8
  rintro x w3 ⟨r2, rfl, hr2, hb3⟩
  have Hp : Hid (r2 = false → Small most es ws) := fun e2 => ⟨Hr (by trivial), hr2 e2⟩
  have q3 : Below w1.heap.size w1 w3 := Below.trans Hb2 (hb3.mono (Below.size Hb2))
  obtain ⟨c0, c1, c2, c3, c4, c5, c7, c8⟩ := Bx w3 q3
  have q : Below w.heap.size w w3 := Below.trans Q2 (hb3.mono (Below.size Q2))
  clear hr2 hb3 q3 Hr Hb2 Q2 Bx Hev Hwt Hev0 Hwt2
  have Q := Lib.hid q
  cases r2 with
  | true =>
    go_wp2_with fail
    go_ret
    exact AnyBool.yes Q
  | false =>
  go_wp2_with fail
  all_goals (first | (go_ret; exact AnyBool.yes Q) | skip)
  go_loopw [5] (fun i wr => ∃ k : Nat, k ≤ sn ∧ i = .int .i64 k ∧ Below w.heap.size w wr ∧ wr.cell? ⟨w.heap.size, 0, none⟩ = some (.string id) ∧ wr.cell? ⟨w.heap.size, 1, none⟩ = some (ev) ∧ wr.cell? ⟨w.heap.size, 2, none⟩ = some (.slice ra rn rc) ∧ wr.cell? ⟨w.heap.size, 3, none⟩ = some (wt) ∧ wr.cell? ⟨w.heap.size, 4, none⟩ = some (.slice ha hn hc) ∧ wr.cell? ⟨w.heap.size, 5, none⟩ = some (.slice sa sn sc) ∧ wr.cell? ⟨w.heap.size, 7, none⟩ = some (.slice ca cn cc) ∧ wr.cell? ⟨w.heap.size, 8, none⟩ = some (.slice ta tn tc)) (fun i _ => sn - (intOf i).toNat)
  case atStart => exact ⟨0, Nat.zero_le _, rfl, q, c0, c1, c2, c3, c4, c5, c7, c8⟩
  case round =>
    clear c0 c1 c2 c3 c4 c5 c7 c8 q
    obtain ⟨k, hk, rfl, q, c0, c1, c2, c3, c4, c5, c7, c8⟩ := hrel
    by_cases hlt : k < sn
    · obtain ⟨b, off, s, e, hs⟩ := Hs k hlt
      have hc := hs wr q
      clear hs
      try simp only [Nat.add_zero] at hc
      subst e
      go_wp2_with fail
      case roundEnd =>
        go_roundw
        case rel => exact ⟨k + 1, by omega, by go_num, q, c0, c1, c2, c3, c4, c5, c7, c8⟩
        case measure => simp [intOf]; omega
      all_goals
        go_ret
        exact AnyBool.yes q
    · go_wp2_with fail
      generalize wr = w2 at *
      go_loopw [6] (fun i wr => ∃ k : Nat, k ≤ cn ∧ i = .int .i64 k ∧ Below w.heap.size w wr ∧ wr.cell? ⟨w.heap.size, 0, none⟩ = some (.string id) ∧ wr.cell? ⟨w.heap.size, 1, none⟩ = some (ev) ∧ wr.cell? ⟨w.heap.size, 2, none⟩ = some (.slice ra rn rc) ∧ wr.cell? ⟨w.heap.size, 3, none⟩ = some (wt) ∧ wr.cell? ⟨w.heap.size, 4, none⟩ = some (.slice ha hn hc) ∧ wr.cell? ⟨w.heap.size, 5, none⟩ = some (.slice sa sn sc) ∧ wr.cell? ⟨w.heap.size, 7, none⟩ = some (.slice ca cn cc) ∧ wr.cell? ⟨w.heap.size, 8, none⟩ = some (.slice ta tn tc)) (fun i _ => cn - (intOf i).toNat)
      case atStart => exact ⟨0, Nat.zero_le _, rfl, q, c0, c1, c2, c3, c4, c5, c7, c8⟩
      case round =>
        clear c0 c1 c2 c3 c4 c5 c7 c8 q
        obtain ⟨k, hk, rfl, q, c0, c1, c2, c3, c4, c5, c7, c8⟩ := hrel
        by_cases hlt : k < cn
        · obtain ⟨b, off, s, e, hs⟩ := Hc k hlt
          have hc := hs wr q
          clear hs
          try simp only [Nat.add_zero] at hc
          subst e
          go_wp2_with fail
          case roundEnd =>
            go_roundw
            case rel => exact ⟨k + 1, by omega, by go_num, q, c0, c1, c2, c3, c4, c5, c7, c8⟩
            case measure => simp [intOf]; omega
          all_goals
            go_ret
            exact AnyBool.yes q
        · go_wp2_with fail
          generalize wr = w2 at *
          go_loopw [7] (fun i wr => ∃ k : Nat, k ≤ tn ∧ i = .int .i64 k ∧ Below w.heap.size w wr ∧ wr.cell? ⟨w.heap.size, 0, none⟩ = some (.string id) ∧ wr.cell? ⟨w.heap.size, 1, none⟩ = some (ev) ∧ wr.cell? ⟨w.heap.size, 2, none⟩ = some (.slice ra rn rc) ∧ wr.cell? ⟨w.heap.size, 3, none⟩ = some (wt) ∧ wr.cell? ⟨w.heap.size, 4, none⟩ = some (.slice ha hn hc) ∧ wr.cell? ⟨w.heap.size, 5, none⟩ = some (.slice sa sn sc) ∧ wr.cell? ⟨w.heap.size, 7, none⟩ = some (.slice ca cn cc) ∧ wr.cell? ⟨w.heap.size, 8, none⟩ = some (.slice ta tn tc)) (fun i _ => tn - (intOf i).toNat)
          case atStart => exact ⟨0, Nat.zero_le _, rfl, q, c0, c1, c2, c3, c4, c5, c7, c8⟩
          case round =>
            clear c0 c1 c2 c3 c4 c5 c7 c8 q
            obtain ⟨k, hk, rfl, q, c0, c1, c2, c3, c4, c5, c7, c8⟩ := hrel
            by_cases hlt : k < tn
            · obtain ⟨b, off, s, e, hs⟩ := Ht k hlt
              have hc := hs wr q
              clear hs
              try simp only [Nat.add_zero] at hc
              subst e
              go_wp2_with fail
              case roundEnd =>
                go_roundw
                case rel => exact ⟨k + 1, by omega, by go_num, q, c0, c1, c2, c3, c4, c5, c7, c8⟩
                case measure => simp [intOf]; omega
              all_goals
                go_ret
                exact AnyBool.yes q
            · go_wp2_with fail
              go_ret
              exact AnyBool.no q (Hp (by trivial))
end Go.Proofs.R29
end
