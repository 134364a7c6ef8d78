/- The screens of the laws on rooms: an event that is too long. -/
import Derived.Test.YtkagjfgjcbanpaaGreatCb

section
namespace Go.Proofs.R29
open Go.ChangeShapes Go.WideShapes Go.ChangeAt Go.RowKit

/-- Some bool; where it is false, p. -/
def AnyBool (p : Prop) (w : World) (x : Ending) (w' : World) : Prop := ∃ r : Bool, x = .returned (.bool r) ∧ (r = false → p) ∧ Below w.heap.size w w'
theorem AnyBool.yes {p : Prop} {w w' : World} (h : Below w.heap.size w w') : AnyBool p w (.returned (.bool true)) w' := ⟨true, rfl, by simp, h⟩
theorem AnyBool.no {p : Prop} {w w' : World} (h : Below w.heap.size w w') (hp : p) : AnyBool p w (.returned (.bool false)) w' := ⟨false, rfl, fun _ => hp, h⟩

/-- The lists of references are short. -/
def Lim (cs : List Value) : Prop := ∀ a n c, (cs[8]? = some (.slice a n c) ∨ cs[9]? = some (.slice a n c)) → n ≤ 40

theorem Row.len {w : World} {v : Value} {size n : Nat} {xs : List Value} (h : Row w v size n xs) : xs.length = n * size := by
  obtain ⟨_, _, _, _, _, h, _⟩ := h
  exact h

/-- A cell of a row. -/
theorem Row.cellAt {w : World} {ao : Option Addr} {n cap size : Nat} {xs : List Value} (h : Row w (.slice ao n cap) size n xs) {j : Nat} {u : Value} (hu : xs[j]? = some u) :
    ∃ b off, ao = some ⟨b, off, none⟩ ∧ b < w.heap.size ∧ ∀ w', Below w.heap.size w w' → w'.cell? ⟨b, off + j, none⟩ = some u := by
  obtain ⟨ao', cap', e, _, _, hl, h5⟩ := h
  cases e
  have hn : 0 < n := by
    have := (List.getElem?_eq_some_iff.1 hu).1
    rcases Nat.eq_zero_or_pos n with q | q
    · subst q; rw [hl] at this; omega
    · exact q
  obtain ⟨b, off, e, hb, hc⟩ := h5 hn
  exact ⟨b, off, e, hb, fun w' q => (q.cell (p := ⟨b, off + j, none⟩) hb).trans (hc j u hu)⟩

theorem flatMap_pairs_length {α : Type} (f g : α → Value) : ∀ (xs : List α), (xs.flatMap fun p => [f p, g p]).length = xs.length * 2
  | [] => rfl
  | x :: xs => by rw [List.flatMap_cons, List.length_append, flatMap_pairs_length f g xs, List.length_cons]; simp; omega

theorem flatMap_pair {α : Type} (f g : α → Value) : ∀ (xs : List α) (k : Nat) (x : α), xs[k]? = some x → (xs.flatMap fun p => [f p, g p])[k * 2]? = some (f x)
  | [], k, x, h => by simp at h
  | y :: ys, 0, x, h => by simp at h; subst h; simp
  | y :: ys, k + 1, x, h => by
    have := flatMap_pair f g ys k x (by simpa using h)
    rw [List.flatMap_cons, Nat.add_mul]
    simpa using this

set_option maxRecDepth 100000 in
set_option maxHeartbeats 4000000 in
theorem long_any (cs : List Value) (w : World) (he : EvOK w cs) : Calls Tryz.prog 51 #[.agg cs.toArray] w (AnyBool (Lim cs) w) := by
  obtain ⟨id, room, sender, kind, st, key, time, depth, pv, av, text, n, tg, th, via, alv, dnv, uv, kv, i1, i2, i3, i4, i5, i6, i7, hash, srv, sum, rfl, h1, h2, h3, h4, h5, h6⟩ := he
  obtain ⟨np, xp, rp⟩ := h1
  obtain ⟨pa, pc, rfl⟩ := rp.form1
  obtain ⟨na, xa, ra⟩ := h2
  obtain ⟨aa, ac, rfl⟩ := ra.form1
  obtain ⟨nl, xl, rl⟩ := h3
  obtain ⟨la, lc, rfl⟩ := rl.form1
  obtain ⟨nd, xd, rd⟩ := h4
  obtain ⟨da, dc, rfl⟩ := rd.form1
  obtain ⟨nu, xu, ru⟩ := h5
  obtain ⟨ua, uc, rfl⟩ := ru.form1
  obtain ⟨nk, xk, rk⟩ := h6
  obtain ⟨ka, kc, rfl⟩ := rk.form1
  clear rp ra rk
  have hl : xl.length = nl := by have := rl.len; simpa using this
  have hd : xd.length = nd := by have := rd.len; simpa using this
  have hu : xu.length = nu := by
    have := ru.len
    rw [flatMap_pairs_length] at this
    omega
  have al : ∀ k, k < nl → ∃ b off s, la = some ⟨b, off, none⟩ ∧ ∀ w', Below w.heap.size w w' → w'.cell? ⟨b, off + k, none⟩ = some (.string s) := fun k hk => by
    obtain ⟨b, off, e, _, h⟩ := rl.cellAt (j := k) (u := .string xl[k]) (by simp [hl, hk])
    exact ⟨b, off, _, e, h⟩
  have ad : ∀ k, k < nd → ∃ b off s, da = some ⟨b, off, none⟩ ∧ ∀ w', Below w.heap.size w w' → w'.cell? ⟨b, off + k, none⟩ = some (.string s) := fun k hk => by
    obtain ⟨b, off, e, _, h⟩ := rd.cellAt (j := k) (u := .string xd[k]) (by simp [hd, hk])
    exact ⟨b, off, _, e, h⟩
  have au : ∀ k, k < nu → ∃ b off s, ua = some ⟨b, off, none⟩ ∧ ∀ w', Below w.heap.size w w' → w'.cell? ⟨b, off + k * 2, none⟩ = some (.string s) := fun k hk => by
    obtain ⟨b, off, e, _, h⟩ := ru.cellAt (j := k * 2) (u := .string xu[k].1) (flatMap_pair (fun p => .string p.1) (fun p => .int .i64 p.2) xu k xu[k] (by simp [hu, hk]))
    exact ⟨b, off, _, e, h⟩
  clear rl rd ru hl hd hu
  have q0 : Below w.heap.size w ((w.alloc (.cells #[.int .i64 id, .string room, .string sender, .int .i64 kind, .bool st, .string key, .int .i64 time, .int .i64 depth, .slice pa np pc, .slice aa na ac, .string text, .int .i64 n, .int .i64 tg, .bool th, .string via, .slice la nl lc, .slice da nd dc, .slice ua nu uc, .slice ka nk kc, .int .i64 i1, .int .i64 i2, .int .i64 i3, .int .i64 i4, .int .i64 i5, .int .i64 i6, .int .i64 i7, .int .i64 hash, .string srv, .int .i64 sum] 78)).alloc (.cells #[.string text, .int .i64 n, .int .i64 tg, .bool th, .string via, .slice la nl lc, .slice da nd dc, .slice ua nu uc, .slice ka nk kc, .int .i64 i1, .int .i64 i2, .int .i64 i3, .int .i64 i4, .int .i64 i5, .int .i64 i6, .int .i64 i7] 74)) := ((Below.refl w.heap.size w).alloc (Nat.le_refl _) _).alloc (by simp) _
  have hlim : (np : Int) ≤ 40 → (na : Int) ≤ 40 → Lim [.int .i64 id, .string room, .string sender, .int .i64 kind, .bool st, .string key, .int .i64 time, .int .i64 depth, .slice pa np pc, .slice aa na ac, .string text, .int .i64 n, .int .i64 tg, .bool th, .string via, .slice la nl lc, .slice da nd dc, .slice ua nu uc, .slice ka nk kc, .int .i64 i1, .int .i64 i2, .int .i64 i3, .int .i64 i4, .int .i64 i5, .int .i64 i6, .int .i64 i7, .int .i64 hash, .string srv, .int .i64 sum] := fun q1 q2 a m c h => by
    simp at h
    rcases h with ⟨_, h, _⟩ | ⟨_, h, _⟩ <;> omega
  have Al := Lib.hid al
  have Ad := Lib.hid ad
  have Au := Lib.hid au
  have Hlim := Lib.hid hlim
  have Q0 := Lib.hid q0
  clear al ad au hlim q0
  go_enter Tryz.func51, Tryz.ntmps51
  go_wp2_with fail
  all_goals (first | (go_ret; exact AnyBool.yes Q0) | skip)
  have c5 : ((w.alloc (.cells #[.int .i64 id, .string room, .string sender, .int .i64 kind, .bool st, .string key, .int .i64 time, .int .i64 depth, .slice pa np pc, .slice aa na ac, .string text, .int .i64 n, .int .i64 tg, .bool th, .string via, .slice la nl lc, .slice da nd dc, .slice ua nu uc, .slice ka nk kc, .int .i64 i1, .int .i64 i2, .int .i64 i3, .int .i64 i4, .int .i64 i5, .int .i64 i6, .int .i64 i7, .int .i64 hash, .string srv, .int .i64 sum] 78)).alloc (.cells #[.string text, .int .i64 n, .int .i64 tg, .bool th, .string via, .slice la nl lc, .slice da nd dc, .slice ua nu uc, .slice ka nk kc, .int .i64 i1, .int .i64 i2, .int .i64 i3, .int .i64 i4, .int .i64 i5, .int .i64 i6, .int .i64 i7] 74)).cell? ⟨w.heap.size + 1, 5, none⟩ = some (.slice la nl lc) := by go_simp
  have c6 : ((w.alloc (.cells #[.int .i64 id, .string room, .string sender, .int .i64 kind, .bool st, .string key, .int .i64 time, .int .i64 depth, .slice pa np pc, .slice aa na ac, .string text, .int .i64 n, .int .i64 tg, .bool th, .string via, .slice la nl lc, .slice da nd dc, .slice ua nu uc, .slice ka nk kc, .int .i64 i1, .int .i64 i2, .int .i64 i3, .int .i64 i4, .int .i64 i5, .int .i64 i6, .int .i64 i7, .int .i64 hash, .string srv, .int .i64 sum] 78)).alloc (.cells #[.string text, .int .i64 n, .int .i64 tg, .bool th, .string via, .slice la nl lc, .slice da nd dc, .slice ua nu uc, .slice ka nk kc, .int .i64 i1, .int .i64 i2, .int .i64 i3, .int .i64 i4, .int .i64 i5, .int .i64 i6, .int .i64 i7] 74)).cell? ⟨w.heap.size + 1, 6, none⟩ = some (.slice da nd dc) := by go_simp
  have c7 : ((w.alloc (.cells #[.int .i64 id, .string room, .string sender, .int .i64 kind, .bool st, .string key, .int .i64 time, .int .i64 depth, .slice pa np pc, .slice aa na ac, .string text, .int .i64 n, .int .i64 tg, .bool th, .string via, .slice la nl lc, .slice da nd dc, .slice ua nu uc, .slice ka nk kc, .int .i64 i1, .int .i64 i2, .int .i64 i3, .int .i64 i4, .int .i64 i5, .int .i64 i6, .int .i64 i7, .int .i64 hash, .string srv, .int .i64 sum] 78)).alloc (.cells #[.string text, .int .i64 n, .int .i64 tg, .bool th, .string via, .slice la nl lc, .slice da nd dc, .slice ua nu uc, .slice ka nk kc, .int .i64 i1, .int .i64 i2, .int .i64 i3, .int .i64 i4, .int .i64 i5, .int .i64 i6, .int .i64 i7] 74)).cell? ⟨w.heap.size + 1, 7, none⟩ = some (.slice ua nu uc) := by go_simp
  have q0 : Below w.heap.size w ((w.alloc (.cells #[.int .i64 id, .string room, .string sender, .int .i64 kind, .bool st, .string key, .int .i64 time, .int .i64 depth, .slice pa np pc, .slice aa na ac, .string text, .int .i64 n, .int .i64 tg, .bool th, .string via, .slice la nl lc, .slice da nd dc, .slice ua nu uc, .slice ka nk kc, .int .i64 i1, .int .i64 i2, .int .i64 i3, .int .i64 i4, .int .i64 i5, .int .i64 i6, .int .i64 i7, .int .i64 hash, .string srv, .int .i64 sum] 78)).alloc (.cells #[.string text, .int .i64 n, .int .i64 tg, .bool th, .string via, .slice la nl lc, .slice da nd dc, .slice ua nu uc, .slice ka nk kc, .int .i64 i1, .int .i64 i2, .int .i64 i3, .int .i64 i4, .int .i64 i5, .int .i64 i6, .int .i64 i7] 74)) := Q0
  clear Q0
  generalize ((w.alloc (.cells #[.int .i64 id, .string room, .string sender, .int .i64 kind, .bool st, .string key, .int .i64 time, .int .i64 depth, .slice pa np pc, .slice aa na ac, .string text, .int .i64 n, .int .i64 tg, .bool th, .string via, .slice la nl lc, .slice da nd dc, .slice ua nu uc, .slice ka nk kc, .int .i64 i1, .int .i64 i2, .int .i64 i3, .int .i64 i4, .int .i64 i5, .int .i64 i6, .int .i64 i7, .int .i64 hash, .string srv, .int .i64 sum] 78)).alloc (.cells #[.string text, .int .i64 n, .int .i64 tg, .bool th, .string via, .slice la nl lc, .slice da nd dc, .slice ua nu uc, .slice ka nk kc, .int .i64 i1, .int .i64 i2, .int .i64 i3, .int .i64 i4, .int .i64 i5, .int .i64 i6, .int .i64 i7] 74)) = w1 at *
  go_loopw [4] (fun i wr => ∃ k : Nat, k ≤ nl ∧ i = .int .i64 k ∧ Below w.heap.size w wr ∧ wr.cell? ⟨w.heap.size + 1, 5, none⟩ = some (.slice la nl lc) ∧ wr.cell? ⟨w.heap.size + 1, 6, none⟩ = some (.slice da nd dc) ∧ wr.cell? ⟨w.heap.size + 1, 7, none⟩ = some (.slice ua nu uc)) (fun i _ => nl - (intOf i).toNat)
  case atStart => exact ⟨0, Nat.zero_le _, rfl, q0, c5, c6, c7⟩
  case round =>
    clear c5 c6 c7 q0
    obtain ⟨k, hk, rfl, q, c5, c6, c7⟩ := hrel
    by_cases hlt : k < nl
    · obtain ⟨b, off, s, e, hs⟩ := Al k hlt
      have hc := hs wr q
      clear hs
      subst e
      go_wp2_with fail
      case roundEnd =>
        go_roundw
        case rel => exact ⟨k + 1, by omega, by go_num, q, c5, c6, c7⟩
        case measure => simp [intOf]; omega
      all_goals
        go_ret
        exact AnyBool.yes q
    · go_wp2_with fail
      generalize wr = w2 at *
      go_loopw [5] (fun i wr => ∃ k : Nat, k ≤ nd ∧ i = .int .i64 k ∧ Below w.heap.size w wr ∧ wr.cell? ⟨w.heap.size + 1, 5, none⟩ = some (.slice la nl lc) ∧ wr.cell? ⟨w.heap.size + 1, 6, none⟩ = some (.slice da nd dc) ∧ wr.cell? ⟨w.heap.size + 1, 7, none⟩ = some (.slice ua nu uc)) (fun i _ => nd - (intOf i).toNat)
      case atStart => exact ⟨0, Nat.zero_le _, rfl, q, c5, c6, c7⟩
      case round =>
        clear c5 c6 c7 q
        obtain ⟨k, hk, rfl, q, c5, c6, c7⟩ := hrel
        by_cases hlt : k < nd
        · obtain ⟨b, off, s, e, hs⟩ := Ad k hlt
          have hc := hs wr q
          clear hs
          subst e
          go_wp2_with fail
          case roundEnd =>
            go_roundw
            case rel => exact ⟨k + 1, by omega, by go_num, q, c5, c6, c7⟩
            case measure => simp [intOf]; omega
          all_goals
            go_ret
            exact AnyBool.yes q
        · go_wp2_with fail
          generalize wr = w2 at *
          go_loopw [6] (fun i wr => ∃ k : Nat, k ≤ nu ∧ i = .int .i64 k ∧ Below w.heap.size w wr ∧ wr.cell? ⟨w.heap.size + 1, 5, none⟩ = some (.slice la nl lc) ∧ wr.cell? ⟨w.heap.size + 1, 6, none⟩ = some (.slice da nd dc) ∧ wr.cell? ⟨w.heap.size + 1, 7, none⟩ = some (.slice ua nu uc)) (fun i _ => nu - (intOf i).toNat)
          case atStart => exact ⟨0, Nat.zero_le _, rfl, q, c5, c6, c7⟩
          case round =>
            clear c5 c6 c7 q
            obtain ⟨k, hk, rfl, q, c5, c6, c7⟩ := hrel
            by_cases hlt : k < nu
            · obtain ⟨b, off, s, e, hs⟩ := Au k hlt
              have hc := hs wr q
              clear hs
              subst e
              go_wp2_with fail
              case roundEnd =>
                go_roundw
                case rel => exact ⟨k + 1, by omega, by go_num, q, c5, c6, c7⟩
                case measure => simp [intOf]; omega
              all_goals
                go_ret
                exact AnyBool.yes q
            · go_wp2_with fail
              go_ret
              exact AnyBool.no q (Hlim (by omega) (by omega))
end Go.Proofs.R29
end
