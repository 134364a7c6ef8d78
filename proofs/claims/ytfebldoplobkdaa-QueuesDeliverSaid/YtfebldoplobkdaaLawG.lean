/- What the law QueuesDeliver needs: an append that tells where its result lies; Open and Ack in its terms. -/
import Derived.Test.YtfebldoplobkdaaOpenQF
import Derived.Test.YtfebldoplobkdaaOpenNF
import Derived.Test.YtfebldoplobkdaaOpenOF
namespace Go.Proofs.Ytfebldoplobkdaa
open Go.ChangeShapes Go.WideShapes Go.ChangeAt Go.RowKit

section
variable {P : Program}
/-- append onto a row of our own: the result lies where it lay, or in a new block. -/
theorem run_append_at (w : World) (base : Nat) (t ty e : TypeId) (i : TypeInfo) (z : Value) (size bytes : Nat) (ht : P.underlying t = some (.slice e)) (hi : P.info? e = some i) (hz : i.zero = some z)
    (hsize : i.size = size) (hby : i.bytes = bytes) (hzs : z.cells.size = size) (hsz : 0 < size) (v : Value) (n : Nat) (xs : List Value) (hown : w.ownsRow base e size v n xs)
    (src : Value) (m : Nat) (hm : 0 < m) (news : List Value) (hr : Row w src size m news) (h1 : ∀ u ∈ news, u.oneCell' = true) (h63 : n + m ≤ maxLen) (hbytes : (n + m) * bytes ≤ 140737488355328) (hbase : base ≤ w.heap.size) :
    ∃ v' w', (Builtin.append_ #[t, t] ty #[v, src]).run P w = .ok v' w' ∧ w'.ownsRow base e size v' (n + m) (xs ++ news) ∧ w.grownBy w' v.ownBlock ∧ (v'.ownBlock = v.ownBlock ∨ v'.ownBlock = some w.heap.size) := by
  obtain ⟨v', w', hrun, h2, h3⟩ := run_append_row (P := P) w base t ty e i z size bytes ht hi hz hsize hby hzs hsz v n xs hown src m news hr h1 h63 hbytes hbase
  refine ⟨v', w', hrun, h2, h3, ?_⟩
  obtain ⟨ao, cap, rfl, hmc, hcap, hlen, hcell⟩ := hr
  obtain ⟨b2, o2, rfl, hb2, hc2⟩ := hcell hm
  have hc : ∀ j u, news[j]? = some u → w.cell? ((⟨b2, o2, none⟩ : Addr).add j) = some u := fun j u hu => by
    rw [Addr.add_mid]; exact hc2 j u hu
  subst hsize hby
  rcases hown.2 with ⟨rfl, rfl⟩ | ⟨g, cap', cur, rfl, hbg, hg, hnc, hcm, hcs, htake⟩
  · have hx : xs = [] := List.eq_nil_of_length_eq_zero (by simpa using hown.1)
    subst hx
    have hr2 := run_append_nil (P := P) w t ty e i z ht hi hz ⟨b2, o2, none⟩ m cap news hlen hc (by omega) (by simp only [maxLen] at h63; omega) (by simp only [Nat.zero_add] at hbytes; omega)
    rw [hr2] at hrun
    injection hrun with e1 e2
    subst e1
    exact .inr rfl
  · by_cases hroom : n + m ≤ cap'
    · have hr2 := run_append_room (P := P) w t ty e i ht hi g n cap' cur hg ⟨b2, o2, none⟩ m cap news hlen hc h1 hroom (by rw [hlen, hcs, ← Nat.add_mul]; exact Nat.mul_le_mul_right _ hroom)
      rw [hr2] at hrun
      injection hrun with e1 e2
      subst e1
      exact .inl rfl
    · have holds : ∀ j u, xs[j]? = some u → w.cell? ((⟨g, 0, none⟩ : Addr).add j) = some u := hown.cells (g := g) rfl
      have hr2 := run_append_grow (P := P) w t ty e i z ht hi hz ⟨g, 0, none⟩ n cap' xs hown.1 holds ⟨b2, o2, none⟩ m cap news hlen hc (by omega) (by simp only [maxLen] at h63; omega) (growslice_fits (by omega) hbytes)
      rw [hr2] at hrun
      injection hrun with e1 e2
      subst e1
      exact .inr rfl
end
/-- An append of events onto a row of our own. -/
theorem list_app {ops : Array Oper} {rest : List Oper} {a : Act} {w : World} {Q : Exit → Act → World → Prop} {dst : Option Tmp} {x y : Operand} {ty : TypeId} {ps : String} {af : Array Edge} (base : Nat) (v : Value) (n : Nat) (xs : List Value) (own : w.ownsRow base 37 29 v n xs)
    (src : Value) (es : List (List Value)) (he : Evs w src es) (hm : 0 < es.length) (hl : n + es.length ≤ 100000) (hb : base ≤ w.heap.size) {t t' : TypeId} {gd : Option (Tmp × Bool)} (ht : t = 22) (ht' : t' = 22) (hg : gd = none) (hx : a.eval x = v) (hy : a.eval y = src)
    (k : ∀ v' w', w'.ownsRow base 37 29 v' (n + es.length) (xs ++ es.flatten) → w.grownBy w' v.ownBlock → (v'.ownBlock = v.ownBlock ∨ v'.ownBlock = some w.heap.size) → wpList Try.prog ops Q rest (a.put dst v') w') :
    wpList Try.prog ops Q ({ dst := dst, op := .call { callee := .builtin .append, args := #[x, y], argTypes := #[t, t'] }, type := ty, pos := ps, after := af, guard := gd } :: rest) a w := by
  subst ht ht' hg
  obtain ⟨i0, hi0, hz0, hz1, hz2⟩ := info_parts zinfo
  obtain ⟨v', w', hrun, h2, h3, h4⟩ := run_append_at (P := Try.prog) w base 22 ty 37 i0 _ 29 376 Try.underlying22 hi0 hz0 hz1 hz2 rfl (by omega) v n xs own src es.length hm es.flatten he.1 he.one (by simp only [maxLen]; omega) (by omega) hb
  refine wpList_plain rfl fun K hK => ?_
  unfold Oper.wp execOp
  simp only [resolve, invoke, builtin, Sem.run_bind, Sem.run_pure, Result.andThen_ok, List.map_toArray, List.map_cons, List.map_nil, hx, hy, hrun]
  exact hK _ _ (k v' w' h2 h3 h4)

/-- A row stays when another block grows. -/
theorem Row.apart {w w' : World} {v : Value} {n : Nat} {xs : List Value} {row : Option Nat} (h : Row w v 29 n xs) (hb : w.grownBy w' row) (hne : ∀ b, row = some b → 0 < n → v.ownBlock ≠ some b) : Row w' v 29 n xs := by
  obtain ⟨ao, cap, rfl, h2, h3, h4, h5⟩ := h
  refine ⟨ao, cap, rfl, h2, h3, h4, fun hn => ?_⟩
  obtain ⟨b, off, rfl, hlt, hc⟩ := h5 hn
  refine ⟨b, off, rfl, Nat.lt_of_lt_of_le hlt hb.size, fun j u hu => ?_⟩
  have h7 := hb.block b hlt (fun e => hne b e.symm hn rfl)
  have h8 := hc j u hu
  unfold World.cell? at h8 ⊢
  simp only at h8 ⊢
  rw [h7]
  exact h8
theorem Row.blk {w : World} {v : Value} {n : Nat} {xs : List Value} (h : Row w v 29 n xs) (hn : 0 < n) : ∀ b, v.ownBlock = some b → b < w.heap.size := by
  obtain ⟨ao, cap, rfl, _, _, _, h5⟩ := h
  obtain ⟨b', off, rfl, hlt, _⟩ := h5 hn
  intro b hb
  have : b' = b := by simpa [Value.ownBlock] using hb
  omega

/-- Ack of a queue whose events are known by their numbers alone. -/
theorem qAckForm (to : ByteArray) (next fails at_ : Int) (ea oa : Option Addr) (ne ec no oc : Nat) (n : Int) (w : World) (hn : 0 ≤ next ∧ next ≤ 1000000000001) (h : 0 < no) (h2 : n = next - 1) (h3 : no ≤ oc ∧ oc ≤ 9223372036854775807) (h4 : ne ≤ ec ∧ ec ≤ 9223372036854775807) :
    Calls Try.prog 19 #[.agg #[.string to, .int .i64 next, .slice ea ne ec, .slice oa no oc, .int .i64 fails, .int .i64 at_], .int .i64 n] w fun x w' => x = .returned (.agg #[.string to, .int .i64 next, .slice ea ne ec, .slice none 0 0, .int .i64 0, .int .i64 0]) ∧ Below w.heap.size w w' := by
  obtain ⟨n1, n2⟩ := hn
  obtain ⟨hoc1, hoc2⟩ := h3
  obtain ⟨hec1, hec2⟩ := h4
  subst h2
  go_enter Try.func19, Try.ntmps19
  go_wp2_with fail
  refine bodyPost_ret (v := .agg #[.string to, .int .i64 next, .slice ea ne ec, .slice none 0 0, .int .i64 0, .int .i64 0]) (by simp [results, Try.results19, go_sem]) rfl ⟨rfl, ?_⟩
  repeat (first | exact Below.refl _ _ | refine Below.setCell ?_ (by first | omega | (simp; done) | (simp; omega)) _ | refine Below.alloc ?_ (by first | omega | (simp; done) | (simp; omega)) _)

/-- Open of a right queue from which something is to be sent: the transaction and what waits behind it. -/
theorem qSend (to : ByteArray) (next : Int) (ev op : Value) (fails at_ : Int) (now : Int) (eo ee : List (List Value)) (w0 : World) (R : Right to next ee eo fails at_) (hat : 0 < eo.length → at_ ≤ now) (hne : 0 < eo.length + ee.length) (hnx : next < 1000000000000) (he120 : ee.length ≤ 100000) :
    ∃ nN lE lO, Right to nN lE lO fails at_ ∧ 0 < lO.length ∧ lE.length ≤ ee.length ∧ lO ++ lE = eo ++ ee ∧ nN = (if 0 < eo.length then next else next + 1) ∧
      ∀ w, Below w0.heap.size w0 w → Ev0 w0 w op eo → Ev0 w0 w ev ee → Calls Try.prog 16 #[.agg #[.string to, .int .i64 next, ev, op, .int .i64 fails, .int .i64 at_], .int .i64 now] w fun x w' => ∃ v1 v2 u, x = .returned (.tuple #[.agg #[.string to, .int .i64 nN, v1, v2, .int .i64 fails, .int .i64 at_], .agg #[.string ⟨#[]⟩, .string to, .int .i64 1, .int .i64 (nN - 1), .string ⟨#[]⟩, u, .slice none 0 0, .slice none 0 0, .string ⟨#[]⟩, .int .i64 0], .bool true]) ∧
        Ev0 w0 w' v1 lE ∧ Ev0 w0 w' v2 lO ∧ Ev0 w0 w' u lO ∧ (v1 = ev ∨ Fresh w.heap.size v1) ∧ Below w.heap.size w w' := by
  have n1 := R.n1
  have n2 := R.n2
  have lo := R.lo
  by_cases h0 : 0 < eo.length
  · refine ⟨next, ee, eo, R, h0, Nat.le_refl _, rfl, by rw [if_pos h0], fun w q ho he => ?_⟩
    refine (qOpenFAgain to next ev op fails at_ now eo ee w (ho.evs q) (he.evs q) ⟨by omega, he120⟩ ⟨n1, n2⟩ h0 (hat h0)).mono ?_
    rintro x w' ⟨v1, v2, pc, rfl, g1, g2, g3, _, hb, fr⟩
    obtain ⟨u, rfl, hu⟩ := g3 rfl
    exact ⟨v1, v2, u, rfl, Ev0.of g1 he.2, Ev0.of g2 ho.2, Ev0.of hu ho.2, fr, hb⟩
  · have h1 : 0 < ee.length := by omega
    have e0 : eo = [] := List.eq_nil_of_length_eq_zero (by omega)
    have ht : takes next eo ee = true := by
      have : eo.length = 0 := by omega
      simp only [takes, this, h1, hnx, decide_true, Bool.and_true]
    have R2 := R.open_
    simp only [oN, oE, oO, ht, if_true] at R2
    refine ⟨next + 1, ee.drop 50, ee.take 50, R2, by simp; omega, by simp, by rw [e0]; simp, by rw [if_neg h0], fun w q ho he => ?_⟩
    have goal : Calls Try.prog 16 #[.agg #[.string to, .int .i64 next, ev, op, .int .i64 fails, .int .i64 at_], .int .i64 now] w (OpenPostF ev to (next + 1) fails at_ (ee.take 50) (ee.drop 50) true w) := by
      by_cases h3 : 50 < ee.length
      · exact qOpenFNew50 to next ev op fails at_ now eo ee w (ho.evs q) (he.evs q) ⟨by omega, he120⟩ ⟨n1, n2⟩ h0 h3 hnx
      · have e1 : ee.take 50 = ee := List.take_of_length_le (by omega)
        have e2 : ee.drop 50 = [] := List.drop_eq_nil_of_le (by omega)
        rw [e1, e2]
        obtain ⟨ea, ec, hev, hc1, hc2⟩ := (he.evs q).form
        by_cases hc : ec = ee.length
        · subst hc
          exact qOpenFNewTight to next ev op fails at_ now eo ee w (ho.evs q) (he.evs q) ⟨by omega, he120⟩ ⟨n1, n2⟩ ea hev h0 h1 (by omega) hnx
        · exact qOpenFNewRoom to next ev op fails at_ now eo ee w (ho.evs q) (he.evs q) ⟨by omega, he120⟩ ⟨n1, n2⟩ ea ec hev hc h0 h1 (by omega) hnx
    refine goal.mono ?_
    rintro x w' ⟨v1, v2, pc, rfl, g1, g2, g3, _, hb, fr⟩
    obtain ⟨u, rfl, hu⟩ := g3 rfl
    have kT : ∀ c ∈ ee.take 50, EvOK w0 c := fun c h => he.2 c (List.mem_of_mem_take h)
    exact ⟨v1, v2, u, rfl, Ev0.of g1 fun c h => he.2 c (List.mem_of_mem_drop h), Ev0.of g2 kT, Ev0.of hu kT, fr, hb⟩
/-- Open of an empty queue. -/
theorem qDone (to : ByteArray) (next : Int) (ev op : Value) (fails at_ : Int) (now : Int) (w0 w : World) (q : Below w0.heap.size w0 w) (ho : Ev0 w0 w op []) (he : Ev0 w0 w ev []) (hn : 0 ≤ next ∧ next ≤ 1000000000000) :
    Calls Try.prog 16 #[.agg #[.string to, .int .i64 next, ev, op, .int .i64 fails, .int .i64 at_], .int .i64 now] w fun x w' => ∃ v1 v2, x = .returned (.tuple #[.agg #[.string to, .int .i64 next, v1, v2, .int .i64 fails, .int .i64 at_], .agg #[.string ⟨#[]⟩, .string ⟨#[]⟩, .int .i64 0, .int .i64 0, .string ⟨#[]⟩, .slice none 0 0, .slice none 0 0, .slice none 0 0, .string ⟨#[]⟩, .int .i64 0], .bool false]) ∧ Ev0 w0 w' v1 [] ∧ Ev0 w0 w' v2 [] ∧ Below w.heap.size w w' := by
  refine (qOpenNone to next ev op fails at_ now [] [] w (ho.evs q) (he.evs q) (by decide) hn rfl (.inl rfl)).mono ?_
  rintro x w' ⟨v1, v2, pc, rfl, g1, g2, _, g4, hb⟩
  obtain rfl := g4 rfl
  exact ⟨v1, v2, rfl, Ev0.of g1 (fun c h => by cases h), Ev0.of g2 (fun c h => by cases h), hb⟩

theorem Right.ack {to : ByteArray} {next : Int} {ee eo : List (List Value)} {fails at_ : Int} (R : Right to next ee eo fails at_) : Right to next ee [] 0 0 :=
  ⟨R.srv, R.n1, R.n2, by omega, by omega, by omega, by omega, by simp, by have := R.ls; simp; omega, by
    have := R.nd
    rw [List.map_append] at this
    exact (List.nodup_append.1 this).2.1, fun _ => ⟨rfl, rfl⟩, fun h => by simp at h⟩
theorem below_rows {w w1 w2 : World} {b : Nat} {row : Option Nat} (q : Below b w w1) (hw : w1.grownBy w2 row) (hr : ∀ k, row = some k → b ≤ k) (hb1 : b ≤ w1.heap.size) : Below b w w2 :=
  ⟨hw.os.trans q.os, hw.tape.trans q.tape, hw.output.trans q.output, Nat.le_trans q.size hw.size, fun i hi => (hw.block i (by omega) (fun e => by have := hr i e.symm; omega)).trans (q.block i hi)⟩
theorem qSize00 (to : ByteArray) (next : Int) (ev op : Value) (fails at_ : Int) (w0 w : World) (q : Below w0.heap.size w0 w) (ho : Ev0 w0 w op []) (he : Ev0 w0 w ev []) : Calls Try.prog 24 #[.agg #[.string to, .int .i64 next, ev, op, .int .i64 fails, .int .i64 at_]] w fun x w' => x = .returned (.int .i64 0) ∧ Below w.heap.size w w' :=
  qSize to next ev op fails at_ [] [] w (ho.evs q) (he.evs q) (by decide)

/-- What holds of the sending at the head of a round: k rounds are over; sl: what is sent. -/
structure DelInv (w : World) (base : Nat) (to : ByteArray) (now : Int) (all : List (List Value)) (wantv : Value) (k : Nat) (nx fl at_ : Int) (evv opv sent : Value) (le lo sl : List (List Value)) (wr : World) : Prop where
  q : Below w.heap.size w wr
  B : Whole wr w.heap.size 24 #[.string to, .int .i64 nx, evv, opv, .int .i64 fl, .int .i64 at_]
  e : Ev0 w wr evv le
  o : Ev0 w wr opv lo
  R : Right to nx le lo fl at_
  at0 : 0 < lo.length → at_ ≤ now
  own : wr.ownsRow base 37 29 sent sl.length sl.flatten
  wb : w.heap.size < base
  bs : base ≤ wr.heap.size
  want : ∃ bw, w.heap.size < bw ∧ wr.ownsRow bw 37 29 wantv all.length all.flatten
  allok : ∀ c ∈ all, EvOK w c
  split : sl ++ (lo ++ le) = all
  cnt : k + lo.length + le.length ≤ 180
  nxk : nx ≤ 1000000 + k
  ap1 : ∀ b, sent.ownBlock = some b → 0 < le.length → evv.ownBlock ≠ some b
  ap2 : ∀ b, sent.ownBlock = some b → wantv.ownBlock ≠ some b

end Go.Proofs.Ytfebldoplobkdaa
