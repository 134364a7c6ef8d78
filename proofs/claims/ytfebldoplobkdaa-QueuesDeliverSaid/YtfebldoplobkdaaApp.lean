/- append on rows of cells; what it leaves in a region that draws its order. -/
import Derived.Test.YtfebldoplobkdaaSameD
import Derived.Maps.AppendAt
import Derived.OwnWalk
namespace Go.Proofs.Ytfebldoplobkdaa
open Go.ChangeShapes Go.WideShapes Go.ChangeAt Go.RowKit

section
variable {P : Program}

theorem run_append_row (w : World) (base : Nat) (t ty e : TypeId) (i : TypeInfo) (z : Value) (size bytes : Nat) (ht : P.underlying t = some (.slice e)) (hi : P.info? e = some i) (hz : i.zero = some z)
    (hsize : i.size = size) (hby : i.bytes = bytes) (hzs : z.cells.size = size) (hsz : 0 < size) (v : Value) (n : Nat) (xs : List Value) (hown : w.ownsRow base e size v n xs)
    (src : Value) (m : Nat) (news : List Value) (hr : Row w src size m news) (h1 : ∀ u ∈ news, u.oneCell' = true) (h63 : n + m ≤ maxLen) (hbytes : (n + m) * bytes ≤ 140737488355328) (hbase : base ≤ w.heap.size) :
    ∃ v' w', (Builtin.append_ #[t, t] ty #[v, src]).run P w = .ok v' w' ∧ w'.ownsRow base e size v' (n + m) (xs ++ news) ∧ w.grownBy w' v.ownBlock := by
  obtain ⟨ao, cap, rfl, hmc, hcap, hlen, hcell⟩ := hr
  cases ao with
  | none =>
    have hm : m = 0 := by
      rcases Nat.eq_zero_or_pos m with h | h
      · exact h
      · obtain ⟨b, off, h, _⟩ := hcell h
        cases h
    subst hm
    have hn : news = [] := List.eq_nil_of_length_eq_zero (by simpa using hlen)
    subst hn
    refine ⟨v, w, ?_, by simpa using hown, World.grownBy.refl w _⟩
    rcases hown.2 with ⟨rfl, rfl⟩ | ⟨g, cap', cur, rfl, _, _, hnc, _⟩
    · simp [Builtin.append_, run_underlying ht, sizeOf, typeInfo, hi, Builtin.lenOf, Builtin.firstCells]
    · simp [Builtin.append_, run_underlying ht, sizeOf, typeInfo, hi, Builtin.lenOf, Builtin.firstCells, hnc, storeCells]
  | some a =>
    have hc : ∀ j u, news[j]? = some u → w.cell? (a.add j) = some u := fun j u hu => by
      have hm : 0 < m := by
        rcases Nat.eq_zero_or_pos m with h | h
        · subst h
          have : news = [] := List.eq_nil_of_length_eq_zero (by simpa using hlen)
          subst this
          simp at hu
        · exact h
      obtain ⟨b, off, h, _, hc⟩ := hcell hm
      obtain rfl : a = ⟨b, off, none⟩ := by injection h
      rw [Addr.add_mid]
      exact hc j u hu
    obtain ⟨v', w', h2, h3, h4, _⟩ := run_append_own (P := P) w base t ty e i z size bytes ht hi hz hsize hby hzs hsz v n xs hown a m cap news hlen hc h1 h63 hbytes hbase
    exact ⟨v', w', h2, h3, h4⟩

theorem leaves_value {o : Oper} {a : Act} {W w w' : World} {row : Option Nat} {G : Value → World → Prop} {u : Value} (h : (execOp a.eval o).run P w = .ok (.value u) w') (hg : W.grownBy w' row) (hG : G u w') : Leaves P o a W w row G := by
  unfold Leaves
  rw [h]
  exact ⟨hg, hG⟩

/-- An append, as a special operation. -/
theorem leaves_append {o : Oper} {a : Act} {W w : World} {G : Value → World → Prop} (s x : Operand) (base : Nat) (t e : TypeId) (i : TypeInfo) (z : Value) (size bytes : Nat) (ho : o.op = .call { callee := .builtin .append, args := #[s, x], argTypes := #[t, t] })
    (ht : P.underlying t = some (.slice e)) (hi : P.info? e = some i) (hz : i.zero = some z)
    (hsize : i.size = size) (hby : i.bytes = bytes) (hzs : z.cells.size = size) (hsz : 0 < size) (v : Value) (n : Nat) (xs : List Value) (hs : a.eval s = v) (hown : w.ownsRow base e size v n xs)
    (src : Value) (m : Nat) (news : List Value) (hx : a.eval x = src) (hr : Row w src size m news) (h1 : ∀ u ∈ news, u.oneCell' = true) (h63 : n + m ≤ maxLen) (hbytes : (n + m) * bytes ≤ 140737488355328) (hW : W.grownBy w none) (hbase : W.heap.size ≤ base) (hbase' : base ≤ w.heap.size)
    (h : ∀ v' w', w'.ownsRow base e size v' (n + m) (xs ++ news) → w.grownBy w' v.ownBlock → W.grownBy w' none → G v' w') : Leaves P o a W w none G := by
  obtain ⟨v', w', hrun, h2, h3⟩ := run_append_row (P := P) w base t o.type e i z size bytes ht hi hz hsize hby hzs hsz v n xs hown src m news hr h1 h63 hbytes hbase'
  have hg : W.grownBy w' none := ⟨h3.os.trans hW.os, h3.tape.trans hW.tape, h3.output.trans hW.output, Nat.le_trans hW.size h3.size, fun k hk hr => (h3.block k (Nat.lt_of_lt_of_le hk hW.size) (fun e => by
    have := (hown.lt k e.symm).1
    omega)).trans (hW.block k hk hr)⟩
  unfold Leaves execOp
  simp only [ho, resolve, invoke, builtin, Sem.run_bind, Sem.run_pure, Result.andThen_ok, List.map_toArray, List.map_cons, List.map_nil, hs, hx, hrun]
  exact ⟨hg, h v' w' h2 h3 hg⟩

theorem Row.of_own {w : World} {base : Nat} {e : TypeId} {size n : Nat} {v : Value} {xs : List Value} (h : w.ownsRow base e size v n xs) : Row w v size n xs := by
  obtain ⟨hlen, h⟩ := h
  rcases h with ⟨rfl, rfl⟩ | ⟨g, cap, cur, rfl, hb, hg, hn, hm, hs, ht⟩
  · exact ⟨none, 0, rfl, Nat.le_refl _, by omega, hlen, fun h => by omega⟩
  · refine ⟨some ⟨g, 0, none⟩, cap, rfl, hn, by simpa [maxLen] using hm, hlen, fun _ => ⟨g, 0, rfl, (Array.getElem?_eq_some_iff.1 hg).1, fun j u hu => ?_⟩⟩
    rw [Nat.zero_add, cell_of_row w g j cur e (0, 0) hg]
    rw [← ht, List.getElem?_take] at hu
    split at hu
    · simpa using hu
    · cases hu

theorem own_on {w w' : World} {base : Nat} {e : TypeId} {size n : Nat} {v : Value} {xs : List Value} (h : w.ownsRow base e size v n xs) (hb : Below w.heap.size w w') : w'.ownsRow base e size v n xs :=
  h.kept (row := none) (grownBy_of_below hb) (by cases hv : v.ownBlock <;> simp)
theorem below_of_grown {w w' : World} (h : w.grownBy w' none) : Below w.heap.size w w' := below_of_grownBy h
end

theorem EvOK.one {w : World} {cs : List Value} (h : EvOK w cs) : ∀ u ∈ cs, u.oneCell' = true := by
  obtain ⟨id, room, sender, kind, st, key, time, depth, pv, av, text, n, tg, th, via, alv, dnv, uv, kv, i1, i2, i3, i4, i5, i6, i7, hash, srv, sum, rfl, h1, h2, h3, h4, h5, h6⟩ := h
  obtain ⟨_, _, _, _, rfl, _⟩ := h1
  obtain ⟨_, _, _, _, rfl, _⟩ := h2
  obtain ⟨_, _, _, _, rfl, _⟩ := h3
  obtain ⟨_, _, _, _, rfl, _⟩ := h4
  obtain ⟨_, _, _, _, rfl, _⟩ := h5
  obtain ⟨_, _, _, _, rfl, _⟩ := h6
  simp [Value.oneCell']
theorem Evs.one {w : World} {v : Value} {es : List (List Value)} (h : Evs w v es) : ∀ u ∈ es.flatten, u.oneCell' = true := fun u hu => by
  obtain ⟨c, hc, huc⟩ := List.mem_flatten.1 hu
  exact (h.2 c hc).one u huc

theorem info37 : (Try.prog.info? 37).map (fun i => (i.zero.isSome, i.size)) = some (true, 29) := by kernel_rfl
theorem build0 (a : Act) (d : Option Tmp) (ty : TypeId) (ps : String) (af : Array Edge) (w : World) :
    (execOp a.eval { dst := d, op := .buildSlice 22 0 #[], type := ty, pos := ps, after := af, guard := none }).run Try.prog w = .ok (.value (.slice (some ⟨w.heap.size, 0, none⟩) 0 0)) (w.alloc (.cells #[] 37)) := by kernel_rfl
end Go.Proofs.Ytfebldoplobkdaa
