/- auth.decided: a call whose panic is caught. -/
import Derived.Test.YtojknjmcmadhcaaGreatDoorAh
import Derived.Test.YtojknjmcmadhcaaGreatDoorProg
import Derived.Tactics
import Derived.Tactics2
import Derived.Defers
import Derived.Recover
import Derived.KernelRfl
import Derived.Laws.Pointers

section
namespace Go.Proofs
open Go.Abs Go.RowKit

theorem catch_idle (p : Addr) (w : World) :
    CallsD Tryz.prog 552 #[.pointer (some p)] .returning w fun e u' w' => e = .returned (.tuple #[]) ∧ u' = .returning ∧ w' = w := by
  refine callsD_of_wpS Tryz.func552 rfl fun c₀ cs hu => ?_
  apply wpS_seq
  apply wpS_region
  simp [wpOpsS, go_sem, recoverD, hu, Tryz.ntmps552, Exit.thenS]
  apply wpS_seq
  apply wpS_region
  simp [wpOpsS, go_sem, Exit.thenS]
  refine wpS_cond (t := false) (by simp [Act.eval, Array.replicate]) ?_
  simp only [Bool.false_eq_true, if_false]
  refine wpS_of_wp (wp_skip ?_)
  cases c₀
  simp_all [bodyPostS, results, Tryz.results552]

set_option maxRecDepth 100000 in
theorem catch_panicking (b : Nat) (n : Int) (w : World) (x : Value) (hc : w.cell? ⟨b, 0, none⟩ = some x) (hz : w.frozen? ⟨b, 0, none⟩ = false) (hp : b < w.heap.size) :
    CallsD Tryz.prog 552 #[.pointer (some ⟨b, 0, none⟩)] (.panicking [{ v := .iface 656 (.agg #[.int .i64 n]), recovered := false }]) w fun e u' w' =>
      e = .returned (.tuple #[]) ∧ u' = .panicking [{ v := .iface 656 (.agg #[.int .i64 n]), recovered := true }] ∧ w' = (w.setCell ⟨b, 0, none⟩ (.int .i64 n)).alloc (.cells #[.int .i64 n] 656) := by
  refine callsD_of_wpS Tryz.func552 rfl fun c₀ cs hu => ?_
  apply wpS_seq
  apply wpS_region
  simp [wpOpsS, go_sem, recoverD, hu, Tryz.ntmps552, Exit.thenS]
  apply wpS_seq
  apply wpS_region
  simp [wpOpsS, go_sem, Exit.thenS]
  refine wpS_cond (t := true) (by simp [Act.eval, Array.replicate]) ?_
  simp only [if_true]
  refine wpS_of_wp ?_
  have hta : ∀ w, (Instr.typeAssert (.iface 656 (.agg #[.int .i64 n])) 20 656 true).run Tryz.prog w = .ok (.tuple #[.agg #[.int .i64 n], .bool true]) w := fun _ => by kernel_rfl
  have e : (#[Value.pointer (some ⟨b, 0, none⟩)] ++ ((((Array.replicate 16 undef).setIfInBounds 3 (Value.iface 656 (Value.agg #[Value.int IntKind.i64 n]))).setIfInBounds 0 (Value.iface 656 (Value.agg #[Value.int IntKind.i64 n]))).setIfInBounds
                    4 (Value.iface 656 (Value.agg #[Value.int IntKind.i64 n]))).setIfInBounds 5 (Value.bool true)) = #[Value.pointer (some ⟨b, 0, none⟩), Value.iface 656 (Value.agg #[Value.int IntKind.i64 n]), undef, undef, Value.iface 656 (Value.agg #[Value.int IntKind.i64 n]), Value.iface 656 (Value.agg #[Value.int IntKind.i64 n]), Value.bool true, undef, undef, undef, undef, undef, undef, undef, undef, undef, undef] := by kernel_rfl
  rw [e]
  clear e
  have hnot : ∀ (b : Bool) (w : World), (Op.unary .not (.bool b)).run Tryz.prog w = .ok (.bool (!b)) w := fun _ _ => rfl
  have hc1 : (w.alloc (.cells #[.int .i64 n] 656)).cell? ⟨b, 0, none⟩ = some x := (cell_same (heap_alloc_lt w _ hp)).trans hc
  have hz1 : (w.alloc (.cells #[.int .i64 n] 656)).frozen? ⟨b, 0, none⟩ = false := (World.frozen?_of_block (heap_alloc_lt w _ hp)).trans hz
  go_wp2
  cases c₀
  simp_all [bodyPostS, results, Tryz.results552]

theorem decided_ret (g : FuncId) (fs cs : Array Value) (w : World) (he : ∀ args w, (callFunc g args).run Tryz.prog w = .ok (.enter g args) w) (R : Value → World → Prop)
    (h : Calls Tryz.prog g (fs ++ cs) (w.alloc (.cells #[.int .i64 0] 24)) fun e w' => Below (w.heap.size + 1) (w.alloc (.cells #[.int .i64 0] 24)) w' ∧ ∃ v, e = .returned v ∧ R v w') :
    Calls Tryz.prog 442 #[.func (.func g) fs cs] w fun e w' => e = .returned (.int .i64 0) ∧ Below w.heap.size w w' := by
  have hmf : ∀ (fn : Fn) (first cap : Array Value) (w : World), (Instr.makeFunc fn first cap).run Tryz.prog w = .ok (.func fn first cap) w := fun _ _ _ _ => rfl
  go_enter_defers Tryz.func442, Tryz.ntmps442
  go_wp2
  refine h.mono ?_
  rintro e w2 ⟨hb, v, rfl, _⟩
  have hblk : w2.heap[w.heap.size]? = some (.cells #[.int .i64 0] 24) := by
    rw [hb.block _ (by omega)]
    exact heap_alloc_at _ _
  have hc : w2.cell? ⟨w.heap.size, 0, none⟩ = some (.int .i64 0) := by rw [cell_of_heap hblk]; rfl
  have hz : w2.frozen? ⟨w.heap.size, 0, none⟩ = false := by simp [World.frozen?, hblk]
  go_wp2
  refine leaves_cons (f := 552) (args := #[.pointer (some ⟨w.heap.size, 0, none⟩)]) (by simp) (by simp [go_sem]) ?_
  refine (catch_idle _ _).mono ?_
  rintro e u' w'' ⟨rfl, rfl, rfl⟩
  have hlt := (Array.getElem?_eq_some_iff.1 hblk).1
  have hc2 : (w2.setCell ⟨w.heap.size, 0, none⟩ (.int .i64 0)).cell? ⟨w.heap.size, 0, none⟩ = some (.int .i64 0) := World.cell?_setCell_same _ _ _ hc
  simp [Leaves, settle, results, Tryz.results442, go_sem, hc2]
  exact ((((Below.refl w.heap.size w).alloc (Nat.le_refl _) _)).trans (hb.mono (by omega))).setCell (Nat.le_refl _) _

set_option maxRecDepth 100000 in
theorem decided_pan (g : FuncId) (fs cs : Array Value) (n : Int) (w : World) (he : ∀ args w, (callFunc g args).run Tryz.prog w = .ok (.enter g args) w)
    (h : Calls Tryz.prog g (fs ++ cs) (w.alloc (.cells #[.int .i64 0] 24)) fun e w' => Below (w.heap.size + 1) (w.alloc (.cells #[.int .i64 0] 24)) w' ∧ e = .panicked [{ v := .iface 656 (.agg #[.int .i64 n]), recovered := false }]) :
    Calls Tryz.prog 442 #[.func (.func g) fs cs] w fun e w' => e = .returned (.int .i64 n) ∧ Below w.heap.size w w' := by
  have hmf : ∀ (fn : Fn) (first cap : Array Value) (w : World), (Instr.makeFunc fn first cap).run Tryz.prog w = .ok (.func fn first cap) w := fun _ _ _ _ => rfl
  go_enter_defers Tryz.func442, Tryz.ntmps442
  go_wp2
  refine h.mono ?_
  rintro e w2 ⟨hb, rfl⟩
  have hblk : w2.heap[w.heap.size]? = some (.cells #[.int .i64 0] 24) := by
    rw [hb.block _ (by omega)]
    exact heap_alloc_at _ _
  have hc : w2.cell? ⟨w.heap.size, 0, none⟩ = some (.int .i64 0) := by rw [cell_of_heap hblk]; rfl
  have hz : w2.frozen? ⟨w.heap.size, 0, none⟩ = false := by simp [World.frozen?, hblk]
  have hlt := (Array.getElem?_eq_some_iff.1 hblk).1
  go_wp2
  refine leaves_cons (f := 552) (args := #[.pointer (some ⟨w.heap.size, 0, none⟩)]) (by simp) (by simp [go_sem]) ?_
  refine (catch_panicking _ n _ _ hc hz hlt).mono ?_
  rintro e u' w'' ⟨rfl, rfl, rfl⟩
  have hc2 : (w2.setCell ⟨w.heap.size, 0, none⟩ (.int .i64 n)).cell? ⟨w.heap.size, 0, none⟩ = some (.int .i64 n) := World.cell?_setCell_same _ _ _ hc
  have hc3 : ((w2.setCell ⟨w.heap.size, 0, none⟩ (.int .i64 n)).alloc (.cells #[.int .i64 n] 656)).cell? ⟨w.heap.size, 0, none⟩ = some (.int .i64 n) := (cell_same (heap_alloc_lt _ _ (by show _ < (w2.heap.modify _ _).size; simpa using hlt))).trans hc2
  simp [Leaves, settle, results, Tryz.results442, go_sem, hc3]
  exact (((((Below.refl w.heap.size w).alloc (Nat.le_refl _) _)).trans (hb.mono (by omega))).setCell (Nat.le_refl _) _).alloc (by show _ ≤ (w2.heap.modify _ _).size; simp; omega) _

end Go.Proofs
end
