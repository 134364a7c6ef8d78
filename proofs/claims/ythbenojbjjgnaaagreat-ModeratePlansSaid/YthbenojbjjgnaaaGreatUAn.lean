/- What the run leans on: three of the four answers by hand. -/
import Derived.Test.YthbenojbjjgnaaaGreatProg
import Derived.Lib.Strings
import Derived.Lib.Slices
import Derived.Lib.Walk
import Derived.Lib.Bytealg
import Derived.Test.YthbenojbjjgnaaaGreatUAk
import Derived.Tactics
import Derived.Tactics2
import Derived.Defers
import Derived.Recover
import Derived.KernelRfl
import Derived.Laws.Pointers
import Derived.Shelf.Sort.Plain
import Derived.Maps.RangeWalk
import Derived.OwnWalk
import Derived.WalkKit
import Derived.ProofKit
import Derived.LoopTactic
import Derived.Handy
import Derived.Below
import Derived.Sort.OwnSortedInts
set_option linter.unusedVariables false
set_option linter.unusedSimpArgs false
set_option linter.unusedSectionVars false
section
namespace Go.Proofs
set_option maxHeartbeats 1000000 in
set_option maxRecDepth 100000 in
theorem Tryz.stringslite_IndexByte (s : ByteArray) (c : Int) (w : World) :
  Calls Tryz.prog 332 #[.string s,.int .u8 c] w fun e w' => e = .returned (.int .i64 (Lib.indexByte s.data.toList c.toNat.toUInt8)) ∧ w' = w := by
 go_enter Tryz.func332,Tryz.ntmps332
 go_wp2
 rw [run_callFunc_extern Tryz.func424 (by kernel_rfl) (by kernel_rfl) (by kernel_rfl) (e := Extern.BytealgIndexByte.indexByte) (by kernel_rfl),Lib.run_indexByteString]
 simp only [Result.andThen]
 rw [Oper.upon_value]
 go_wp2
 go_ret
 exact ⟨rfl,rfl⟩
#print axioms Tryz.stringslite_IndexByte
end Go.Proofs
end
section
namespace Go.Proofs.RLP
open Go.Proofs
open Go.Abs Go.RowKit
theorem catch_idle (p : Addr) (w : World) :
  CallsD Tryz.prog 395 #[.pointer (some p)] .returning w fun e u' w' => e = .returned (.tuple #[]) ∧ u' = .returning ∧ w' = w := by
 refine callsD_of_wpS Tryz.func395 rfl fun c₀ cs hu => ?_
 apply wpS_seq
 apply wpS_region
 simp [wpOpsS,go_sem,recoverD,hu,Tryz.ntmps395,Exit.thenS]
 apply wpS_seq
 apply wpS_region
 simp [wpOpsS,go_sem,Exit.thenS]
 refine wpS_cond (t := false) (by simp [Act.eval,Array.replicate]) ?_
 simp only [Bool.false_eq_true,if_false]
 refine wpS_of_wp (wp_skip ?_)
 cases c₀
 simp_all [bodyPostS,results,Tryz.results395]
set_option maxRecDepth 100000 in
theorem catch_panicking (b : Nat) (n : Int) (w : World) (x : Value) (hc : w.cell? ⟨b,0,none⟩ = some x) (hz : w.frozen? ⟨b,0,none⟩ = false) (hp : b < w.heap.size) :
  CallsD Tryz.prog 395 #[.pointer (some ⟨b,0,none⟩)] (.panicking [{ v := .iface 354 (.agg #[.int .i64 n]),recovered := false }]) w fun e u' w' =>
   e = .returned (.tuple #[]) ∧ u' = .panicking [{ v := .iface 354 (.agg #[.int .i64 n]),recovered := true }] ∧ w' = (w.setCell ⟨b,0,none⟩ (.int .i64 n)).alloc (.cells #[.int .i64 n] 354) := by
 refine callsD_of_wpS Tryz.func395 rfl fun c₀ cs hu => ?_
 apply wpS_seq
 apply wpS_region
 simp [wpOpsS,go_sem,recoverD,hu,Tryz.ntmps395,Exit.thenS]
 apply wpS_seq
 apply wpS_region
 simp [wpOpsS,go_sem,Exit.thenS]
 refine wpS_cond (t := true) (by simp [Act.eval,Array.replicate]) ?_
 simp only [if_true]
 refine wpS_of_wp ?_
 have hta : ∀ w,(Instr.typeAssert (.iface 354 (.agg #[.int .i64 n])) 20 354 true).run Tryz.prog w = .ok (.tuple #[.agg #[.int .i64 n],.bool true]) w := fun _ => by kernel_rfl
 have e : (#[Value.pointer (some ⟨b,0,none⟩)] ++ ((((Array.replicate 16 undef).setIfInBounds 3 (Value.iface 354 (Value.agg #[Value.int IntKind.i64 n]))).setIfInBounds 0 (Value.iface 354 (Value.agg #[Value.int IntKind.i64 n]))).setIfInBounds
          4 (Value.iface 354 (Value.agg #[Value.int IntKind.i64 n]))).setIfInBounds 5 (Value.bool true)) = #[Value.pointer (some ⟨b,0,none⟩),Value.iface 354 (Value.agg #[Value.int IntKind.i64 n]),undef,undef,Value.iface 354 (Value.agg #[Value.int IntKind.i64 n]),Value.iface 354 (Value.agg #[Value.int IntKind.i64 n]),Value.bool true,undef,undef,undef,undef,undef,undef,undef,undef,undef,undef] := by kernel_rfl
 rw [e]
 clear e
 have hnot : ∀ (b : Bool) (w : World),(Op.unary .not (.bool b)).run Tryz.prog w = .ok (.bool (!b)) w := fun _ _ => rfl
 have hc1 : (w.alloc (.cells #[.int .i64 n] 354)).cell? ⟨b,0,none⟩ = some x := (cell_same (heap_alloc_lt w _ hp)).trans hc
 have hz1 : (w.alloc (.cells #[.int .i64 n] 354)).frozen? ⟨b,0,none⟩ = false := (World.frozen?_of_block (heap_alloc_lt w _ hp)).trans hz
 go_wp2
 cases c₀
 simp_all [bodyPostS,results,Tryz.results395]
theorem decided_ret (g : FuncId) (fs cs : Array Value) (w : World) (he : ∀ args w,(callFunc g args).run Tryz.prog w = .ok (.enter g args) w) (R : Value → World → Prop)
  (h : Calls Tryz.prog g (fs ++ cs) (w.alloc (.cells #[.int .i64 0] 35)) fun e w' => Below (w.heap.size + 1) (w.alloc (.cells #[.int .i64 0] 35)) w' ∧ ∃ v,e = .returned v ∧ R v w') :
  Calls Tryz.prog 291 #[.func (.func g) fs cs] w fun e w' => e = .returned (.int .i64 0) ∧ Below w.heap.size w w' := by
 have hmf : ∀ (fn : Fn) (first cap : Array Value) (w : World),(Instr.makeFunc fn first cap).run Tryz.prog w = .ok (.func fn first cap) w := fun _ _ _ _ => rfl
 go_enter_defers Tryz.func291,Tryz.ntmps291
 go_wp2
 refine h.mono ?_
 rintro e w2 ⟨hb,v,rfl,_⟩
 have hblk : w2.heap[w.heap.size]? = some (.cells #[.int .i64 0] 35) := by
  rw [hb.block _ (by omega)]
  exact heap_alloc_at _ _
 have hc : w2.cell? ⟨w.heap.size,0,none⟩ = some (.int .i64 0) := by rw [cell_of_heap hblk]; rfl
 have hz : w2.frozen? ⟨w.heap.size,0,none⟩ = false := by simp [World.frozen?,hblk]
 go_wp2
 refine leaves_cons (f := 395) (args := #[.pointer (some ⟨w.heap.size,0,none⟩)]) (by simp) (by simp [go_sem]) ?_
 refine (catch_idle _ _).mono ?_
 rintro e u' w'' ⟨rfl,rfl,rfl⟩
 have hlt := (Array.getElem?_eq_some_iff.1 hblk).1
 have hc2 : (w2.setCell ⟨w.heap.size,0,none⟩ (.int .i64 0)).cell? ⟨w.heap.size,0,none⟩ = some (.int .i64 0) := World.cell?_setCell_same _ _ _ hc
 simp [Leaves,settle,results,Tryz.results291,go_sem,hc2]
 exact ((((Below.refl w.heap.size w).alloc (Nat.le_refl _) _)).trans (hb.mono (by omega))).setCell (Nat.le_refl _) _
set_option maxRecDepth 100000 in
theorem decided_pan (g : FuncId) (fs cs : Array Value) (n : Int) (w : World) (he : ∀ args w,(callFunc g args).run Tryz.prog w = .ok (.enter g args) w)
  (h : Calls Tryz.prog g (fs ++ cs) (w.alloc (.cells #[.int .i64 0] 35)) fun e w' => Below (w.heap.size + 1) (w.alloc (.cells #[.int .i64 0] 35)) w' ∧ e = .panicked [{ v := .iface 354 (.agg #[.int .i64 n]),recovered := false }]) :
  Calls Tryz.prog 291 #[.func (.func g) fs cs] w fun e w' => e = .returned (.int .i64 n) ∧ Below w.heap.size w w' := by
 have hmf : ∀ (fn : Fn) (first cap : Array Value) (w : World),(Instr.makeFunc fn first cap).run Tryz.prog w = .ok (.func fn first cap) w := fun _ _ _ _ => rfl
 go_enter_defers Tryz.func291,Tryz.ntmps291
 go_wp2
 refine h.mono ?_
 rintro e w2 ⟨hb,rfl⟩
 have hblk : w2.heap[w.heap.size]? = some (.cells #[.int .i64 0] 35) := by
  rw [hb.block _ (by omega)]
  exact heap_alloc_at _ _
 have hc : w2.cell? ⟨w.heap.size,0,none⟩ = some (.int .i64 0) := by rw [cell_of_heap hblk]; rfl
 have hz : w2.frozen? ⟨w.heap.size,0,none⟩ = false := by simp [World.frozen?,hblk]
 have hlt := (Array.getElem?_eq_some_iff.1 hblk).1
 go_wp2
 refine leaves_cons (f := 395) (args := #[.pointer (some ⟨w.heap.size,0,none⟩)]) (by simp) (by simp [go_sem]) ?_
 refine (catch_panicking _ n _ _ hc hz hlt).mono ?_
 rintro e u' w'' ⟨rfl,rfl,rfl⟩
 have hc2 : (w2.setCell ⟨w.heap.size,0,none⟩ (.int .i64 n)).cell? ⟨w.heap.size,0,none⟩ = some (.int .i64 n) := World.cell?_setCell_same _ _ _ hc
 have hc3 : ((w2.setCell ⟨w.heap.size,0,none⟩ (.int .i64 n)).alloc (.cells #[.int .i64 n] 354)).cell? ⟨w.heap.size,0,none⟩ = some (.int .i64 n) := (cell_same (heap_alloc_lt _ _ (by show _ < (w2.heap.modify _ _).size; simpa using hlt))).trans hc2
 simp [Leaves,settle,results,Tryz.results291,go_sem,hc3]
 exact (((((Below.refl w.heap.size w).alloc (Nat.le_refl _) _)).trans (hb.mono (by omega))).setCell (Nat.le_refl _) _).alloc (by show _ ≤ (w2.heap.modify _ _).size; simp; omega) _
end Go.Proofs.RLP
end
section
namespace Go.Proofs.RLP
open Go.Proofs
open Go.Shelf
def renPairs : List (Nat × Nat) → Nat → Nat
 | [],n => n
 | p :: r,n => bif Nat.beq p.1 n then p.2 else renPairs r n
def sortRen : Ren := ⟨renPairs [(125,225),(128,313),(129,314),(189,169),(215,410),(216,310),(257,224),(294,304),(295,305),(296,306),(297,307),(298,308),(299,309),(300,311),(301,312),(328,405),(329,406),(330,407),(331,408),(332,409),(343,473)],renPairs [(0,0),(3,3),(4,4),(5,5),(9,9),(28,24),(46,243),(51,316),(53,318),(131,266),(182,308),(183,309),(218,365),(222,369),(228,407),(229,408)],fun n => n⟩
theorem sortLays : Lays.n189 Tryz.prog sortRen := by
 constructor <;> first | kernel_rfl | (intro _; kernel_rfl)
theorem sort_run (blk off cap : Nat) (zs : List Int) (w : World) (hH : Sort.Holds (Value.int .i64) w blk off zs.toArray) (hblk : blk < w.heap.size) (hsz : zs.length < 4611686018427387904) :
  Calls Tryz.prog 169 #[.slice (some ⟨blk,off,none⟩) zs.length cap] w fun e w' =>
   e = .returned (.tuple #[]) ∧ ∃ n os,w' = Sort.grow (Sort.putRow (Value.int .i64) (Sort.ahead w n) blk off (zs.mergeSort fun x y => decide (x ≤ y)).toArray) os := Any.slices_Sort_int sortLays blk off cap zs w hH hblk hsz
end Go.Proofs.RLP
end
section
namespace Go.Proofs.RLP
open Go.Proofs
open Go.Abs Go.RowKit Go.ChangeMaps
section
variable {P : Program} (w : World) {ops : Array Oper} {rest : List Oper} {o : Oper} {a : Act} {Q : Exit → Act → World → Prop}
theorem wpList_range_at (hg : o.guard = none) (m : Operand) (t : TypeId) (hop : o.op = Op.range t m) (k e : TypeId) (ht : P.underlying t = some (.map k e)) (b : Nat) (es : Array MapEntry) (clock : Nat) (hm : a.eval m = .map (some b)) (hb : w.heap[b]? = some (.map es clock))
  (hK : wpList P ops Q rest (a.put o.dst (.pointer (some ⟨w.heap.size,0,none⟩))) (w.alloc (.mapIter (some b) clock #[] clock))) : wpList P ops Q (o :: rest) a w := by
 refine wpList_plain hg fun K' hK' => ?_
 have hrun : (Instr.range t (.map (some b))).run P w = .ok (.pointer (some ⟨w.heap.size,0,none⟩)) (w.alloc (.mapIter (some b) clock #[] clock)) := by
  simp [Instr.range,Sem.run_bind,run_under ht,Result.andThen,getObj,Sem.run,hb,run_newObj_alloc]
 unfold Oper.wp
 simp [execOp,hop,hm,hrun,Result.andThen]
 exact hK' _ _ hK
theorem wpList_next_at (hg : o.guard = none) (it : Operand) (hop : o.op = Op.next it false) (r bm since c0 : Nat) (seen : Array Nat) (es : Array MapEntry) (clock : Nat) (hit : a.eval it = .pointer (some ⟨r,0,none⟩))
  (hr : w.heap[r]? = some (.mapIter (some bm) since seen c0)) (hb : w.heap[bm]? = some (.map es clock)) (hold : ∀ x ∈ es.toList,x.born < since) (hsc : since ≤ c0)
  (hDone : (leftOf es seen).size = 0 → wpList P ops Q rest (a.put o.dst (.tuple #[.bool false])) w)
  (hMore : ∀ e ∈ (leftOf es seen).toList,∀ w1 : World,(w1 = w ∨ w1 = w.drew) → wpList P ops Q rest (a.put o.dst (.tuple #[.bool true,e.key,e.val])) (setBlock w1 r (.mapIter (some bm) since (seen.push e.born) clock))) :
  wpList P ops Q (o :: rest) a w := by
 refine wpList_plain hg fun K' hK' => ?_
 unfold Oper.wp
 rcases run_next_at (P := P) w o.type r bm since c0 seen es clock hr hb hold hsc with ⟨h0,hrun⟩ | ⟨e,he,w1,h1,hrun⟩
 ·simp [execOp,hop,hit,hrun,Result.andThen]
  exact hK' _ _ (hDone h0)
 ·simp [execOp,hop,hit,hrun,Result.andThen]
  exact hK' _ _ (hMore e he w1 h1)
end
def keyI (e : MapEntry) : Int := match e.key with | .int _ n => n | _ => 0
theorem contains_push (seen : Array Nat) (b x : Nat) : (seen.push b).contains x = (seen.contains x || (x == b)) := by
 rw [Bool.eq_iff_iff]
 simp
theorem left_perm (seen : Array Nat) (e : MapEntry) : ∀ (l : List MapEntry),(l.map (·.born)).Nodup → e ∈ l → seen.contains e.born = false →
  (l.filter fun x => !seen.contains x.born).Perm (e :: l.filter fun x => !(seen.push e.born).contains x.born)
 | [],_,h,_ => by cases h
 | a :: r,hn,hm,hs => by
  simp only [List.map_cons,List.nodup_cons] at hn
  have hout : ∀ (l : List MapEntry),e.born ∉ l.map (·.born) → (l.filter fun x => !(seen.push e.born).contains x.born) = l.filter fun x => !seen.contains x.born := fun l hl => by
   apply List.filter_congr
   intro x hx
   have : x.born ≠ e.born := fun q => hl (q ▸ List.mem_map_of_mem hx)
   rw [contains_push]
   simp [this]
  rcases List.mem_cons.1 hm with rfl | hm
  ·rw [List.filter_cons_of_pos (by show (!seen.contains e.born) = true; rw [hs]; rfl),List.filter_cons_of_neg (by show ¬ (!(seen.push e.born).contains e.born) = true; rw [contains_push]; simp),hout r hn.1]
  ·have ha : a.born ≠ e.born := fun q => hn.1 (q ▸ List.mem_map_of_mem hm)
   have ih := left_perm seen e r hn.2 hm hs
   have hq : (seen.push e.born).contains a.born = seen.contains a.born := by rw [contains_push]; simp [ha]
   cases hc : seen.contains a.born with
   | true =>
    rw [List.filter_cons_of_neg (by show ¬ (!seen.contains a.born) = true; rw [hc]; simp),List.filter_cons_of_neg (by show ¬ (!(seen.push e.born).contains a.born) = true; rw [hq,hc]; simp)]
    exact ih
   | false =>
    rw [List.filter_cons_of_pos (by show (!seen.contains a.born) = true; rw [hc]; rfl),List.filter_cons_of_pos (by show (!(seen.push e.born).contains a.born) = true; rw [hq,hc]; rfl)]
    exact (ih.cons a).trans (List.Perm.swap _ _ _)
theorem sort_perm {a b : List Int} (h : a.Perm b) : (a.mergeSort fun x y => decide (x ≤ y)) = b.mergeSort fun x y => decide (x ≤ y) := by
 have tr : ∀ (a b c : Int),decide (a ≤ b) = true → decide (b ≤ c) = true → decide (a ≤ c) = true := fun a b c h1 h2 => by simp at *; omega
 have tot : ∀ (a b : Int),(decide (a ≤ b) || decide (b ≤ a)) = true := fun a b => by simp; omega
 have pa := List.pairwise_mergeSort (le := fun x y : Int => decide (x ≤ y)) tr tot a
 have pb := List.pairwise_mergeSort (le := fun x y : Int => decide (x ≤ y)) tr tot b
 refine List.Perm.eq_of_pairwise (le := fun x y => decide (x ≤ y) = true) ?_ pa pb (((List.mergeSort_perm a _).trans h).trans (List.mergeSort_perm b _).symm)
 intro x y _ _ h1 h2
 simp at h1 h2
 omega
theorem Tryz.info3' : (Tryz.prog.info? 3).map (fun i => (i.zero,i.size,i.bytes)) = some (some (.int .i64 0),1,8) := by kernel_rfl
set_option maxHeartbeats 4000000 in
set_option maxRecDepth 100000 in
theorem sorted_walk (bm : Nat) (es : Array MapEntry) (clock : Nat) (ks : List Int) (w : World) (hb : w.heap[bm]? = some (.map es clock)) (hk : es.toList.map (·.key) = ks.map (Value.int .i64)) (hborn : bornsOk clock (es.toList.map (·.born)) = true) (hn : es.size ≤ 1000000) :
  Calls Tryz.prog 221 #[.map (some bm)] w fun e w' => ∃ cap,e = .returned (.slice (some ⟨w.heap.size,0,none⟩) ks.length cap) ∧
   w'.ownsRow w.heap.size 3 1 (.slice (some ⟨w.heap.size,0,none⟩) ks.length cap) ks.length ((ks.mergeSort fun x y => decide (x ≤ y)).map (Value.int .i64)) ∧ Below w.heap.size w w' := by
 obtain ⟨i0,hi,hz0,hz1,hz2⟩ := info_parts Tryz.info3'
 have hbm := (Array.getElem?_eq_some_iff.1 hb).1
 have hlen : (Builtin.len_ #[92] 3 #[.map (some bm)]).run Tryz.prog w = .ok (.int .i64 es.size) w := by
  simp [Builtin.len_,Sem.run_bind,run_under Tryz.underlying92,Result.andThen,getObj,Sem.run,hb,goInt]
 go_enter Tryz.func221,Tryz.ntmps221
 go_wp2_with (at_make; refine wpList_make_own _ rfl _ _ 24 rfl w.heap.size 3 i0 (.int .i64 0) 1 Tryz.underlying24 hi hz0 hz1 .i64 .i64 _ es.size rfl rfl rfl (by rw [hz2]; omega) (by unfold maxLen; omega) (Nat.le_refl _) ?_)
 intro w1 hown hgrow
 have hsz1 := hgrow.size
 have hb1 : w1.heap[bm]? = some (.map es clock) := (hgrow.block _ hbm (by simp)).trans hb
 go_wp2_with (at_range; refine wpList_range_at _ rfl _ 92 rfl 3 4 Tryz.underlying92 bm es clock rfl hb1 ?_)
 go_frame
 obtain ⟨hnd,hold⟩ := bornsOk_ok hborn
 have hold' : ∀ x ∈ es.toList,x.born < clock := fun x hx => hold _ (List.mem_map_of_mem hx)
 have hit0 : (w1.alloc (.mapIter (some bm) clock #[] clock)).heap[w1.heap.size]? = some (.mapIter (some bm) clock #[] clock) := heap_alloc_at _ _
 have hb0 : (w1.alloc (.mapIter (some bm) clock #[] clock)).heap[bm]? = some (.map es clock) := (heap_alloc_lt _ _ (by omega)).trans hb1
 have hown0 := hown.alloc (.mapIter (some bm) clock #[] clock)
 have bel0 : Below w.heap.size w (w1.alloc (.mapIter (some bm) clock #[] clock)) := ((Below.refl _ w).grown hgrow (Nat.le_refl _) (fun k h => by cases h)).alloc (by omega) _
 have hsz1' : w.heap.size < w1.heap.size := by
  rcases hown.2 with ⟨h,_⟩ | ⟨g,cap,cur,h,_,hg,_⟩
  ·cases h
  ·cases h; exact (Array.getElem?_eq_some_iff.1 hg).1
 clear hgrow hlen
 go_loopw [3] (fun v wr => ∃ (seen : Array Nat) (c0 : Nat) (acc : List Int),v = .slice (some ⟨w.heap.size,0,none⟩) acc.length es.size ∧ wr.ownsRow w.heap.size 3 1 (.slice (some ⟨w.heap.size,0,none⟩) acc.length es.size) acc.length (acc.map (Value.int .i64)) ∧
   wr.heap[w1.heap.size]? = some (.mapIter (some bm) clock seen c0) ∧ clock ≤ c0 ∧ wr.heap[bm]? = some (.map es clock) ∧ (acc ++ (leftOf es seen).toList.map keyI).Perm ks ∧ Below w.heap.size w wr)
  (fun _ wr => wr.rangeLeft bm w1.heap.size)
 case atStart =>
  have e0 : (leftOf es #[]).toList = es.toList := by simp [leftOf]
  refine ⟨#[],clock,[],rfl,hown0,hit0,Nat.le_refl _,hb0,?_,bel0⟩
  rw [List.nil_append,e0]
  have : es.toList.map keyI = ks := by
   have h1 : es.toList.map keyI = (es.toList.map (·.key)).map (fun v => match v with | .int _ n => n | _ => 0) := by rw [List.map_map]; rfl
   rw [h1,hk,List.map_map]
   exact List.map_id _
  rw [this]
 case round =>
  obtain ⟨seen,c0,acc,rfl,hrow,hit,hcc,hbw,hperm,bel⟩ := hrel
  have hlenp := hperm.length_eq
  have hkl : ks.length = es.size := by have := congrArg List.length hk; simpa using this.symm
  clear hown0 hit0 hb0 bel0 hb1 hown
  have hm0 : wr.rangeLeft bm w1.heap.size = (leftOf es seen).size := by simp [World.rangeLeft,hit,hbw]
  refine wp_seq_k fun K1 hK1 => ?_
  refine wp_region_list ?_
  refine wpList_next_at _ rfl _ rfl w1.heap.size bm clock c0 seen es clock rfl hit hbw hold' hcc ?_ ?_
  ·intro h0
   have hl0 : (leftOf es seen).toList = [] := List.eq_nil_of_length_eq_zero (by simpa using h0)
   replace hperm : acc.Perm ks := by
    rw [hl0] at hperm
    rw [List.map_nil,List.append_nil] at hperm
    exact hperm
   have hal : acc.length = ks.length := hperm.length_eq
   have hs : (acc.mergeSort fun x y => decide (x ≤ y)) = ks.mergeSort fun x y => decide (x ≤ y) := sort_perm hperm
   rcases hrow.2 with ⟨hnil,_⟩ | ⟨g,cap,cur,hv,hbase,hbl,h1,h2,h3,h4⟩
   ·cases hnil
   ·cases hv
    have hH : Sort.Holds (Value.int .i64) wr w.heap.size 0 acc.toArray := holds_of_blockI hbl (by simpa using h4)
    have hgl : w.heap.size < wr.heap.size := (Array.getElem?_eq_some_iff.1 hbl).1
    have hsort := sort_run w.heap.size 0 es.size acc wr hH hgl (by omega)
    have hl2 : (acc.mergeSort fun x y => decide (x ≤ y)).length = acc.length := List.length_mergeSort acc
    have hsort2 : Calls Tryz.prog 169 #[.slice (some ⟨w.heap.size,0,none⟩) acc.length es.size] wr fun e w' => e = .returned (.tuple #[]) ∧
      w'.ownsRow w.heap.size 3 1 (.slice (some ⟨w.heap.size,0,none⟩) ks.length es.size) ks.length ((ks.mergeSort fun x y => decide (x ≤ y)).map (Value.int .i64)) ∧ Below w.heap.size w w' := by
     refine hsort.mono ?_
     rintro e w' ⟨he,nn,os,hw'⟩
     refine ⟨he,?_,?_⟩
     ·rw [hw',← hs,← hal]
      exact ownsRow_sortedI (n := nn) (os := os) (ts := acc.mergeSort fun x y => decide (x ≤ y)) hl2 (Nat.le_refl _) hbl h1 h2 h3
     ·have hg := grownBy_sortedI (w := wr) (g := w.heap.size) (n := nn) (os := os) (acc.mergeSort fun x y => decide (x ≤ y)).toArray
      rw [← hw'] at hg
      exact bel.grown hg bel.size (fun k h => by cases h; exact Nat.le_refl _)
    clear hit hbw hrow hcc hsort hH hbl hs hl2 h1 h2 h3 h4 hperm hl0 h0 hm0 hkl hlenp bel hgl hbase hnd hold hold' hborn hk hn hsz1 hsz1'
    rw [hal] at hsort2
    iterate 21 (first | go_values | go_skip | go_guarded | go_step | go_upon | go_back)
    refine hsort2.mono ?_
    rintro e w' ⟨rfl,hro,hbe⟩
    trace_state
    go_wp2
    go_ret
    exact ⟨es.size,rfl,hro,hbe⟩
  ·intro e he w2 hw2
   obtain ⟨hem,hes⟩ := mem_left he
   obtain ⟨x,hx⟩ : ∃ x,e.key = .int .i64 x := by
    have : e.key ∈ es.toList.map (·.key) := List.mem_map_of_mem hem
    rw [hk] at this
    obtain ⟨x,_,h⟩ := List.mem_map.1 this
    exact ⟨x,h.symm⟩
   have hp2 := left_perm seen e es.toList hnd hem hes
   have hsz2 : w2.heap = wr.heap := by rcases hw2 with rfl | rfl <;> rfl
   have hrow2 : w2.ownsRow w.heap.size 3 1 (.slice (some ⟨w.heap.size,0,none⟩) acc.length es.size) acc.length (acc.map (Value.int .i64)) := by rcases hw2 with rfl | rfl <;> exact hrow
   have bel2 : Below w.heap.size w w2 := by rcases hw2 with rfl | rfl; exact bel; exact bel.drew
   obtain ⟨w3,hw3⟩ : ∃ w3,setBlock w2 w1.heap.size (.mapIter (some bm) clock (seen.push e.born) clock) = w3 := ⟨_,rfl⟩
   rw [hw3,hx]
   have hlt1 : w1.heap.size < w2.heap.size := by rw [hsz2]; exact (Array.getElem?_eq_some_iff.1 hit).1
   have ho3 : ∀ k,k ≠ w1.heap.size → w3.heap[k]? = w2.heap[k]? := fun k hk => by rw [← hw3]; exact Array.getElem?_setIfInBounds_ne (fun q => hk q.symm)
   have hit3 : w3.heap[w1.heap.size]? = some (.mapIter (some bm) clock (seen.push e.born) clock) := by rw [← hw3]; simp [setBlock,hlt1]
   have hb3 : w3.heap[bm]? = some (.map es clock) := by rw [ho3 _ (by omega),hsz2]; exact hbw
   have hs3 : w3.heap.size = w2.heap.size := by rw [← hw3]; simp [setBlock]
   have hg3 : w2.grownBy w3 (some w1.heap.size) := by
    refine ⟨by rw [← hw3]; rfl,by rw [← hw3]; rfl,by rw [← hw3]; rfl,by rw [hs3]; exact Nat.le_refl _,fun k _ hk => ho3 k (fun q => hk (by rw [q]))⟩
   have hrow3 := hrow2.kept hg3 (Or.inr (by simp [Value.ownBlock]; omega))
   have bel3 : Below w.heap.size w w3 := bel2.grown hg3 bel2.size (fun k h => by cases h; omega)
   have hen : (Instr.entry (.pointer (some ⟨w1.heap.size,0,none⟩))).run Tryz.prog w3 = .ok (.tuple #[.int .i64 x,e.val]) w3 := by
    have := run_entry_at (P := Tryz.prog) w3 w1.heap.size bm clock seen es clock e hit3 hb3 hem hnd
    rw [hx] at this; exact this
   have hleft : (leftOf es seen).toList.length = (leftOf es (seen.push e.born)).toList.length + 1 := by
    have := hp2.length_eq
    simpa [leftOf] using this
   have hfit : acc.length + 1 ≤ es.size := by
    simp only [List.length_append,List.length_map] at hlenp
    omega
   have hcell : ∀ j u,[Value.int .i64 x][j]? = some u → (w3.alloc (.cells #[.int .i64 x] 3)).cell? ((⟨wr.heap.size,0,none⟩ : Addr).add j) = some u := by
    intro j u h
    cases j with
    | succ j => simp at h
    | zero =>
     simp at h
     subst h
     have e : wr.heap.size = w3.heap.size := by rw [hs3,hsz2]
     rw [e]
     exact (cell_of_heap (heap_alloc_at _ _)).trans rfl
   clear hrow hit hbw bel hrow2 bel2 hg3
   go_wp2_with (at_builtin; go_loud (refine wpList_append_fits _ rfl _ _ 24 rfl w.heap.size 3 i0 1 Tryz.underlying24 hi hz1 w.heap.size acc.length es.size _ rfl (hrow3.alloc _) _ 1 1 [.int .i64 x] rfl rfl hcell (fun u hu => by simp at hu; subst hu; rfl) hfit ?_))
   intro w4 hown4 hg4
   have hne : ∀ k,k ≠ w.heap.size → k < w3.heap.size → w4.heap[k]? = w3.heap[k]? := fun k h1 h2 => by
    rw [hg4.block k (by rw [World.size_alloc]; omega) (fun q => h1 (by cases q; rfl))]
    exact heap_alloc_lt _ _ h2
   have hit4 : w4.heap[w1.heap.size]? = some (.mapIter (some bm) clock (seen.push e.born) clock) := by rw [hne _ (by omega) (by omega)]; exact hit3
   have hb4 : w4.heap[bm]? = some (.map es clock) := by rw [hne _ (by omega) (by omega)]; exact hb3
   have bel4 : Below w.heap.size w w4 := (bel3.alloc bel3.size (.cells #[.int .i64 x] 3)).grown hg4 (by rw [World.size_alloc]; have := bel3.size; omega) (fun k h => by cases h; exact Nat.le_refl _)
   have hown4' : w4.ownsRow w.heap.size 3 1 (.slice (some ⟨w.heap.size,0,none⟩) (acc ++ [x]).length es.size) (acc ++ [x]).length ((acc ++ [x]).map (Value.int .i64)) := by
    simpa using hown4
   have hkx : keyI e = x := by unfold keyI; rw [hx]
   have hperm4 : ((acc ++ [x]) ++ (leftOf es (seen.push e.born)).toList.map keyI).Perm ks := by
    refine List.Perm.trans ?_ hperm
    have := (hp2.map keyI)
    rw [List.map_cons,hkx] at this
    have e1 : ∀ s,(leftOf es s).toList = es.toList.filter fun z => !s.contains z.born := fun s => by simp [leftOf]
    rw [e1,e1,List.append_assoc]
    exact (List.Perm.append_left acc this.symm)
   have hl4 : w4.rangeLeft bm w1.heap.size = (leftOf es (seen.push e.born)).size := by simp [World.rangeLeft,hit4,hb4]
   have hl0 : wr.rangeLeft bm w1.heap.size = (leftOf es seen).size := hm0
   go_wp2
   go_roundw
   case rel => exact ⟨seen.push e.born,clock,acc ++ [x],by simp,hown4',hit4,Nat.le_refl _,hb4,hperm4,bel4⟩
   case measure => rw [hl4,hl0]; simpa using (by omega : (leftOf es (seen.push e.born)).toList.length < (leftOf es seen).toList.length)
end Go.Proofs.RLP
end
section
namespace Go.Abs.RL
open Go.Proofs Go.Proofs.RLP Go.RowKit
def putI (n : Int) : List Int → List Int
 | [] => [n]
 | m :: l => bif decide (n ≤ m) then n :: m :: l else m :: putI n l
def sortI : List Int → List Int
 | [] => []
 | n :: l => putI n (sortI l)
theorem putI_perm (n : Int) : ∀ l : List Int,(putI n l).Perm (n :: l)
 | [] => List.Perm.refl _
 | m :: l => by
  unfold putI
  cases decide (n ≤ m)
  ·exact ((putI_perm n l).cons m).trans (List.Perm.swap _ _ _)
  ·exact List.Perm.refl _
theorem sortI_perm : ∀ l : List Int,(sortI l).Perm l
 | [] => List.Perm.refl _
 | n :: l => (putI_perm n _).trans ((sortI_perm l).cons n)
theorem putI_sorted (n : Int) : ∀ l : List Int,l.Pairwise (· ≤ ·) → (putI n l).Pairwise (· ≤ ·)
 | [],_ => by simp [putI]
 | m :: l,h => by
  unfold putI
  obtain ⟨h1,h2⟩ := List.pairwise_cons.1 h
  cases hd : decide (n ≤ m)
  ·have hlt : m ≤ n := by have := of_decide_eq_false hd; omega
   refine List.pairwise_cons.2 ⟨fun x hx => ?_,putI_sorted n l h2⟩
   rcases List.mem_cons.1 ((putI_perm n l).mem_iff.1 hx) with rfl | hx
   ·exact hlt
   ·exact h1 x hx
  ·have hle : n ≤ m := of_decide_eq_true hd
   refine List.pairwise_cons.2 ⟨fun x hx => ?_,h⟩
   rcases List.mem_cons.1 hx with rfl | hx
   ·exact hle
   ·exact Int.le_trans hle (h1 x hx)
theorem sortI_sorted : ∀ l : List Int,(sortI l).Pairwise (· ≤ ·)
 | [] => List.Pairwise.nil
 | n :: l => putI_sorted n _ (sortI_sorted l)
theorem sortI_merge (l : List Int) : (l.mergeSort fun x y => decide (x ≤ y)) = sortI l := by
 have tr : ∀ (a b c : Int),decide (a ≤ b) = true → decide (b ≤ c) = true → decide (a ≤ c) = true := fun a b c h1 h2 => by simp at *; omega
 have tot : ∀ (a b : Int),(decide (a ≤ b) || decide (b ≤ a)) = true := fun a b => by simp; omega
 have pa := List.pairwise_mergeSort (le := fun x y : Int => decide (x ≤ y)) tr tot l
 refine List.Perm.eq_of_pairwise (le := fun x y => decide (x ≤ y) = true) ?_ pa ((sortI_sorted l).imp (by intro a b h; simpa using h)) ((List.mergeSort_perm l _).trans (sortI_perm l).symm)
 intro x y _ _ h1 h2
 simp at h1 h2
 omega
theorem tvs_scs {w : World} {I : Nat → Nat → Prop} {J : Nat → Prop} : ∀ l : List Int,TVs w I J (l.map fun n => .sc (.int .i64 n)) (l.map (Value.int .i64))
 | [] => .nil
 | _ :: l => .cons (.sc rfl) (tvs_scs l)
theorem flatten_i64s : ∀ l : List Int,(i64s l).flatten = l.map fun n => .sc (.int .i64 n)
 | [] => rfl
 | n :: l => by show _ :: (i64s l).flatten = _; rw [flatten_i64s l]; rfl
theorem valid_sorted (l : List Int) (vals : List AV) (hn : l.length ≤ 1000000) : Valid Tryz.prog 221 [.imp (l.map (Value.int .i64)) vals] (.ret (.isl (i64s (sortI l)) false)) := by
 refine ⟨⟨_,Tryz.func221,rfl,by kernel_rfl⟩,?_⟩
 intro w I J vs hI hJ hv
 cases hv with
 | cons h hs =>
 cases hs
 cases h with
 | imp h hj hw he hb =>
 rename_i vs r es clock
 have hsz : es.size = l.length := by have := congrArg List.length he.1; simpa using this
 refine (sorted_walk r es clock l w hw he.1 hb (by omega)).mono ?_
 rintro e w' ⟨cap,rfl,hrow,hbel⟩
 rw [sortI_merge] at hrow
 have hlen : (sortI l).length = l.length := (sortI_perm l).length_eq
 rcases hrow.2 with ⟨hnil,_⟩ | ⟨g,cap',cur,hv,hbase,hbl,h1,h2,h3,h4⟩
 ·cases hnil
 ·cases hv
  have hlt := (Array.getElem?_eq_some_iff.1 hbl).1
  refine ⟨hbel,fun b off => I b off ∨ (b = w.heap.size ∧ off < l.length),J,fun b off h => .inl h,fun b off h => ?_,fun b h => h,fun b h => .inl h,?_⟩
  ·rcases h with h | ⟨rfl,_⟩
   ·exact .inl h
   ·exact .inr ⟨Nat.le_refl _,hlt⟩
  ·show TV _ _ _ _ _
   have hil : (i64s (sortI l)).length = l.length := by simp [i64s,hlen]
   have := TV.isl (w := w') (I := fun b off => I b off ∨ (b = w.heap.size ∧ off < l.length)) (J := J) (es := i64s (sortI l)) (capd := false) (a := ⟨w.heap.size,0,none⟩) (vs := (sortI l).map (Value.int .i64)) (s := 1) (cap := cap)
    (by rw [flatten_i64s]; exact tvs_scs _) (fun _ => ⟨rfl,fun j v hv => ?_⟩) (by intro e he; obtain ⟨n,_,rfl⟩ := List.mem_map.1 he; rfl) (by omega) (by intro h; cases h)
   ·rw [hil] at this
    exact this
   ·have hj : j < l.length := by
     have := (List.getElem?_eq_some_iff.1 hv).1
     simpa [hlen] using this
    refine ⟨.inr ⟨rfl,by simpa using hj⟩,?_⟩
    rw [cell_of_heap hbl]
    rw [← h4] at hv
    rw [List.getElem?_take] at hv
    split at hv
    ·simpa using hv
    ·cases hv
theorem valid_find (s : ByteArray) (b : Int) : Valid Tryz.prog 332 [.sc (.string s),.sc (.int .u8 b)] (.ret (.sc (.int .i64 (Lib.indexByte s.data.toList b.toNat.toUInt8)))) := by
 refine ⟨⟨_,Tryz.func332,rfl,by kernel_rfl⟩,?_⟩
 intro w I J vs hI hJ hv
 cases hv with
 | cons h hs =>
 cases hs with
 | cons h2 hs =>
 cases hs
 cases h
 cases h2
 refine (Tryz.stringslite_IndexByte s b w).mono ?_
 rintro e w' ⟨rfl,rfl⟩
 exact ⟨Below.refl _ _,I,J,fun _ _ h => h,fun _ _ h => .inl h,fun _ h => h,fun _ h => .inl h,.sc rfl⟩
theorem tvs_append {w : World} {I : Nat → Nat → Prop} {J : Nat → Prop} : ∀ {cs cs' : List AV} {ds ds' : List Value},TVs w I J cs ds → TVs w I J cs' ds' → TVs w I J (cs ++ cs') (ds ++ ds')
 | _,_,_,_,.nil,h => h
 | _,_,_,_,.cons h hs,h' => .cons h (tvs_append hs h')
theorem enter_run {g : FuncId} (h : Enters Tryz.prog g) (args : Array Value) (w : World) : (callFunc g args).run Tryz.prog w = .ok (.enter g args) w := by
 obtain ⟨fn,h1,h2,h3⟩ := h
 have hb : fn.body.isNone = false := by cases hq : fn.body <;> simp_all
 simp only [callFunc,Sem.run_bind,run_program,Result.andThen_ok,h1,h3,hb,Bool.false_eq_true,if_false]
 rfl
theorem valid_decided_ret {g : FuncId} {first caps : List AV} {v : AV} (h : Valid Tryz.prog g (first ++ caps) (.ret v)) : Valid Tryz.prog 291 [.fn (.func g) first caps] (.ret (.sc (.int .i64 0))) := by
 refine ⟨⟨_,Tryz.func291,rfl,by kernel_rfl⟩,?_⟩
 intro w I J vs hI hJ hv
 cases hv with
 | cons hf hs =>
 cases hs
 cases hf with
 | fn hy hf hc =>
 rename_i fs cs
 have hal : ∀ b off,I b off → (w.alloc (.cells #[.int .i64 0] 35)).cell? ⟨b,off,none⟩ = w.cell? ⟨b,off,none⟩ := fun b off h => cell_same (heap_alloc_lt w _ (hI b off h))
 have hargs : TVs (w.alloc (.cells #[.int .i64 0] 35)) I J (first ++ caps) (fs ++ cs) := (tvs_append hf hc).mono (fun b off h => ⟨h,hal b off h⟩) (fun b h => ⟨h,heap_alloc_lt w _ (hJ b h)⟩)
 have hlt : ∀ n,n < w.heap.size → n < (w.alloc (.cells #[.int .i64 0] 35)).heap.size := fun n h => by rw [World.size_alloc]; omega
 have key := h.2 _ I J _ (fun b off q => hlt _ (hI b off q)) (fun b q => hlt _ (hJ b q)) hargs
 refine (decided_ret g fs.toArray cs.toArray w (fun args w => enter_run h.1 args w) (fun _ _ => True) ?_).mono ?_
 ·have e : fs.toArray ++ cs.toArray = (fs ++ cs).toArray := by simp
  rw [e]
  refine key.mono ?_
  rintro e w' ⟨hb,I',J',_,_,_,_,ho⟩
  refine ⟨by rw [World.size_alloc] at hb; exact hb,?_⟩
  cases e with
  | returned x => exact ⟨x,rfl,trivial⟩
  | panicked c => exact ho.elim
  | outgrown => exact ho.elim
 ·rintro e w' ⟨rfl,hb⟩
  exact ⟨hb,I,J,fun _ _ h => h,fun _ _ h => .inl h,fun _ h => h,fun _ h => .inl h,.sc rfl⟩
theorem valid_decided_pan {g : FuncId} {first caps : List AV} {n : Int} (h : Valid Tryz.prog g (first ++ caps) (.pan (.ifc 354 (.agg [.sc (.int .i64 n)])))) : Valid Tryz.prog 291 [.fn (.func g) first caps] (.ret (.sc (.int .i64 n))) := by
 refine ⟨⟨_,Tryz.func291,rfl,by kernel_rfl⟩,?_⟩
 intro w I J vs hI hJ hv
 cases hv with
 | cons hf hs =>
 cases hs
 cases hf with
 | fn hy hf hc =>
 rename_i fs cs
 have hal : ∀ b off,I b off → (w.alloc (.cells #[.int .i64 0] 35)).cell? ⟨b,off,none⟩ = w.cell? ⟨b,off,none⟩ := fun b off h => cell_same (heap_alloc_lt w _ (hI b off h))
 have hargs : TVs (w.alloc (.cells #[.int .i64 0] 35)) I J (first ++ caps) (fs ++ cs) := (tvs_append hf hc).mono (fun b off h => ⟨h,hal b off h⟩) (fun b h => ⟨h,heap_alloc_lt w _ (hJ b h)⟩)
 have hlt : ∀ n,n < w.heap.size → n < (w.alloc (.cells #[.int .i64 0] 35)).heap.size := fun n h => by rw [World.size_alloc]; omega
 have key := h.2 _ I J _ (fun b off q => hlt _ (hI b off q)) (fun b q => hlt _ (hJ b q)) hargs
 refine (decided_pan g fs.toArray cs.toArray n w (fun args w => enter_run h.1 args w) ?_).mono ?_
 ·have e : fs.toArray ++ cs.toArray = (fs ++ cs).toArray := by simp
  rw [e]
  refine key.mono ?_
  rintro e w' ⟨hb,I',J',_,_,_,_,ho⟩
  refine ⟨by rw [World.size_alloc] at hb; exact hb,?_⟩
  cases e with
  | returned x => exact ho.elim
  | outgrown => exact ho.elim
  | panicked c =>
   obtain ⟨v,rfl,hv⟩ := ho
   cases hv with
   | ifc hv =>
    cases hv with
    | agg hv =>
     cases hv with
     | cons h1 h2 =>
      cases h2
      cases h1
      rfl
 ·rintro e w' ⟨rfl,hb⟩
  exact ⟨hb,I,J,fun _ _ h => h,fun _ _ h => .inl h,fun _ h => h,fun _ h => .inl h,.sc rfl⟩
end Go.Abs.RL
end
