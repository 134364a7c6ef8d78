/- What the run leans on: three of the four answers by hand. -/
import Derived.Test.YtojknjmcmadhcaaGreatDoorAh
import Derived.Test.YtojknjmcmadhcaaGreatDoorProg
import Derived.Lib.Bytealg
import Derived.KernelRfl
import Derived.Test.YtojknjmcmadhcaaGreatDoorIb
import Derived.Test.YtojknjmcmadhcaaGreatDoorBa
import Derived.Test.YtojknjmcmadhcaaGreatDoorBl

section
namespace Go.Abs.R50
open Go.Proofs Go.RowKit

def putI (n : Int) : List Int → List Int
  | [] => [n]
  | m :: l => bif decide (n ≤ m) then n :: m :: l else m :: putI n l
def sortI : List Int → List Int
  | [] => []
  | n :: l => putI n (sortI l)

theorem putI_perm (n : Int) : ∀ l : List Int, (putI n l).Perm (n :: l)
  | [] => List.Perm.refl _
  | m :: l => by
    unfold putI
    cases decide (n ≤ m)
    · exact ((putI_perm n l).cons m).trans (List.Perm.swap _ _ _)
    · exact List.Perm.refl _

theorem sortI_perm : ∀ l : List Int, (sortI l).Perm l
  | [] => List.Perm.refl _
  | n :: l => (putI_perm n _).trans ((sortI_perm l).cons n)

theorem putI_sorted (n : Int) : ∀ l : List Int, l.Pairwise (· ≤ ·) → (putI n l).Pairwise (· ≤ ·)
  | [], _ => by simp [putI]
  | m :: l, h => by
    unfold putI
    obtain ⟨h1, h2⟩ := List.pairwise_cons.1 h
    cases hd : decide (n ≤ m)
    · have hlt : m ≤ n := by have := of_decide_eq_false hd; omega
      refine List.pairwise_cons.2 ⟨fun x hx => ?_, putI_sorted n l h2⟩
      rcases List.mem_cons.1 ((putI_perm n l).mem_iff.1 hx) with rfl | hx
      · exact hlt
      · exact h1 x hx
    · have hle : n ≤ m := of_decide_eq_true hd
      refine List.pairwise_cons.2 ⟨fun x hx => ?_, h⟩
      rcases List.mem_cons.1 hx with rfl | hx
      · exact hle
      · exact Int.le_trans hle (h1 x hx)

theorem sortI_sorted : ∀ l : List Int, (sortI l).Pairwise (· ≤ ·)
  | [] => List.Pairwise.nil
  | n :: l => putI_sorted n _ (sortI_sorted l)

theorem sortI_merge (l : List Int) : (l.mergeSort fun x y => decide (x ≤ y)) = sortI l := by
  have tr : ∀ (a b c : Int), decide (a ≤ b) = true → decide (b ≤ c) = true → decide (a ≤ c) = true := fun a b c h1 h2 => by simp at *; omega
  have tot : ∀ (a b : Int), (decide (a ≤ b) || decide (b ≤ a)) = true := fun a b => by simp; omega
  have pa := List.pairwise_mergeSort (le := fun x y : Int => decide (x ≤ y)) tr tot l
  refine List.Perm.eq_of_pairwise (le := fun x y => decide (x ≤ y) = true) ?_ pa ((sortI_sorted l).imp (by intro a b h; simpa using h)) ((List.mergeSort_perm l _).trans (sortI_perm l).symm)
  intro x y _ _ h1 h2
  simp at h1 h2
  omega

theorem tvs_scs {w : World} {I : Nat → Nat → Prop} {J : Nat → Prop} : ∀ l : List Int, TVs w I J (l.map fun n => .sc (.int .i64 n)) (l.map (Value.int .i64))
  | [] => .nil
  | _ :: l => .cons (.sc rfl) (tvs_scs l)

theorem flatten_i64s : ∀ l : List Int, (i64s l).flatten = l.map fun n => .sc (.int .i64 n)
  | [] => rfl
  | n :: l => by show _ :: (i64s l).flatten = _; rw [flatten_i64s l]; rfl

theorem valid_sorted (l : List Int) (vals : List AV) (hn : l.length ≤ 1000000) : Valid Tryz.prog 625 [.imt (l.map (Value.int .i64)) vals] (.ret (.isl (i64s (sortI l)) false)) := by
  refine ⟨⟨_, Tryz.func625, rfl, by kernel_rfl⟩, ?_⟩
  intro w I J vs hI hJ hv
  cases hv with
  | cons h hs =>
  cases hs
  cases h with
  | imt h hj hw he hb =>
  rename_i vs r es clock
  have hsz : es.size = l.length := by have := congrArg List.length he.1; simpa using this
  refine (sorted_walk r es clock l w hw he.1 hb (by omega)).mono ?_
  rintro e w' ⟨cap, rfl, hrow, hbel⟩
  rw [sortI_merge] at hrow
  have hlen : (sortI l).length = l.length := (sortI_perm l).length_eq
  rcases hrow.2 with ⟨hnil, _⟩ | ⟨g, cap', cur, hv, hbase, hbl, h1, h2, h3, h4⟩
  · cases hnil
  · cases hv
    have hlt := (Array.getElem?_eq_some_iff.1 hbl).1
    refine ⟨hbel, fun b off => I b off ∨ (b = w.heap.size ∧ off < l.length), J, fun b off h => .inl h, fun b off h => ?_, fun b h => h, fun b h => .inl h, ?_⟩
    · rcases h with h | ⟨rfl, _⟩
      · exact .inl h
      · exact .inr ⟨Nat.le_refl _, hlt⟩
    · show TV _ _ _ _ _
      have hil : (i64s (sortI l)).length = l.length := by simp [i64s, hlen]
      have := TV.isl (w := w') (I := fun b off => I b off ∨ (b = w.heap.size ∧ off < l.length)) (J := J) (es := i64s (sortI l)) (capd := false) (a := ⟨w.heap.size, 0, none⟩) (vs := (sortI l).map (Value.int .i64)) (s := 1) (cap := cap)
        (by rw [flatten_i64s]; exact tvs_scs _) ⟨rfl, fun j v hv => ?_⟩ (by intro e he; obtain ⟨n, _, rfl⟩ := List.mem_map.1 he; rfl) (by omega) (by intro h; cases h)
      · rw [hil] at this
        exact this
      · have hj : j < l.length := by
          have := (List.getElem?_eq_some_iff.1 hv).1
          simpa [hlen] using this
        refine ⟨.inr ⟨rfl, by simpa using hj⟩, ?_⟩
        rw [cell_of_heap hbl]
        rw [← h4] at hv
        rw [List.getElem?_take] at hv
        split at hv
        · simpa using hv
        · cases hv

theorem valid_find (s : ByteArray) (b : Int) : Valid Tryz.prog 85 [.sc (.string s), .sc (.int .u8 b)] (.ret (.sc (.int .i64 (Lib.indexByte s.data.toList b.toNat.toUInt8)))) := by
  refine ⟨⟨_, Tryz.func85, rfl, by kernel_rfl⟩, ?_⟩
  intro w I J vs hI hJ hv
  cases hv with
  | cons h hs =>
  cases hs with
  | cons h2 hs =>
  cases hs
  cases h
  cases h2
  refine (Tryz.stringslite_IndexByte s b w).mono ?_
  rintro e w' ⟨rfl, rfl⟩
  exact ⟨Below.refl _ _, I, J, fun _ _ h => h, fun _ _ h => .inl h, fun _ h => h, fun _ h => .inl h, .sc rfl⟩

theorem tvs_append {w : World} {I : Nat → Nat → Prop} {J : Nat → Prop} : ∀ {cs cs' : List AV} {ds ds' : List Value}, TVs w I J cs ds → TVs w I J cs' ds' → TVs w I J (cs ++ cs') (ds ++ ds')
  | _, _, _, _, .nil, h => h
  | _, _, _, _, .cons h hs, h' => .cons h (tvs_append hs h')

theorem enter_run {g : FuncId} (h : Enters Tryz.prog g) (args : Array Value) (w : World) : (callFunc g args).run Tryz.prog w = .ok (.enter g args) w := by
  obtain ⟨fn, h1, h2, h3⟩ := h
  have hb : fn.body.isNone = false := by cases hq : fn.body <;> simp_all
  simp only [callFunc, Sem.run_bind, run_program, Result.andThen_ok, h1, h3, hb, Bool.false_eq_true, if_false]
  rfl

theorem valid_decided_ret {g : FuncId} {first caps : List AV} {v : AV} (h : Valid Tryz.prog g (first ++ caps) (.ret v)) : Valid Tryz.prog 442 [.fn (.func g) first caps] (.ret (.sc (.int .i64 0))) := by
  refine ⟨⟨_, Tryz.func442, rfl, by kernel_rfl⟩, ?_⟩
  intro w I J vs hI hJ hv
  cases hv with
  | cons hf hs =>
  cases hs
  cases hf with
  | fn hy hf hc =>
  rename_i fs cs
  have hal : ∀ b off, I b off → (w.alloc (.cells #[.int .i64 0] 24)).cell? ⟨b, off, none⟩ = w.cell? ⟨b, off, none⟩ := fun b off h => cell_same (heap_alloc_lt w _ (hI b off h))
  have hargs : TVs (w.alloc (.cells #[.int .i64 0] 24)) I J (first ++ caps) (fs ++ cs) := (tvs_append hf hc).mono (fun b off h => ⟨h, hal b off h⟩) (fun b h => ⟨h, heap_alloc_lt w _ (hJ b h)⟩)
  have hlt : ∀ n, n < w.heap.size → n < (w.alloc (.cells #[.int .i64 0] 24)).heap.size := fun n h => by rw [World.size_alloc]; omega
  have key := h.2 _ I J _ (fun b off q => hlt _ (hI b off q)) (fun b q => hlt _ (hJ b q)) hargs
  refine (decided_ret g fs.toArray cs.toArray w (fun args w => enter_run h.1 args w) (fun _ _ => True) ?_).mono ?_
  · have e : fs.toArray ++ cs.toArray = (fs ++ cs).toArray := by simp
    rw [e]
    refine key.mono ?_
    rintro e w' ⟨hb, I', J', _, _, _, _, ho⟩
    refine ⟨by rw [World.size_alloc] at hb; exact hb, ?_⟩
    cases e with
    | returned x => exact ⟨x, rfl, trivial⟩
    | panicked c => exact ho.elim
    | outgrown => exact ho.elim
  · rintro e w' ⟨rfl, hb⟩
    exact ⟨hb, I, J, fun _ _ h => h, fun _ _ h => .inl h, fun _ h => h, fun _ h => .inl h, .sc rfl⟩

theorem valid_decided_pan {g : FuncId} {first caps : List AV} {n : Int} (h : Valid Tryz.prog g (first ++ caps) (.pan (.ifc 656 (.agg [.sc (.int .i64 n)])))) : Valid Tryz.prog 442 [.fn (.func g) first caps] (.ret (.sc (.int .i64 n))) := by
  refine ⟨⟨_, Tryz.func442, rfl, by kernel_rfl⟩, ?_⟩
  intro w I J vs hI hJ hv
  cases hv with
  | cons hf hs =>
  cases hs
  cases hf with
  | fn hy hf hc =>
  rename_i fs cs
  have hal : ∀ b off, I b off → (w.alloc (.cells #[.int .i64 0] 24)).cell? ⟨b, off, none⟩ = w.cell? ⟨b, off, none⟩ := fun b off h => cell_same (heap_alloc_lt w _ (hI b off h))
  have hargs : TVs (w.alloc (.cells #[.int .i64 0] 24)) I J (first ++ caps) (fs ++ cs) := (tvs_append hf hc).mono (fun b off h => ⟨h, hal b off h⟩) (fun b h => ⟨h, heap_alloc_lt w _ (hJ b h)⟩)
  have hlt : ∀ n, n < w.heap.size → n < (w.alloc (.cells #[.int .i64 0] 24)).heap.size := fun n h => by rw [World.size_alloc]; omega
  have key := h.2 _ I J _ (fun b off q => hlt _ (hI b off q)) (fun b q => hlt _ (hJ b q)) hargs
  refine (decided_pan g fs.toArray cs.toArray n w (fun args w => enter_run h.1 args w) ?_).mono ?_
  · have e : fs.toArray ++ cs.toArray = (fs ++ cs).toArray := by simp
    rw [e]
    refine key.mono ?_
    rintro e w' ⟨hb, I', J', _, _, _, _, ho⟩
    refine ⟨by rw [World.size_alloc] at hb; exact hb, ?_⟩
    cases e with
    | returned x => exact ho.elim
    | outgrown => exact ho.elim
    | panicked c =>
      obtain ⟨v, rfl, hv⟩ := ho
      cases hv with
      | ifc hv =>
        cases hv with
        | agg hv =>
          cases hv with
          | cons h1 h2 =>
            cases h2
            cases h1
            rfl
  · rintro e w' ⟨rfl, hb⟩
    exact ⟨hb, I, J, fun _ _ h => h, fun _ _ h => .inl h, fun _ h => h, fun _ h => .inl h, .sc rfl⟩

end Go.Abs.R50
end
