/- Rows of cells in memory, as a slice shows them. -/
import Derived.Test.YtojknjmcmadhcaaGreatDoorCa
import Derived.Test.YtojknjmcmadhcaaGreatDoorBo
import Derived.Lib.Strings

section
namespace Go.Proofs.R50
open Go.RowKit

/-- The slice v shows n elements of 'size' cells each; xs: the cells, one behind the other. -/
def Row (w : World) (v : Value) (size n : Nat) (xs : List Value) : Prop :=
 ∃ ao cap, v = .slice ao n cap ∧ n ≤ cap ∧ cap ≤ 9223372036854775807 ∧ xs.length = n * size ∧ (0 < n → ∃ b off, ao = some ⟨b, off, none⟩ ∧ b < w.heap.size ∧ ∀ j u, xs[j]? = some u → w.cell? ⟨b, off + j, none⟩ = some u)

theorem Row.on {w w' : World} {v : Value} {size n : Nat} {xs : List Value} (h : Row w v size n xs) (hb : Below w.heap.size w w') : Row w' v size n xs := by
 obtain ⟨ao, cap, h1, h2, h3, h4, h5⟩ := h
 refine ⟨ao, cap, h1, h2, h3, h4, fun hn => ?_⟩
 obtain ⟨b, off, e, hlt, hc⟩ := h5 hn
 exact ⟨b, off, e, Nat.lt_of_lt_of_le hlt hb.size, fun j u hu => (hb.cell (p := ⟨b, off + j, none⟩) hlt).trans (hc j u hu)⟩

theorem Row.nil {w : World} {size : Nat} : Row w (.slice none 0 0) size 0 [] := ⟨none, 0, rfl, Nat.le_refl _, by omega, by simp, fun h => by omega⟩

theorem ext_cell {w w1 : World} {b : Nat} (hw : Below w.heap.size w w1) (hb : b < w.heap.size) (X : Ext w1) (o : Nat) : X.val.cell? ⟨b, o, none⟩ = w.cell? ⟨b, o, none⟩ :=
 (X.cell b o (Nat.lt_of_lt_of_le hb hw.size)).trans (hw.cell (p := ⟨b, o, none⟩) hb)

/-- A load of a whole struct, its value known in every world of the class. -/
theorem quiet_load {P : Program} {o : Oper} {a : Act} {K : Act → Prop} {W : World} (ty : TypeId) (x : Operand) (ho : o.op = .load ty x) (p : Addr) (hx : a.eval x = .pointer (some p)) (v : Value)
  (h : ∀ X : Ext W, (Instr.loadAt ty (.pointer (some p))).run P X.val = .ok v X.val) (hk : K (a.put o.dst v)) : o.quiet P a (fun w' => ∃ X : Ext W, w' = X.val) K := by
 refine ⟨v, ?_, hk⟩
 rintro _ ⟨X, rfl⟩
 unfold Oper.quietAt execOp
 simp only [ho, hx, Sem.run_bind, h X, Result.andThen_ok, Sem.run_pure]
 exact ⟨rfl, rfl⟩
end Go.Proofs.R50
end

/- Regions that draw their order, whose last special operation waits for all quiet ones: these may read what it turns. -/
section
namespace Go.Proofs.R50
open Go.ChangeShapes Go.WideShapes Go.ChangeAt Go.RowKit

section
variable {P : Program} {ops : Array Oper}
variable {w w' : World} {g : Nat} {t : TypeId} {cs : Array Value}
/-- Some special operation waits for each quiet one. -/
def lastB (ops : Array Oper) (S : List Nat) : Bool := (List.range ops.size).all fun j => S.contains j || (List.range S.length).any fun c => waits3 ops (S.getD c 0) j
theorem last_of {ops : Array Oper} {S : List Nat} (h : lastB ops S = true) : ∀ j, j < ops.size → j ∉ S → ∃ c, c < S.length ∧ waits3 ops (S.getD c 0) j = true := fun j hj hS => by
 have := List.all_eq_true.1 h j (List.mem_range.2 hj)
 simp only [Bool.or_eq_true, List.contains_iff_mem, hS, false_or] at this
 obtain ⟨c, hc, hw⟩ := List.any_eq_true.1 this
 exact ⟨c, List.mem_range.1 hc, hw⟩
structure QuietAt2 (P : Program) (ops : Array Oper) (okW : World → Prop) (S : List Nat) (A a0 : Act) (i : Nat) (o : Oper) (d : Tmp) (ai : Act) : Prop where
 done : ∀ s, (∀ j, j < ops.size → j ∉ S → dstAt ops j = some s → j < i) → ai.tmps.getD s undef = A.tmps.getD s undef
 open_ : ∀ s j, j < ops.size → j ∉ S → dstAt ops j = some s → i ≤ j → ai.tmps.getD s undef = a0.tmps.getD s undef
 len : ai.tmps.size = A.tmps.size
 ok : (Region.wanted o (yielded ops ai.tmps) = true ∧ ∀ w, okW w → Gives P o ai w (A.tmps.getD d undef)) ∨ (Region.wanted o (yielded ops ai.tmps) = false ∧ A.tmps.getD d undef = undef)

/-- The walk over a list of operations with their indices. -/
theorem quietAt_of2 {W : World} {okW : World → Prop} {S : List Nat} {A a0 : Act} (ms : Net ops S) (hrefl : okW W) : ∀ (l : List (Nat × Oper)) (a : Act), (∀ x ∈ l, ops[x.1]? = some x.2 ∧ x.1 ∉ S) → l.Pairwise (fun x y => x.1 < y.1) →
  (∀ i, i < ops.size → i ∉ S → (∀ x ∈ l, x.1 ≠ i) → ∀ x ∈ l, i < x.1) →
  (∀ i, i < ops.size → ∀ d, dstAt ops i = some d → d < a.tmps.size) →
  (∀ x ∈ l, ∀ s, dstAt ops x.1 = some s → a.tmps.getD s undef = a0.tmps.getD s undef) →
  (∀ W1, okW W1 → wpQuiet P ops (fun w' => ∃ x : Ext W1, w' = x.val) (fun a' => a' = A) (l.map (·.2)) a) →
  ∀ x ∈ l, ∀ d, x.2.dst = some d → ∃ ai, QuietAt2 P ops okW S A a0 x.1 x.2 d ai
 | [], a, _, _, _, _, _, _, x, hx, _, _ => by cases hx
 | (b, o) :: l, a, hl, hpw, hall, hsz, hop, h, x, hx, d', hd' => by
  obtain ⟨h0, hbS⟩ := hl (b, o) (List.mem_cons_self ..)
  have hbs : b < ops.size := (Array.getElem?_eq_some_iff.1 h0).1
  obtain ⟨d, hdb⟩ := ms.dst b hbs hbS
  have hd : o.dst = some d := by simpa [dstAt, h0] using hdb
  have huniq := ms.uniq b hbs d hdb
  have hpw' := List.pairwise_cons.1 hpw
  have hl' : ∀ y ∈ l, ops[y.1]? = some y.2 ∧ y.1 ∉ S := fun y hy => hl y (List.mem_cons_of_mem _ hy)
  have later : ∀ o1 ∈ l.map (·.2), o1.dst ≠ some d := fun o1 ho1 he => by
   obtain ⟨y, hy, rfl⟩ := List.mem_map.1 ho1
   have h3 := (hl' y hy).1
   have hs := (Array.getElem?_eq_some_iff.1 h3).1
   have := hpw'.1 y hy
   exact huniq _ hs (by omega) (by simp [dstAt, h3, he])
  have hdl : d < a.tmps.size := hsz b hbs d hdb
  obtain ⟨hag1, hag2, hag3⟩ := quiet_agree _ _ (h W hrefl)
  have val : ∀ v, ∀ W1, wpQuiet P ops (fun w' => ∃ x : Ext W1, w' = x.val) (fun a' => a' = A) (l.map (·.2)) (a.put (some d) v) → v = A.tmps.getD d undef := fun v W1 hv => by
   obtain ⟨_, _, h3⟩ := quiet_agree _ _ hv
   rw [h3 d later, put_getD_same hdl]
  have next : (∀ W1, okW W1 → wpQuiet P ops (fun w' => ∃ x : Ext W1, w' = x.val) (fun a' => a' = A) (l.map (·.2)) (a.put (some d) (A.tmps.getD d undef))) := fun W1 hW1 => by
   have h1 := h W1 hW1
   rw [List.map_cons] at h1
   unfold wpQuiet at h1
   by_cases hw : Region.wanted o (yielded ops a.tmps) = true
   ·rw [if_pos hw] at h1
    obtain ⟨v, _, hv⟩ := h1
    rw [hd] at hv
    have := val v W1 hv
    subst this
    exact hv
   ·rw [if_neg hw, hd] at h1
    have := val undef W1 h1
    rw [← this]
    exact h1
  rcases List.mem_cons.1 hx with hx | hx
  ·subst hx
   obtain rfl : d' = d := Option.some.inj (hd'.symm.trans hd)
   refine ⟨a, fun s hs => ?_, fun s j hj hjS hjs hij => ?_, hag2, ?_⟩
   ·refine (hag3 s fun o1 ho1 he => ?_).symm
    obtain ⟨y, hy, rfl⟩ := List.mem_map.1 ho1
    obtain ⟨h3, h4⟩ := hl y hy
    have hss := (Array.getElem?_eq_some_iff.1 h3).1
    have h5 := hs y.1 hss h4 (by simp [dstAt, h3, he])
    rcases List.mem_cons.1 hy with h6 | h6
    ·subst h6; simp at h5
    ·have := hpw'.1 y h6
     simp at h5
     omega
   ·simp only at hij
    by_cases hjl : ∃ y ∈ (b, o) :: l, y.1 = j
    ·obtain ⟨y, hy, rfl⟩ := hjl
     exact hop y hy s hjs
    ·exfalso
     have := hall j hj hjS (fun y hy he => hjl ⟨y, hy, he⟩) (b, o) (List.mem_cons_self ..)
     simp at this
     omega
   ·simp only
    by_cases hw : Region.wanted o (yielded ops a.tmps) = true
    ·refine .inl ⟨hw, fun w hbw => ?_⟩
     have h1 := h w hbw
     rw [List.map_cons] at h1
     unfold wpQuiet at h1
     rw [if_pos hw] at h1
     obtain ⟨v, hv1, hv⟩ := h1
     rw [hd] at hv
     have := val v w hv
     subst this
     have h2 := hv1 w ⟨⟨w, Below.refl _ _⟩, rfl⟩
     unfold Gives Oper.quietAt at *
     generalize (execOp a.eval o).run P w = r at *
     cases r with
     | halt x w' => exact h2
     | ok nx w' =>
      cases nx <;> simp only [Oper.quietUpon] at h2 ⊢
      ·exact h2
      ·exact h2
      ·obtain ⟨e1, hc⟩ := h2
       exact ⟨e1, hc.mono fun e w'' ⟨he, x, hx⟩ => ⟨he, hx ▸ x.below⟩⟩
    ·have hw' : Region.wanted o (yielded ops a.tmps) = false := by simpa using hw
     refine .inr ⟨hw', ?_⟩
     have h1 := h W hrefl
     rw [List.map_cons] at h1
     unfold wpQuiet at h1
     rw [if_neg hw, hd] at h1
     exact (val undef W h1).symm
  ·exact quietAt_of2 ms hrefl l _ hl' hpw'.2
    (fun i hi hiS hne y hy => by
     by_cases hib : i = b
     ·subst hib; exact hpw'.1 y hy
     ·exact hall i hi hiS (fun z hz => by
       rcases List.mem_cons.1 hz with h6 | h6
       ·subst h6; exact fun e => hib e.symm
       ·exact hne z h6) y (List.mem_cons_of_mem _ hy))
    (fun i hi d1 hd1 => by rw [put_size]; exact hsz i hi d1 hd1)
    (fun y hy s hs => by
     have hyb := hpw'.1 y hy
     have hys := (Array.getElem?_eq_some_iff.1 (hl' y hy).1).1
     have hne : s ≠ d := fun e => by
      subst e
      simp at hyb
      exact huniq y.1 hys (by omega) hs
     rw [put_getD_ne hne]
     exact hop y (List.mem_cons_of_mem _ hy) s hs) next x hx d' hd'

theorem net_core2 {okW : World → Prop} {W : World} {row : Option Nat} {S : List Nat} {A a0 : Act} {F : Nat → World → List Value → Prop} {Q : Exit → Act → World → Prop} (ms : Net ops S) (sp : SpecOK P ops W row S A F)
  (hok : ∀ ν w, ν.length < S.length → W.grownBy w row → F ν.length w ν → okW w) (hlast : ∀ j, j < ops.size → j ∉ S → ∃ c, c < S.length ∧ waits3 ops (S.getD c 0) j = true)
  (hz : ∀ i, i < ops.size → ∀ s, dstAt ops i = some s → s < A.tmps.size)
  (hA0 : ∀ s, (∀ i, i < ops.size → i ∉ S → dstAt ops i ≠ some s) → A.tmps.getD s undef = a0.tmps.getD s undef)
  (hq : ∀ i, i < ops.size → i ∉ S → ∀ o s, ops[i]? = some o → o.dst = some s → ∃ ai, QuietAt2 P ops okW S A a0 i o s ai)
  (hT : ∀ ν w, ν.length = S.length → W.grownBy w row → F S.length w ν → Q .normal (fillA A (dstsOfS ops S) ν) w) :
  ∀ (f : Nat) (listed : Array Bool) (a : Act) (w : World), Inv3 ops W row S A a0 F listed a w → unl listed ops.size = f → wpAny P .any ops Q f listed a w
 | 0, listed, a, w, inv, hu => by
  have hl := unl_zero ops.size hu
  refine ⟨?_, ?_⟩
  ·cases hr : Region.ready .any ops listed with
   | nil => rfl
   | cons j r =>
    have hj : j ∈ Region.ready .any ops listed := by rw [hr]; exact List.mem_cons_self ..
    obtain ⟨h1, o, ho, _⟩ := mem_ready.1 hj
    rw [hl j (Array.getElem?_eq_some_iff.1 ho).1] at h1
    cases h1
  ·obtain ⟨ν, hp, hpl, hf, hv⟩ := inv.spec
   have hpk : ν.length = S.length := by
    rcases Nat.lt_or_ge ν.length S.length with h | h
    ·have h1 := hpl ν.length h
     rw [hl _ (ms.lt _ h)] at h1
     simp at h1
    ·omega
   have hA : a = fillA A (dstsOfS ops S) ν := act_eq (by rw [fillA_defers]; exact inv.defers) (by rw [fillA_size]; exact inv.len) fun s =>
    fillA_seen ms hz hA0 inv hp hpl hv fun i hi _ _ => hl i hi
   rw [hA]
   exact hT ν w hpk inv.off (hpk ▸ hf)
 | f + 1, listed, a, w, inv, hu => by
  refine ⟨fun h0 => ?_, fun j hj => ?_⟩
  ·obtain ⟨i, hi, hun, hkl⟩ := unl_least (listed := listed) ops.size (by omega)
   have hoi : ops[i]? = some ops[i] := Array.getElem?_eq_getElem hi
   have : i ∈ Region.ready .any ops listed := mem_ready.2 ⟨hun, _, hoi, fun e he hb => by
    have h1 := ms.after i _ hoi e he hb
    have h2 := hkl _ h1
    have hlt : e.on < listed.size := by rw [inv.size]; omega
    simp [hlt] at h2 ⊢
    exact h2⟩
   rw [h0] at this
   cases this
  ·obtain ⟨hju, o, ho, hall⟩ := mem_ready.1 hj
   have hjs : j < ops.size := (Array.getElem?_eq_some_iff.1 ho).1
   have hjl : j < listed.size := by rw [inv.size]; exact hjs
   have hjf : listed.getD j false = false := by simp [hjl] at hju ⊢; exact hju
   have hcnt : unl (listed.setIfInBounds j true) ops.size = f := by
    have := unl_set hjl hju ops.size hjs
    omega
   have hclosed : Closed ops (listed.setIfInBounds j true) := fun i oi hoi hl e he hb => by
    by_cases hij : i = j
    ·subst hij
     obtain rfl : oi = o := Option.some.inj (hoi.symm.trans ho)
     exact getD_set_true (hall e he hb)
    ·rw [getD_set_ne false (Ne.symm hij)] at hl
     exact getD_set_true (inv.closed i oi hoi hl e he hb)
   have hset : ∀ i, i ≠ j → (listed.setIfInBounds j true).getD i true = listed.getD i true := fun i hij => getD_set_ne true (Ne.symm hij)
   have hsetj : (listed.setIfInBounds j true).getD j true = true := by simp [hjl]
   unfold wpOp
   simp only [ho]
   by_cases hsp : j ∈ S
   ·-- a special operation
    obtain ⟨c, hck, rfl⟩ : ∃ c, c < S.length ∧ j = S.getD c 0 := by
     obtain ⟨c, hc, hce⟩ := List.mem_iff_getElem.1 hsp
     exact ⟨c, hc, by simp [List.getD, hc, hce]⟩
    obtain ⟨o', ho', hgd, hstep⟩ := sp.steps c hck
    obtain rfl : o' = o := Option.some.inj (ho'.symm.trans ho)
    obtain ⟨ν, hp, hpl, hf, hv⟩ := inv.spec
    have hcp : ν.length = c := by
     have h1 := hpl c hck
     rw [hju] at h1
     have h1 : ¬ c < ν.length := by simpa using h1.symm
     rcases Nat.lt_or_ge ν.length c with h | h
     ·have h2 := hpl (c - 1) (by omega)
      have h3 := true_of_false (ready_waits inv.closed hj (ms.chain c hck (by omega)))
      rw [h2] at h3
      have : c - 1 < ν.length := by simpa using h3
      omega
     ·omega
    have hlook : ∀ s, s ∈ o'.looksAt ops → a.tmps.getD s undef = (fillA A (dstsOfS ops S) ν).tmps.getD s undef := fun s hs =>
     fillA_seen ms hz hA0 inv hp hpl hv fun i hi hiS he => by
      rcases ms.looks _ o' ho i hi s he hs with ⟨_, h2, _⟩ | ⟨_, _, h3⟩
      ·exact true_of_false (ready_waits inv.closed hj h2)
      ·rcases h3 with h3 | h3
       ·exact absurd hsp h3
       ·exact absurd h3 hiS
    obtain ⟨hex, hwn⟩ := exec_same (Region.noSelect_spec ms.sel _ o' · · ho) hlook (by rw [fillA_size]; exact inv.len)
    have hw : Region.wanted o' (yielded ops a.tmps) = true := by
     rcases hgd with hgd | hgd
     ·simp [Region.wanted, hgd]
     ·rw [hwn]; exact hgd w ν hcp (hcp ▸ hf)
    simp only [hw, if_true]
    refine .inl (Leaves.wp (G := fun u w' => F (c + 1) w' (ν ++ [u])) (W := W) (row := row) ?_ fun u w'' hb hf' => ?_)
    ·have := hstep w ν hcp inv.off (hcp ▸ hf)
     unfold Leaves at *
     rw [hex]
     exact this
    ·have hdo : ∀ s, o'.dst = some s → dstAt ops (S.getD c 0) = some s := fun s hs => by unfold dstAt; rw [ho]; exact hs
     have hne : ∀ s, dstAt ops (S.getD c 0) ≠ some s → (a.put o'.dst u).tmps.getD s undef = a.tmps.getD s undef := fun s hs => by
      cases hd : o'.dst with
      | none => rfl
      | some t => exact put_getD_ne fun e => hs (by rw [hdo t hd, e])
     refine net_core2 ms sp hok hlast hz hA0 hq hT f _ _ _ ⟨by simp [inv.size], hclosed, by rw [put_defers]; exact inv.defers, by rw [put_size]; exact inv.len, fun s hsd hs => ?_, fun s i hi he hl => ?_, hb, ν ++ [u], by simp; omega, fun i hi => ?_, ?_, fun i v s hiv his => ?_⟩ hcnt
     ·rw [hne s (hsd _ hsp)]
      refine inv.new s hsd fun i hi he => ?_
      by_cases hij : i = S.getD c 0
      ·subst hij
       exact absurd he (hsd _ hsp)
      ·rw [← hset i hij]; exact hs i hi he
     ·have hij : i ≠ S.getD c 0 := fun e => by subst e; rw [hsetj] at hl; cases hl
      rw [hne s fun e => ms.uniq i hi s he _ hjs (Ne.symm hij) e]
      rw [hset i hij] at hl
      exact inv.old s i hi he hl
     ·by_cases hic : i = c
      ·subst hic
       rw [hsetj]
       simp; omega
      ·rw [hset _ (S_ne ms hi hck hic), hpl i hi]
       simp only [List.length_append, List.length_cons, List.length_nil, decide_eq_decide]
       omega
     ·simp only [List.length_append, List.length_cons, List.length_nil, Nat.zero_add, hcp]
      exact hf'
     ·by_cases hic : i < ν.length
      ·rw [List.getElem?_append_left hic] at hiv
       have hiS : i < S.length := by omega
       rw [hne s fun e => ms.uniq _ (ms.lt i hiS) s his _ hjs (S_ne ms hck hiS (by omega)) e]
       exact hv i v s hiv his
      ·have : i = ν.length := by
        have := (List.getElem?_eq_some_iff.1 hiv).1
        simp at this
        omega
       subst this
       rw [List.getElem?_append_right (Nat.le_refl _)] at hiv
       simp at hiv
       subst hiv
       rw [hcp] at his
       have : o'.dst = some s := by unfold dstAt at his; rw [ho] at his; exact his
       rw [this]
       exact put_getD_same (by rw [inv.len]; exact hz _ hjs s his)
   ·-- a quiet one
    obtain ⟨s0, hs0⟩ := ms.dst j hjs hsp
    have hos : o.dst = some s0 := by simpa [dstAt, ho] using hs0
    obtain ⟨ai, hai⟩ := hq j hjs hsp o s0 ho hos
    have hlook : ∀ s, s ∈ o.looksAt ops → a.tmps.getD s undef = ai.tmps.getD s undef := fun s hs => by
     by_cases hex : ∃ i, i < ops.size ∧ dstAt ops i = some s
     ·obtain ⟨i, hi, he⟩ := hex
      have only : ∀ i', i' < ops.size → dstAt ops i' = some s → i' = i := fun i' hi' he' => by
       rcases Decidable.em (i' = i) with h | h
       ·exact h
       ·exact absurd he' (ms.uniq i hi s he i' hi' h)
      rcases ms.looks j o ho i hi s he hs with ⟨h1, h2, h3⟩ | ⟨h1, h2, h3⟩
      ·have hiS : i ∉ S := by
        rcases h3 with h3 | h3
        ·exact absurd h3 hsp
        ·exact h3
       have hil := true_of_false (ready_waits inv.closed hj h2)
       rw [inv.new s (fun i' hi' he' => by
        obtain ⟨q, hq1, hq2⟩ := List.mem_iff_getElem.1 hi'
        have hq3 := ms.lt q hq1
        have : S.getD q 0 = i' := by simp [List.getD, hq1, hq2]
        rw [this] at hq3
        exact hiS (only i' hq3 he' ▸ hi')) fun i' hi' he' => by rw [only i' hi' he']; exact hil]
       exact (hai.done s fun i' hi' _ he' => by rw [only i' hi' he']; exact h1).symm
      ·have hil : listed.getD i true = false := by
        cases hl : listed.getD i true with
        | false => rfl
        | true =>
         have hil : listed.getD i false = true := getD_true_of (by rw [inv.size]; exact hi) hl
         rw [waits3_listed inv.closed hil h2] at hjf
         cases hjf
       rw [inv.old s i hi he hil]
       by_cases hiS : i ∈ S
       ·have h5 : ∀ i', i' < ops.size → i' ∉ S → dstAt ops i' ≠ some s := fun i' hi' hS he' => hS (only i' hi' he' ▸ hiS)
        rw [hai.done s fun i' hi' hS he' => absurd he' (h5 i' hi' hS)]
        exact (hA0 s h5).symm
       ·exact (hai.open_ s i hi hiS he (by omega)).symm
     ·rw [inv.new s (fun i hi he => by
       obtain ⟨q, hq1, hq2⟩ := List.mem_iff_getElem.1 hi
       have hq3 := ms.lt q hq1
       have : S.getD q 0 = i := by simp [List.getD, hq1, hq2]
       rw [this] at hq3
       exact hex ⟨i, hq3, he⟩) fun i hi he => absurd ⟨i, hi, he⟩ hex]
      exact (hai.done s fun i hi _ he => absurd ⟨i, hi, he⟩ hex).symm
    obtain ⟨hex, hwt⟩ := exec_same (Region.noSelect_spec ms.sel j o · · ho) hlook (by rw [inv.len]; exact hai.len.symm)
    have step : ∀ w'', Below w.heap.size w w'' → wpAny P .any ops Q f (listed.setIfInBounds j true) (a.put o.dst (A.tmps.getD s0 undef)) w'' := fun w'' hb => by
     refine net_core2 ms sp hok hlast hz hA0 hq hT f _ _ _ ⟨by simp [inv.size], hclosed, by rw [put_defers]; exact inv.defers, by rw [put_size]; exact inv.len, fun s hsd hs => ?_, fun s i hi he hl => ?_, grownBy_trans inv.off (grownBy_of_below hb), ?_⟩ hcnt
     ·rw [hos]
      by_cases hss : s = s0
      ·subst hss
       exact put_getD_same (by rw [inv.len]; exact hz j hjs _ hs0)
      ·rw [put_getD_ne hss]
       refine inv.new s hsd fun i hi he => ?_
       have hij : i ≠ j := fun e => by
        subst e
        rw [hs0] at he
        exact hss (Option.some.inj he).symm
       rw [← hset i hij]
       exact hs i hi he
     ·have hij : i ≠ j := fun e => by subst e; rw [hsetj] at hl; cases hl
      have hss : s ≠ s0 := fun e => by
       subst e
       exact ms.uniq j hjs _ hs0 i hi hij he
      rw [hos, put_getD_ne hss]
      rw [hset i hij] at hl
      exact inv.old s i hi he hl
     ·obtain ⟨ν, hp, hpl, hf, hv⟩ := inv.spec
      refine ⟨ν, hp, fun c hc => ?_, sp.stable _ w w'' ν hf hb, fun i v s hiv his => ?_⟩
      ·rw [hset _ (fun e => hsp (by rw [← e]; exact getS hc))]
       exact hpl c hc
      ·have hiS : i < S.length := by have := (List.getElem?_eq_some_iff.1 hiv).1; omega
       have hss : s ≠ s0 := fun e => by
        subst e
        exact ms.uniq j hjs _ hs0 _ (ms.lt i hiS) (fun e => hsp (by rw [← e]; exact getS hiS)) his
       rw [hos, put_getD_ne hss]
       exact hv i v s hiv his
    rw [hwt]
    rcases hai.ok with ⟨hw, hg⟩ | ⟨hw, hg⟩
    ·simp only [hw, if_true]
     refine .inl (Gives.wp (v := A.tmps.getD s0 undef) ?_ fun w'' hb => step w'' hb)
     have hokw : okW w := by
      obtain ⟨ν, hp, hpl, hf, hv⟩ := inv.spec
      rcases Nat.lt_or_ge ν.length S.length with h | h
      ·exact hok ν w h inv.off hf
      ·obtain ⟨c, hc, hcw⟩ := hlast j hjs hsp
       have h1 := hpl c hc
       have h1 : listed.getD (S.getD c 0) true = true := by rw [h1]; simp; omega
       have h2 : listed.getD (S.getD c 0) false = true := getD_true_of (by rw [inv.size]; exact ms.lt c hc) h1
       rw [waits3_listed inv.closed h2 hcw] at hjf
       cases hjf
     have := hg w hokw
     unfold Gives Oper.quietAt at *
     rw [hex]
     exact this
    ·simp only [hw, Bool.false_eq_true, if_false]
     rw [← hg]
     exact step w (Below.refl _ _)

theorem wp_region_net2 {id : Nat} {Q : Exit → Act → World → Prop} {a : Act} {w : World} {l : List Oper} (S : List Nat) (row : Option Nat) (F : Nat → World → List Value → Prop)
  (hm : P.follows .mixedOrders = true) (hB : netB l.toArray S = true) (hr : roomB l.toArray l.length a.tmps.size = true) (hF0 : F 0 w [])
  (hL : lastB l.toArray S = true) (hS : 0 < S.length)
  (h : ∃ A, (∀ W1, (∃ ν, ν.length < S.length ∧ w.grownBy W1 row ∧ F ν.length W1 ν) → wpQuiet P l.toArray (fun w' => ∃ x : Ext W1, w' = x.val) (fun a' => a' = A) (quietOps S 0 l) a) ∧ SpecOK P l.toArray w row S A F ∧
   ∀ ν w1, ν.length = S.length → w.grownBy w1 row → F S.length w1 ν → Q .normal (fillA A (dstsOfS l.toArray S) ν) w1) : (Code.region id l.toArray true).wp P Q a w := by
 obtain ⟨A, h, sp, hT⟩ := h
 have ms := net_of hB
 have hb0 : Below w.heap.size w { w with drawn := w.drawn + 1 } := ⟨rfl, rfl, rfl, Nat.le_refl _, fun _ _ => rfl⟩
 have hrefl : w.grownBy w row := grownBy_of_below (Below.refl _ _)
 have hag := quiet_agree _ _ (h w ⟨[], hS, hrefl, hF0⟩)
 have hroom : ∀ i, i < l.toArray.size → ∀ s, dstAt l.toArray i = some s → s < a.tmps.size := fun i hi s hs => room_of hr i (by simpa using hi) s hs
 have hmem : ∀ x, x ∈ quietPairs S 0 l ↔ l.toArray[x.1]? = some x.2 ∧ x.1 ∉ S := fun x => by
  rw [quietPairs_mem]; simp
 have hq := quietAt_of2 (okW := fun W1 => ∃ ν : List Value, ν.length < S.length ∧ w.grownBy W1 row ∧ F ν.length W1 ν) (a0 := a) ms ⟨[], hS, hrefl, hF0⟩ (quietPairs S 0 l) a (fun x hx => (hmem x).1 hx) (quietPairs_inc l 0) (fun i hi hiS hne => by
   exfalso
   have hoi : l.toArray[i]? = some l.toArray[i] := Array.getElem?_eq_getElem hi
   exact hne (i, l.toArray[i]) ((hmem _).2 ⟨hoi, hiS⟩) rfl) hroom (fun _ _ _ _ => rfl) (fun W1 hW => by rw [quietPairs_map]; exact h W1 hW)
 have hA0 : ∀ s, (∀ i, i < l.toArray.size → i ∉ S → dstAt l.toArray i ≠ some s) → A.tmps.getD s undef = a.tmps.getD s undef := fun s hs => hag.2.2 s fun o ho he => by
  rw [← quietPairs_map] at ho
  obtain ⟨x, hx, rfl⟩ := List.mem_map.1 ho
  obtain ⟨h1, h2⟩ := (hmem x).1 hx
  exact hs x.1 (Array.getElem?_eq_some_iff.1 h1).1 h2 (by simp [dstAt, h1, he])
 refine wp_region_any hm ?_
 refine net_core2 (okW := fun W1 => ∃ ν : List Value, ν.length < S.length ∧ w.grownBy W1 row ∧ F ν.length W1 ν) (a0 := a) ms sp (fun ν w' h1 h2 h3 => ⟨ν, h1, h2, h3⟩) (last_of hL) (fun i hi s hs => by rw [← hag.2.1]; exact hroom i hi s hs) hA0 (fun i hi hs o s ho hd => hq (i, o) ((hmem _).2 ⟨ho, hs⟩) s hd) hT _ _ a _ ?_ (unl_all _ (Nat.le_refl _))
 refine ⟨by simp, fun j oj _ hl => (by rw [getD_replicate_false] at hl; cases hl), hag.1, hag.2.1, fun s hsd hs => (hA0 s fun i hi hiS he => ?_).symm, fun _ _ _ _ _ => rfl, grownBy_of_below hb0, [], Nat.zero_le _, fun j hj => ?_, sp.stable _ _ _ _ hF0 hb0, fun _ _ _ h => by simp at h⟩
 ·have hi' : i < l.length := by simpa using hi
  have := hs i hi he
  simp [hi'] at this
 ·have := ms.lt j hj
  have : S.getD j 0 < l.length := by simpa using this
  have h1 : (Array.replicate l.toArray.size false)[S.getD j 0]? = some false := by
   rw [Array.getElem?_replicate, if_pos (by simpa using this)]
  rw [Array.getD_eq_getD_getElem?, h1]
  simp


end
end Go.Proofs.R50
end

/- Regions that draw their order: the special operations' facts carry all that is known. -/
section
namespace Go.Proofs.R50.T
open Go.ChangeShapes Go.WideShapes Go.ChangeAt Go.RowKit

section
variable {P : Program} {ops : Array Oper}
variable {w w' : World} {g : Nat} {t : TypeId} {cs : Array Value}
def GT (_ _ : World) (_ : Option Nat) : Prop := True
theorem gt_trans {a b c : World} {row : Option Nat} (_ : GT a b row) (_ : GT b c row) : GT a c row := trivial
theorem gt_of_below {a b : World} {row : Option Nat} (_ : Below a.heap.size a b) : GT a b row := trivial
def Leaves (P : Program) (o : Oper) (a : Act) (W w : World) (row : Option Nat) (G : Value → World → Prop) : Prop :=
 match (execOp a.eval o).run P w with
 | .ok (.value u) w' => GT W w' row ∧ G u w'
 | .ok .skip w' => GT W w' row ∧ G undef w'
 | .ok (.enter f args) w' => Calls P f args w' (fun e w'' => ∃ u, e = .returned u ∧ GT W w'' row ∧ G u w'')
 | _ => False

theorem Leaves.wp {o : Oper} {a : Act} {W w : World} {row : Option Nat} {G : Value → World → Prop} {K : Act → World → Prop} {Q : Exit → Act → World → Prop} (h : Leaves P o a W w row G) (hk : ∀ u w'', GT W w'' row → G u w'' → K (a.put o.dst u) w'') : o.wp P a w K Q := by
 unfold Leaves at h
 unfold Oper.wp
 generalize (execOp a.eval o).run P w = r at *
 cases r with
 | ok n w' =>
  cases n <;> simp only at h <;> simp only [Oper.upon]
  case value u => exact hk _ _ h.1 h.2
  case skip => exact hk _ _ h.1 h.2
  case enter f args => exact h.mono fun e w'' ⟨v, he, hb, hf⟩ => by subst he; exact hk _ _ hb hf
 | halt x w' => simp only at h

structure Inv3 (ops : Array Oper) (W : World) (row : Option Nat) (S : List Nat) (A a0 : Act) (F : Nat → World → List Value → Prop) (listed : Array Bool) (a : Act) (w : World) : Prop where
 size : listed.size = ops.size
 closed : Closed ops listed
 defers : a.defers = A.defers
 len : a.tmps.size = A.tmps.size
 new : ∀ s, (∀ i ∈ S, dstAt ops i ≠ some s) → (∀ i, i < ops.size → dstAt ops i = some s → listed.getD i true = true) → a.tmps.getD s undef = A.tmps.getD s undef
 old : ∀ s i, i < ops.size → dstAt ops i = some s → listed.getD i true = false → a.tmps.getD s undef = a0.tmps.getD s undef
 off : GT W w row
 spec : ∃ ν : List Value, ν.length ≤ S.length ∧ (∀ j, j < S.length → listed.getD (S.getD j 0) true = decide (j < ν.length)) ∧ F ν.length w ν ∧ ∀ j v s, ν[j]? = some v → dstAt ops (S.getD j 0) = some s → a.tmps.getD s undef = v

/-- What is asked of the special operations: the j-th, once those ahead of it in the chain are done; ν: what they left. -/
structure SpecOK (P : Program) (ops : Array Oper) (W : World) (row : Option Nat) (S : List Nat) (A : Act) (F : Nat → World → List Value → Prop) : Prop where
 stable : ∀ p w w' ν, F p w ν → Below w.heap.size w w' → F p w' ν
 steps : ∀ j, j < S.length → ∃ o, ops[S.getD j 0]? = some o ∧ (o.guard = none ∨ ∀ w ν, ν.length = j → F j w ν → Region.wanted o (yielded ops (fillA A (dstsOfS ops S) ν).tmps) = true) ∧
  ∀ w ν, ν.length = j → GT W w row → F j w ν → Leaves P o (fillA A (dstsOfS ops S) ν) W w row (fun u w' => F (j + 1) w' (ν ++ [u]))

/-- What is at a slot of the frame that the special operations see. -/
theorem fillA_seen {S : List Nat} {A a a0 : Act} {W w : World} {row : Option Nat} {F : Nat → World → List Value → Prop} {listed : Array Bool} (ms : Net ops S) (hz : ∀ i, i < ops.size → ∀ s, dstAt ops i = some s → s < A.tmps.size)
  (hA0 : ∀ s, (∀ i, i < ops.size → i ∉ S → dstAt ops i ≠ some s) → A.tmps.getD s undef = a0.tmps.getD s undef)
  (inv : Inv3 ops W row S A a0 F listed a w) {ν : List Value} (hν : ν.length ≤ S.length) (hl : ∀ j, j < S.length → listed.getD (S.getD j 0) true = decide (j < ν.length)) (hv : ∀ j v s, ν[j]? = some v → dstAt ops (S.getD j 0) = some s → a.tmps.getD s undef = v)
  {s : Tmp} (hq : ∀ i, i < ops.size → i ∉ S → dstAt ops i = some s → listed.getD i true = true) : a.tmps.getD s undef = (fillA A (dstsOfS ops S) ν).tmps.getD s undef := by
 by_cases hex : ∃ j, j < S.length ∧ dstAt ops (S.getD j 0) = some s
 ·obtain ⟨j, hj, hd⟩ := hex
  have huq : ∀ i, i ≠ j → (dstsOfS ops S)[i]? ≠ some (some s) := fun i hij he => by
   have hi : i < S.length := by
    rcases Nat.lt_or_ge i S.length with h | h
    ·exact h
    ·rw [List.getElem?_eq_none (by simpa [dstsOfS] using h)] at he; cases he
   rw [dstsOfS_at hi] at he
   exact ms.uniq _ (ms.lt j hj) s hd _ (ms.lt i hi) (S_ne ms hi hj hij) (Option.some.inj he)
  by_cases hjν : j < ν.length
  ·have hvj : ν[j]? = some ν[j] := List.getElem?_eq_getElem hjν
   rw [fillA_at _ _ _ j ν[j] (hz _ (ms.lt j hj) s hd) (by rw [dstsOfS_at hj, hd]) huq hvj]
   exact hv j _ s hvj hd
  ·rw [fillA_other _ _ _ fun i hi he => by
    by_cases hij : i = j
    ·omega
    ·exact huq i hij he]
   have hun : listed.getD (S.getD j 0) true = false := by rw [hl j hj]; simp; omega
   rw [inv.old s _ (ms.lt j hj) hd hun]
   exact (hA0 s fun i hi hiS he => ms.uniq _ (ms.lt j hj) s hd i hi (fun e => hiS (by rw [e]; exact getS hj)) he).symm
 ·rw [fillA_other _ _ _ fun i hi he => by
   rw [dstsOfS_at (by omega)] at he
   exact hex ⟨i, by omega, Option.some.inj he⟩]
  exact inv.new s (fun i hi he => by
   obtain ⟨j, hj, hje⟩ := List.mem_iff_getElem.1 hi
   exact hex ⟨j, hj, by simp [List.getD, hj, hje, he]⟩) fun i hi he => by
    by_cases hiS : i ∈ S
    ·exfalso
     obtain ⟨j, hj, hje⟩ := List.mem_iff_getElem.1 hiS
     exact hex ⟨j, hj, by simp [List.getD, hj, hje, he]⟩
    ·exact hq i hi hiS he

theorem net_core2 {okW : World → Prop} {W : World} {row : Option Nat} {S : List Nat} {A a0 : Act} {F : Nat → World → List Value → Prop} {Q : Exit → Act → World → Prop} (ms : Net ops S) (sp : SpecOK P ops W row S A F)
  (hok : ∀ ν w, ν.length < S.length → GT W w row → F ν.length w ν → okW w) (hlast : ∀ j, j < ops.size → j ∉ S → ∃ c, c < S.length ∧ waits3 ops (S.getD c 0) j = true)
  (hz : ∀ i, i < ops.size → ∀ s, dstAt ops i = some s → s < A.tmps.size)
  (hA0 : ∀ s, (∀ i, i < ops.size → i ∉ S → dstAt ops i ≠ some s) → A.tmps.getD s undef = a0.tmps.getD s undef)
  (hq : ∀ i, i < ops.size → i ∉ S → ∀ o s, ops[i]? = some o → o.dst = some s → ∃ ai, QuietAt2 P ops okW S A a0 i o s ai)
  (hT : ∀ ν w, ν.length = S.length → GT W w row → F S.length w ν → Q .normal (fillA A (dstsOfS ops S) ν) w) :
  ∀ (f : Nat) (listed : Array Bool) (a : Act) (w : World), Inv3 ops W row S A a0 F listed a w → unl listed ops.size = f → wpAny P .any ops Q f listed a w
 | 0, listed, a, w, inv, hu => by
  have hl := unl_zero ops.size hu
  refine ⟨?_, ?_⟩
  ·cases hr : Region.ready .any ops listed with
   | nil => rfl
   | cons j r =>
    have hj : j ∈ Region.ready .any ops listed := by rw [hr]; exact List.mem_cons_self ..
    obtain ⟨h1, o, ho, _⟩ := mem_ready.1 hj
    rw [hl j (Array.getElem?_eq_some_iff.1 ho).1] at h1
    cases h1
  ·obtain ⟨ν, hp, hpl, hf, hv⟩ := inv.spec
   have hpk : ν.length = S.length := by
    rcases Nat.lt_or_ge ν.length S.length with h | h
    ·have h1 := hpl ν.length h
     rw [hl _ (ms.lt _ h)] at h1
     simp at h1
    ·omega
   have hA : a = fillA A (dstsOfS ops S) ν := act_eq (by rw [fillA_defers]; exact inv.defers) (by rw [fillA_size]; exact inv.len) fun s =>
    fillA_seen ms hz hA0 inv hp hpl hv fun i hi _ _ => hl i hi
   rw [hA]
   exact hT ν w hpk inv.off (hpk ▸ hf)
 | f + 1, listed, a, w, inv, hu => by
  refine ⟨fun h0 => ?_, fun j hj => ?_⟩
  ·obtain ⟨i, hi, hun, hkl⟩ := unl_least (listed := listed) ops.size (by omega)
   have hoi : ops[i]? = some ops[i] := Array.getElem?_eq_getElem hi
   have : i ∈ Region.ready .any ops listed := mem_ready.2 ⟨hun, _, hoi, fun e he hb => by
    have h1 := ms.after i _ hoi e he hb
    have h2 := hkl _ h1
    have hlt : e.on < listed.size := by rw [inv.size]; omega
    simp [hlt] at h2 ⊢
    exact h2⟩
   rw [h0] at this
   cases this
  ·obtain ⟨hju, o, ho, hall⟩ := mem_ready.1 hj
   have hjs : j < ops.size := (Array.getElem?_eq_some_iff.1 ho).1
   have hjl : j < listed.size := by rw [inv.size]; exact hjs
   have hjf : listed.getD j false = false := by simp [hjl] at hju ⊢; exact hju
   have hcnt : unl (listed.setIfInBounds j true) ops.size = f := by
    have := unl_set hjl hju ops.size hjs
    omega
   have hclosed : Closed ops (listed.setIfInBounds j true) := fun i oi hoi hl e he hb => by
    by_cases hij : i = j
    ·subst hij
     obtain rfl : oi = o := Option.some.inj (hoi.symm.trans ho)
     exact getD_set_true (hall e he hb)
    ·rw [getD_set_ne false (Ne.symm hij)] at hl
     exact getD_set_true (inv.closed i oi hoi hl e he hb)
   have hset : ∀ i, i ≠ j → (listed.setIfInBounds j true).getD i true = listed.getD i true := fun i hij => getD_set_ne true (Ne.symm hij)
   have hsetj : (listed.setIfInBounds j true).getD j true = true := by simp [hjl]
   unfold wpOp
   simp only [ho]
   by_cases hsp : j ∈ S
   ·-- a special operation
    obtain ⟨c, hck, rfl⟩ : ∃ c, c < S.length ∧ j = S.getD c 0 := by
     obtain ⟨c, hc, hce⟩ := List.mem_iff_getElem.1 hsp
     exact ⟨c, hc, by simp [List.getD, hc, hce]⟩
    obtain ⟨o', ho', hgd, hstep⟩ := sp.steps c hck
    obtain rfl : o' = o := Option.some.inj (ho'.symm.trans ho)
    obtain ⟨ν, hp, hpl, hf, hv⟩ := inv.spec
    have hcp : ν.length = c := by
     have h1 := hpl c hck
     rw [hju] at h1
     have h1 : ¬ c < ν.length := by simpa using h1.symm
     rcases Nat.lt_or_ge ν.length c with h | h
     ·have h2 := hpl (c - 1) (by omega)
      have h3 := true_of_false (ready_waits inv.closed hj (ms.chain c hck (by omega)))
      rw [h2] at h3
      have : c - 1 < ν.length := by simpa using h3
      omega
     ·omega
    have hlook : ∀ s, s ∈ o'.looksAt ops → a.tmps.getD s undef = (fillA A (dstsOfS ops S) ν).tmps.getD s undef := fun s hs =>
     fillA_seen ms hz hA0 inv hp hpl hv fun i hi hiS he => by
      rcases ms.looks _ o' ho i hi s he hs with ⟨_, h2, _⟩ | ⟨_, _, h3⟩
      ·exact true_of_false (ready_waits inv.closed hj h2)
      ·rcases h3 with h3 | h3
       ·exact absurd hsp h3
       ·exact absurd h3 hiS
    obtain ⟨hex, hwn⟩ := exec_same (Region.noSelect_spec ms.sel _ o' · · ho) hlook (by rw [fillA_size]; exact inv.len)
    have hw : Region.wanted o' (yielded ops a.tmps) = true := by
     rcases hgd with hgd | hgd
     ·simp [Region.wanted, hgd]
     ·rw [hwn]; exact hgd w ν hcp (hcp ▸ hf)
    simp only [hw, if_true]
    refine .inl (Leaves.wp (G := fun u w' => F (c + 1) w' (ν ++ [u])) (W := W) (row := row) ?_ fun u w'' hb hf' => ?_)
    ·have := hstep w ν hcp inv.off (hcp ▸ hf)
     unfold Leaves at *
     rw [hex]
     exact this
    ·have hdo : ∀ s, o'.dst = some s → dstAt ops (S.getD c 0) = some s := fun s hs => by unfold dstAt; rw [ho]; exact hs
     have hne : ∀ s, dstAt ops (S.getD c 0) ≠ some s → (a.put o'.dst u).tmps.getD s undef = a.tmps.getD s undef := fun s hs => by
      cases hd : o'.dst with
      | none => rfl
      | some t => exact put_getD_ne fun e => hs (by rw [hdo t hd, e])
     refine net_core2 ms sp hok hlast hz hA0 hq hT f _ _ _ ⟨by simp [inv.size], hclosed, by rw [put_defers]; exact inv.defers, by rw [put_size]; exact inv.len, fun s hsd hs => ?_, fun s i hi he hl => ?_, hb, ν ++ [u], by simp; omega, fun i hi => ?_, ?_, fun i v s hiv his => ?_⟩ hcnt
     ·rw [hne s (hsd _ hsp)]
      refine inv.new s hsd fun i hi he => ?_
      by_cases hij : i = S.getD c 0
      ·subst hij
       exact absurd he (hsd _ hsp)
      ·rw [← hset i hij]; exact hs i hi he
     ·have hij : i ≠ S.getD c 0 := fun e => by subst e; rw [hsetj] at hl; cases hl
      rw [hne s fun e => ms.uniq i hi s he _ hjs (Ne.symm hij) e]
      rw [hset i hij] at hl
      exact inv.old s i hi he hl
     ·by_cases hic : i = c
      ·subst hic
       rw [hsetj]
       simp; omega
      ·rw [hset _ (S_ne ms hi hck hic), hpl i hi]
       simp only [List.length_append, List.length_cons, List.length_nil, decide_eq_decide]
       omega
     ·simp only [List.length_append, List.length_cons, List.length_nil, Nat.zero_add, hcp]
      exact hf'
     ·by_cases hic : i < ν.length
      ·rw [List.getElem?_append_left hic] at hiv
       have hiS : i < S.length := by omega
       rw [hne s fun e => ms.uniq _ (ms.lt i hiS) s his _ hjs (S_ne ms hck hiS (by omega)) e]
       exact hv i v s hiv his
      ·have : i = ν.length := by
        have := (List.getElem?_eq_some_iff.1 hiv).1
        simp at this
        omega
       subst this
       rw [List.getElem?_append_right (Nat.le_refl _)] at hiv
       simp at hiv
       subst hiv
       rw [hcp] at his
       have : o'.dst = some s := by unfold dstAt at his; rw [ho] at his; exact his
       rw [this]
       exact put_getD_same (by rw [inv.len]; exact hz _ hjs s his)
   ·-- a quiet one
    obtain ⟨s0, hs0⟩ := ms.dst j hjs hsp
    have hos : o.dst = some s0 := by simpa [dstAt, ho] using hs0
    obtain ⟨ai, hai⟩ := hq j hjs hsp o s0 ho hos
    have hlook : ∀ s, s ∈ o.looksAt ops → a.tmps.getD s undef = ai.tmps.getD s undef := fun s hs => by
     by_cases hex : ∃ i, i < ops.size ∧ dstAt ops i = some s
     ·obtain ⟨i, hi, he⟩ := hex
      have only : ∀ i', i' < ops.size → dstAt ops i' = some s → i' = i := fun i' hi' he' => by
       rcases Decidable.em (i' = i) with h | h
       ·exact h
       ·exact absurd he' (ms.uniq i hi s he i' hi' h)
      rcases ms.looks j o ho i hi s he hs with ⟨h1, h2, h3⟩ | ⟨h1, h2, h3⟩
      ·have hiS : i ∉ S := by
        rcases h3 with h3 | h3
        ·exact absurd h3 hsp
        ·exact h3
       have hil := true_of_false (ready_waits inv.closed hj h2)
       rw [inv.new s (fun i' hi' he' => by
        obtain ⟨q, hq1, hq2⟩ := List.mem_iff_getElem.1 hi'
        have hq3 := ms.lt q hq1
        have : S.getD q 0 = i' := by simp [List.getD, hq1, hq2]
        rw [this] at hq3
        exact hiS (only i' hq3 he' ▸ hi')) fun i' hi' he' => by rw [only i' hi' he']; exact hil]
       exact (hai.done s fun i' hi' _ he' => by rw [only i' hi' he']; exact h1).symm
      ·have hil : listed.getD i true = false := by
        cases hl : listed.getD i true with
        | false => rfl
        | true =>
         have hil : listed.getD i false = true := getD_true_of (by rw [inv.size]; exact hi) hl
         rw [waits3_listed inv.closed hil h2] at hjf
         cases hjf
       rw [inv.old s i hi he hil]
       by_cases hiS : i ∈ S
       ·have h5 : ∀ i', i' < ops.size → i' ∉ S → dstAt ops i' ≠ some s := fun i' hi' hS he' => hS (only i' hi' he' ▸ hiS)
        rw [hai.done s fun i' hi' hS he' => absurd he' (h5 i' hi' hS)]
        exact (hA0 s h5).symm
       ·exact (hai.open_ s i hi hiS he (by omega)).symm
     ·rw [inv.new s (fun i hi he => by
       obtain ⟨q, hq1, hq2⟩ := List.mem_iff_getElem.1 hi
       have hq3 := ms.lt q hq1
       have : S.getD q 0 = i := by simp [List.getD, hq1, hq2]
       rw [this] at hq3
       exact hex ⟨i, hq3, he⟩) fun i hi he => absurd ⟨i, hi, he⟩ hex]
      exact (hai.done s fun i hi _ he => absurd ⟨i, hi, he⟩ hex).symm
    obtain ⟨hex, hwt⟩ := exec_same (Region.noSelect_spec ms.sel j o · · ho) hlook (by rw [inv.len]; exact hai.len.symm)
    have step : ∀ w'', Below w.heap.size w w'' → wpAny P .any ops Q f (listed.setIfInBounds j true) (a.put o.dst (A.tmps.getD s0 undef)) w'' := fun w'' hb => by
     refine net_core2 ms sp hok hlast hz hA0 hq hT f _ _ _ ⟨by simp [inv.size], hclosed, by rw [put_defers]; exact inv.defers, by rw [put_size]; exact inv.len, fun s hsd hs => ?_, fun s i hi he hl => ?_, gt_trans inv.off (gt_of_below hb), ?_⟩ hcnt
     ·rw [hos]
      by_cases hss : s = s0
      ·subst hss
       exact put_getD_same (by rw [inv.len]; exact hz j hjs _ hs0)
      ·rw [put_getD_ne hss]
       refine inv.new s hsd fun i hi he => ?_
       have hij : i ≠ j := fun e => by
        subst e
        rw [hs0] at he
        exact hss (Option.some.inj he).symm
       rw [← hset i hij]
       exact hs i hi he
     ·have hij : i ≠ j := fun e => by subst e; rw [hsetj] at hl; cases hl
      have hss : s ≠ s0 := fun e => by
       subst e
       exact ms.uniq j hjs _ hs0 i hi hij he
      rw [hos, put_getD_ne hss]
      rw [hset i hij] at hl
      exact inv.old s i hi he hl
     ·obtain ⟨ν, hp, hpl, hf, hv⟩ := inv.spec
      refine ⟨ν, hp, fun c hc => ?_, sp.stable _ w w'' ν hf hb, fun i v s hiv his => ?_⟩
      ·rw [hset _ (fun e => hsp (by rw [← e]; exact getS hc))]
       exact hpl c hc
      ·have hiS : i < S.length := by have := (List.getElem?_eq_some_iff.1 hiv).1; omega
       have hss : s ≠ s0 := fun e => by
        subst e
        exact ms.uniq j hjs _ hs0 _ (ms.lt i hiS) (fun e => hsp (by rw [← e]; exact getS hiS)) his
       rw [hos, put_getD_ne hss]
       exact hv i v s hiv his
    rw [hwt]
    rcases hai.ok with ⟨hw, hg⟩ | ⟨hw, hg⟩
    ·simp only [hw, if_true]
     refine .inl (Gives.wp (v := A.tmps.getD s0 undef) ?_ fun w'' hb => step w'' hb)
     have hokw : okW w := by
      obtain ⟨ν, hp, hpl, hf, hv⟩ := inv.spec
      rcases Nat.lt_or_ge ν.length S.length with h | h
      ·exact hok ν w h inv.off hf
      ·obtain ⟨c, hc, hcw⟩ := hlast j hjs hsp
       have h1 := hpl c hc
       have h1 : listed.getD (S.getD c 0) true = true := by rw [h1]; simp; omega
       have h2 : listed.getD (S.getD c 0) false = true := getD_true_of (by rw [inv.size]; exact ms.lt c hc) h1
       rw [waits3_listed inv.closed h2 hcw] at hjf
       cases hjf
     have := hg w hokw
     unfold Gives Oper.quietAt at *
     rw [hex]
     exact this
    ·simp only [hw, Bool.false_eq_true, if_false]
     rw [← hg]
     exact step w (Below.refl _ _)

theorem wp_region_net2 {id : Nat} {Q : Exit → Act → World → Prop} {a : Act} {w : World} {l : List Oper} (S : List Nat) (row : Option Nat) (F : Nat → World → List Value → Prop)
  (hm : P.follows .mixedOrders = true) (hB : netB l.toArray S = true) (hr : roomB l.toArray l.length a.tmps.size = true) (hF0 : F 0 w [])
  (hL : lastB l.toArray S = true) (hS : 0 < S.length)
  (h : ∃ A, (∀ W1, (∃ ν, ν.length < S.length ∧ GT w W1 row ∧ F ν.length W1 ν) → wpQuiet P l.toArray (fun w' => ∃ x : Ext W1, w' = x.val) (fun a' => a' = A) (quietOps S 0 l) a) ∧ SpecOK P l.toArray w row S A F ∧
   ∀ ν w1, ν.length = S.length → GT w w1 row → F S.length w1 ν → Q .normal (fillA A (dstsOfS l.toArray S) ν) w1) : (Code.region id l.toArray true).wp P Q a w := by
 obtain ⟨A, h, sp, hT⟩ := h
 have ms := net_of hB
 have hb0 : Below w.heap.size w { w with drawn := w.drawn + 1 } := ⟨rfl, rfl, rfl, Nat.le_refl _, fun _ _ => rfl⟩
 have hrefl : GT w w row := gt_of_below (Below.refl _ _)
 have hag := quiet_agree _ _ (h w ⟨[], hS, hrefl, hF0⟩)
 have hroom : ∀ i, i < l.toArray.size → ∀ s, dstAt l.toArray i = some s → s < a.tmps.size := fun i hi s hs => room_of hr i (by simpa using hi) s hs
 have hmem : ∀ x, x ∈ quietPairs S 0 l ↔ l.toArray[x.1]? = some x.2 ∧ x.1 ∉ S := fun x => by
  rw [quietPairs_mem]; simp
 have hq := quietAt_of2 (okW := fun W1 => ∃ ν : List Value, ν.length < S.length ∧ GT w W1 row ∧ F ν.length W1 ν) (a0 := a) ms ⟨[], hS, hrefl, hF0⟩ (quietPairs S 0 l) a (fun x hx => (hmem x).1 hx) (quietPairs_inc l 0) (fun i hi hiS hne => by
   exfalso
   have hoi : l.toArray[i]? = some l.toArray[i] := Array.getElem?_eq_getElem hi
   exact hne (i, l.toArray[i]) ((hmem _).2 ⟨hoi, hiS⟩) rfl) hroom (fun _ _ _ _ => rfl) (fun W1 hW => by rw [quietPairs_map]; exact h W1 hW)
 have hA0 : ∀ s, (∀ i, i < l.toArray.size → i ∉ S → dstAt l.toArray i ≠ some s) → A.tmps.getD s undef = a.tmps.getD s undef := fun s hs => hag.2.2 s fun o ho he => by
  rw [← quietPairs_map] at ho
  obtain ⟨x, hx, rfl⟩ := List.mem_map.1 ho
  obtain ⟨h1, h2⟩ := (hmem x).1 hx
  exact hs x.1 (Array.getElem?_eq_some_iff.1 h1).1 h2 (by simp [dstAt, h1, he])
 refine wp_region_any hm ?_
 refine net_core2 (okW := fun W1 => ∃ ν : List Value, ν.length < S.length ∧ GT w W1 row ∧ F ν.length W1 ν) (a0 := a) ms sp (fun ν w' h1 h2 h3 => ⟨ν, h1, h2, h3⟩) (last_of hL) (fun i hi s hs => by rw [← hag.2.1]; exact hroom i hi s hs) hA0 (fun i hi hs o s ho hd => hq (i, o) ((hmem _).2 ⟨ho, hs⟩) s hd) hT _ _ a _ ?_ (unl_all _ (Nat.le_refl _))
 refine ⟨by simp, fun j oj _ hl => (by rw [getD_replicate_false] at hl; cases hl), hag.1, hag.2.1, fun s hsd hs => (hA0 s fun i hi hiS he => ?_).symm, fun _ _ _ _ _ => rfl, gt_of_below hb0, [], Nat.zero_le _, fun j hj => ?_, sp.stable _ _ _ _ hF0 hb0, fun _ _ _ h => by simp at h⟩
 ·have hi' : i < l.length := by simpa using hi
  have := hs i hi he
  simp [hi'] at this
 ·have := ms.lt j hj
  have : S.getD j 0 < l.length := by simpa using this
  have h1 : (Array.replicate l.toArray.size false)[S.getD j 0]? = some false := by
   rw [Array.getElem?_replicate, if_pos (by simpa using this)]
  rw [Array.getD_eq_getD_getElem?, h1]
  simp


end
end Go.Proofs.R50.T
end

/- Sets of texts (map[string]bool, all true) that the call itself has made: make, store, look up, count. -/
section
namespace Go.Proofs.R50
open Go.Abs Go.ChangeMaps Go.MapKept Go.RowKit

theorem ba_beq (a b : ByteArray) : (a == b) = decide (a = b) := by
 by_cases h : a = b
 ·subst h
  rw [decide_eq_true rfl]
  cases a
  exact beq_self_eq_true (α := Array UInt8) _
 ·rw [decide_eq_false h]
  cases a with | mk x => cases b with | mk y =>
  have : ¬ x = y := fun e => h (by rw [e])
  exact (beq_eq_false_iff_ne (α := Array UInt8)).2 this
instance lawfulBA : LawfulBEq ByteArray where
 eq_of_beq h := by rw [ba_beq] at h; exact of_decide_eq_true h
 rfl := by intro a; rw [ba_beq]; exact decide_eq_true rfl

/-- Block b of w is a map with the keys ks, each true. -/
def StrKeys (w : World) (b : Nat) (ks : List ByteArray) : Prop := ∃ (es : Array MapEntry) (clock : Nat), w.heap[b]? = some (.map es clock) ∧ es.toList.map (·.key) = ks.map Value.string ∧ bornsOk clock (es.toList.map (·.born)) = true ∧ ∀ e ∈ es.toList, e.val = .bool true

theorem StrKeys.lt {w : World} {b : Nat} {ks : List ByteArray} (h : StrKeys w b ks) : b < w.heap.size := by
 obtain ⟨es, clock, hb, _⟩ := h
 exact (Array.getElem?_eq_some_iff.1 hb).1
theorem StrKeys.of_block {w w' : World} {b : Nat} {ks : List ByteArray} (h : StrKeys w b ks) (e : w'.heap[b]? = w.heap[b]?) : StrKeys w' b ks := by
 obtain ⟨es, clock, hb, r⟩ := h
 exact ⟨es, clock, e.trans hb, r⟩
theorem StrKeys.on {w w' : World} {b : Nat} {ks : List ByteArray} (h : StrKeys w b ks) (hb : Below w.heap.size w w') : StrKeys w' b ks := h.of_block (hb.block b h.lt)
theorem StrKeys.grown {w w' : World} {b : Nat} {ks : List ByteArray} {row : Option Nat} (h : StrKeys w b ks) (hg : w.grownBy w' row) (hne : some b ≠ row) : StrKeys w' b ks := h.of_block (hg.block b h.lt hne)
theorem strKeys_made (w : World) : StrKeys (w.alloc (.map #[] 0)) w.heap.size [] := ⟨#[], 0, (MapKept.heap_alloc w _).1, rfl, rfl, by simp⟩

theorem find_str (n : ByteArray) : ∀ (ks : List ByteArray) (i : Nat), (n ∉ ks ∧ findK (.string n) (ks.map Value.string) i = some none) ∨ (n ∈ ks ∧ ∃ j, ks[j]? = some n ∧ findK (.string n) (ks.map Value.string) i = some (some (i + j)))
 | [], i => .inl ⟨by simp, rfl⟩
 | k :: ks, i => by
  by_cases h : n = k
  ·subst h
   exact .inr ⟨by simp, 0, rfl, by simp [findK, sameKey]⟩
  ·have hb : (n == k) = false := by simp [h, ba_beq]
   rcases find_str n ks (i + 1) with ⟨h1, h2⟩ | ⟨h0, j, h1, h2⟩
   ·exact .inl ⟨by simp [h, h1], by simp [findK, sameKey, hb, h2]⟩
   ·exact .inr ⟨by simp [h0], j + 1, by simpa using h1, by simp [findK, sameKey, hb, h2]; omega⟩

section
variable {P : Program} {t k e : TypeId}

theorem check_str (hk : P.underlying k = some .string) (n : ByteArray) (b : Bool) (w : World) : (Instr.checkKey b 10000 k (.string n)).run P w = .ok () w := by
 have e : Instr.checkKey b 10000 k (.string n) = Instr.checkKey b (9999 + 1) k (.string n) := rfl
 rw [e]
 unfold Instr.checkKey
 simp [Sem.run_bind, run_under hk, Result.andThen_ok]

theorem same_str (n : ByteArray) : ∀ x r, sameKey (.string n) x = some r → Instr.sameNow .string (.string n) x = some r := by
 intro x r hr
 cases x with
 | string v => exact hr
 | _ => simp [sameKey] at hr

theorem run_lookup_str (ht : P.underlying t = some (.map k e)) (hk : P.underlying k = some .string) {w : World} (hz : (zeroValue e).run P w = .ok (.bool false) w) {b : Nat} {ks : List ByteArray} (h : StrKeys w b ks) (m : ByteArray) :
  (Instr.lookup t (.map (some b)) (.string m) false).run P w = .ok (.bool (decide (m ∈ ks))) w := by
 obtain ⟨es, clock, hb, hks, hborn, htr⟩ := h
 have hents : Ents (ks.map Value.string) (es.toList.map (·.val)) es := ⟨hks, rfl⟩
 rcases find_str m ks 0 with ⟨h1, h2⟩ | ⟨h0, j, h1, h2⟩
 ·obtain ⟨hrun, _⟩ := run_findKey (P := P) hk (same_str m) hents h2 w
  rw [decide_eq_false h1]
  simp only [Instr.lookup, Sem.run_bind, run_under ht, Result.andThen_ok, Go.Abs.run_getObj_map hb, check_str hk, hrun, Option.bind_none, Sem.run_pure, hz]
  rfl
 ·rw [Nat.zero_add] at h2
  obtain ⟨e0, he, hrun, hek, _⟩ := find_entry hk (same_str m) hents h2 w
  have hv : e0.val = .bool true := htr e0 (by rw [← Array.getElem?_toList] at he; exact List.mem_of_getElem? he)
  rw [decide_eq_true h0]
  simp only [Instr.lookup, Sem.run_bind, run_under ht, Result.andThen_ok, Go.Abs.run_getObj_map hb, check_str hk, hrun, Sem.run_pure, hv]
  rfl

theorem run_len_str (ht : P.underlying t = some (.map k e)) {w : World} {b : Nat} {ks : List ByteArray} (h : StrKeys w b ks) (ts : Array TypeId) (hts : ts[0]? = some t) (ty : TypeId) : (Builtin.len_ ts ty #[.map (some b)]).run P w = .ok (.int .i64 ks.length) w := by
 obtain ⟨es, clock, hb, hks, hborn, htr⟩ := h
 have e0 : (#[Value.map (some b)] : Array Value)[0]? = some (.map (some b)) := rfl
 have hl : es.size = ks.length := by
  have := congrArg List.length hks
  simpa using this
 simp [Builtin.len_, hts, Sem.run_bind, run_under ht, Result.andThen, getObj, Sem.run, hb, goInt, hl]

theorem run_update_str (ht : P.underlying t = some (.map k e)) (hk : P.underlying k = some .string) {w : World} {b : Nat} {ks : List ByteArray} (h : StrKeys w b ks) (m : ByteArray) (hm : m ∉ ks) :
  ∃ w', (Instr.mapUpdate t (.map (some b)) (.string m) (.bool true)).run P w = .ok () w' ∧ StrKeys w' b (ks ++ [m]) ∧ w.grownBy w' (some b) ∧ w'.heap.size = w.heap.size := by
 obtain ⟨es, clock, hb, hks, hborn, htr⟩ := h
 have hlt : b < w.heap.size := (Array.getElem?_eq_some_iff.1 hb).1
 have hents : Ents (ks.map Value.string) (es.toList.map (·.val)) es := ⟨hks, rfl⟩
 rcases find_str m ks 0 with ⟨h1, h2⟩ | ⟨h0, _⟩
 ·obtain ⟨hrun, _⟩ := run_findKey (P := P) hk (same_str m) hents h2 w
  refine ⟨setBlock w b (.map (es.push { key := .string m, val := .bool true, born := clock }) (clock + 1)), ?_, ⟨_, _, heap_setBlock_same hb _, ?_, ?_, ?_⟩, grown_setBlock hb, by simp [setBlock]⟩
  ·simp only [Instr.mapUpdate, Sem.run_bind, run_under ht, Result.andThen_ok, Go.Abs.run_getObj_map hb, check_str hk, hrun, Option.bind_none, Go.Abs.run_setObj hb]
   rfl
  ·simp [hks]
  ·rw [Array.toList_push, List.map_append]
   exact bornsOk_push hborn
  ·intro e he
   rw [Array.toList_push, List.mem_append] at he
   rcases he with he | he
   ·exact htr e he
   ·simp at he; rw [he]
 ·exact absurd h0 hm
end
end Go.Proofs.R50
end
