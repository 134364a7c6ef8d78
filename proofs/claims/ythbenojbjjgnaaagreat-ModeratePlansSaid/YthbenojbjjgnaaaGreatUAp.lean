/- Patterns of names: the program's search and the table of the reference. -/
import Derived.Test.YthbenojbjjgnaaaGreatUAl
import Derived.Test.YthbenojbjjgnaaaGreatUAm
import Derived.Test.YthbenojbjjgnaaaGreatUBo
import Derived.Test.YthbenojbjjgnaaaGreatUBp
import Derived.Test.YthbenojbjjgnaaaGreatUBq
import Derived.Test.YthbenojbjjgnaaaGreatUBr
import Derived.Test.YthbenojbjjgnaaaGreatUBs
import Derived.Lib.IndexLaws
set_option linter.unusedVariables false
set_option linter.unusedSimpArgs false
set_option linter.unusedSectionVars false
section
namespace Go.Abs.RM
open Go.Proofs Go.Proofs.RMH
def T1 (c : UInt8) (s : List UInt8) : Prop := c ≠ 42 → ∃ b,s = [b] ∧ (c = 63 ∨ c = b)
def Mt : List UInt8 → List UInt8 → Prop
 | [],s => s = []
 | c :: p,s => ∃ x y,s = x ++ y ∧ T1 c x ∧ Mt p y
theorem Mt_append : ∀ (p q s : List UInt8),Mt (p ++ q) s ↔ ∃ x y,s = x ++ y ∧ Mt p x ∧ Mt q y
 | [],q,s => ⟨fun h => ⟨[],s,rfl,rfl,h⟩,fun ⟨x,y,e,h1,h2⟩ => by cases h1; cases e; exact h2⟩
 | c :: p,q,s => by
  constructor
  ·rintro ⟨x,y,rfl,h1,h2⟩
   obtain ⟨u,v,rfl,h3,h4⟩ := (Mt_append p q y).1 h2
   exact ⟨x ++ u,v,by simp,⟨x,u,rfl,h1,h3⟩,h4⟩
  ·rintro ⟨x,y,rfl,⟨u,v,rfl,h1,h3⟩,h4⟩
   exact ⟨u,v ++ y,by simp,h1,(Mt_append p q _).2 ⟨v,y,rfl,h3,h4⟩⟩
theorem Mt_one {c : UInt8} {s : List UInt8} : Mt [c] s ↔ T1 c s := by
 constructor
 ·rintro ⟨x,y,rfl,h1,h2⟩
  cases h2; simpa using h1
 ·exact fun h => ⟨s,[],by simp,h,rfl⟩
theorem fits_Mt : ∀ {m s : List UInt8},(∀ c ∈ m,c ≠ 42) → (Mt m s ↔ fitsL m s = true)
 | [],[],_ => ⟨fun _ => rfl,fun _ => rfl⟩
 | [],b :: s,_ => ⟨fun h => (by cases h),fun h => (by cases h)⟩
 | a :: m,[],h => by
  constructor
  ·rintro ⟨x,y,e,h1,_⟩
   obtain ⟨b,rfl,_⟩ := h1 (h a (by simp))
   cases e
  ·intro e; cases e
 | a :: m,b :: s,h => by
  have ih := @fits_Mt m s (fun c hc => h c (by simp [hc]))
  constructor
  ·rintro ⟨x,y,e,h1,h2⟩
   obtain ⟨b',rfl,h3⟩ := h1 (h a (by simp))
   cases e
   show ((a == 63 || a == _) && fitsL m _) = true
   rw [ih.1 h2,Bool.and_true,Bool.or_eq_true]
   exact h3.imp (by simp) (by simp)
  ·intro e
   have e : ((a == 63 || a == b) && fitsL m s) = true := e
   rw [Bool.and_eq_true,Bool.or_eq_true] at e
   exact ⟨[b],s,rfl,fun _ => ⟨b,rfl,e.1.imp (by simp) (by simp)⟩,ih.2 e.2⟩
theorem fits_len : ∀ {m s : List UInt8},fitsL m s = true → m.length = s.length
 | [],[],_ => rfl
 | [],_ :: _,h => by cases h
 | _ :: _,[],h => by cases h
 | a :: m,b :: s,h => by
  have h : ((a == 63 || a == b) && fitsL m s) = true := h
  rw [Bool.and_eq_true] at h
  simp [fits_len h.2]
theorem Mt_snoc {p s : List UInt8} {c b : UInt8} (hc : c ≠ 42) : Mt (p ++ [c]) (s ++ [b]) ↔ Mt p s ∧ (c = 63 ∨ c = b) := by
 rw [Mt_append]
 constructor
 ·rintro ⟨x,y,e,h1,h2⟩
  obtain ⟨b',rfl,h3⟩ := Mt_one.1 h2 hc
  have := List.append_inj' e rfl
  obtain ⟨rfl,e2⟩ := this
  cases e2
  exact ⟨h1,h3⟩
 ·rintro ⟨h1,h2⟩
  exact ⟨s,[b],rfl,h1,Mt_one.2 fun _ => ⟨b,rfl,h2⟩⟩
theorem Mt_snoc_nil {p : List UInt8} {c : UInt8} (hc : c ≠ 42) : ¬ Mt (p ++ [c]) [] := by
 rw [Mt_append]
 rintro ⟨x,y,e,h1,h2⟩
 obtain ⟨b',rfl,h3⟩ := Mt_one.1 h2 hc
 simp at e
theorem Mt_star {p s : List UInt8} : Mt (p ++ [42]) s ↔ ∃ x y,s = x ++ y ∧ Mt p x := by
 rw [Mt_append]
 exact ⟨fun ⟨x,y,e,h1,_⟩ => ⟨x,y,e,h1⟩,fun ⟨x,y,e,h1⟩ => ⟨x,y,e,h1,Mt_one.2 fun h => absurd rfl h⟩⟩
theorem Mt_star_nil {p : List UInt8} : Mt (p ++ [42]) [] ↔ Mt p [] := by
 rw [Mt_star]
 exact ⟨fun ⟨x,y,e,h⟩ => by have := List.append_eq_nil_iff.1 e.symm; rw [this.1] at h; exact h,fun h => ⟨[],[],rfl,h⟩⟩
theorem Mt_star_snoc {p s : List UInt8} {b : UInt8} : Mt (p ++ [42]) (s ++ [b]) ↔ Mt p (s ++ [b]) ∨ Mt (p ++ [42]) s := by
 rw [Mt_star,Mt_star]
 constructor
 ·rintro ⟨x,y,e,h⟩
  rcases List.eq_nil_or_concat y with rfl | ⟨z,b',rfl⟩
  ·rw [List.append_nil] at e; rw [e]; exact .inl h
  ·rw [List.concat_eq_append,← List.append_assoc] at e
   have := (List.append_inj' e rfl).1
   exact .inr ⟨x,z,this,h⟩
 ·rintro (h | ⟨x,y,rfl,h⟩)
  ·exact ⟨_,[],by simp,h⟩
  ·exact ⟨x,y ++ [b],by simp,h⟩
def joinS : List (List UInt8) → List UInt8
 | [] => []
 | [a] => a
 | a :: b :: r => a ++ 42 :: joinS (b :: r)
theorem joinS_cons (a : List UInt8) {r : List (List UInt8)} (h : r ≠ []) : joinS (a :: r) = a ++ 42 :: joinS r := by
 cases r with
 | nil => exact absurd rfl h
 | cons b r => rfl
def partsL (l cur : List UInt8) : List (List UInt8) := (cutS l cur).map fun s => s.data.toList
theorem partsL_nil (cur : List UInt8) : partsL [] cur = [cur] := by simp [partsL,cutS]
theorem partsL_cons (b : UInt8) (l cur : List UInt8) : partsL (b :: l) cur = if b = 42 then cur :: partsL l [] else partsL l (cur ++ [b]) := by
 unfold partsL
 rw [cutS]
 by_cases h : b = 42
 ·subst h; simp
 ·rw [if_neg h]
  have : (b == 42) = false := by simpa using h
  rw [this]; rfl
theorem partsL_ne : ∀ (l cur : List UInt8),partsL l cur ≠ []
 | [],cur => by rw [partsL_nil]; simp
 | b :: l,cur => by
  rw [partsL_cons]
  split
  ·simp
  ·exact partsL_ne l _
theorem join_parts : ∀ (l cur : List UInt8),joinS (partsL l cur) = cur ++ l
 | [],cur => by rw [partsL_nil]; simp [joinS]
 | b :: l,cur => by
  rw [partsL_cons]
  split
  ·rename_i h
   rw [joinS_cons _ (partsL_ne _ _),join_parts l [],h]; simp
  ·rw [join_parts l]; simp
theorem parts_plain : ∀ (l cur : List UInt8),(∀ c ∈ cur,c ≠ 42) → ∀ m ∈ partsL l cur,∀ c ∈ m,c ≠ 42
 | [],cur,h => by rw [partsL_nil]; simpa using h
 | b :: l,cur,h => by
  rw [partsL_cons]
  split
  ·intro m hm
   rcases List.mem_cons.1 hm with rfl | hm
   ·exact h
   ·exact parts_plain l [] (fun c hc => by cases hc) m hm
  ·rename_i hb
   exact parts_plain l _ (fun c hc => by
    rcases List.mem_append.1 hc with hc | hc
    ·exact h c hc
    ·rw [List.mem_singleton.1 hc]; exact hb)
def Em : List (List UInt8) → List UInt8 → Prop
 | [],_ => True
 | m :: ms,s => ∃ w x y,s = w ++ (x ++ y) ∧ fitsL m x = true ∧ Em ms y
theorem Em_front : ∀ {ms : List (List UInt8)} {w s : List UInt8},Em ms s → Em ms (w ++ s)
 | [],_,_,_ => trivial
 | m :: ms,w,s,⟨v,x,y,e,h1,h2⟩ => ⟨w ++ v,x,y,by rw [e]; simp,h1,h2⟩
theorem Mt_any {p s : List UInt8} : Mt (42 :: p) s ↔ ∃ w y,s = w ++ y ∧ Mt p y :=
 ⟨fun ⟨x,y,e,_,h⟩ => ⟨x,y,e,h⟩,fun ⟨x,y,e,h⟩ => ⟨x,y,e,fun h => absurd rfl h,h⟩⟩
theorem Mt_tail : ∀ {ms : List (List UInt8)} {t s : List UInt8},(∀ m ∈ ms,∀ c ∈ m,c ≠ 42) → (∀ c ∈ t,c ≠ 42) →
  (Mt (42 :: joinS (ms ++ [t])) s ↔ ∃ r z,s = r ++ z ∧ fitsL t z = true ∧ Em ms r)
 | [],t,s,_,ht => by
  rw [Mt_any]
  show (∃ w y,s = w ++ y ∧ Mt t y) ↔ _
  exact ⟨fun ⟨w,y,e,h⟩ => ⟨w,y,e,(fits_Mt ht).1 h,trivial⟩,fun ⟨w,y,e,h,_⟩ => ⟨w,y,e,(fits_Mt ht).2 h⟩⟩
 | m :: ms,t,s,hm,ht => by
  have ih := fun s => @Mt_tail ms t s (fun a ha => hm a (by simp [ha])) ht
  rw [Mt_any,List.cons_append,joinS_cons _ (by simp)]
  constructor
  ·rintro ⟨w,y,rfl,h⟩
   obtain ⟨x,z,rfl,h1,h2⟩ := (Mt_append ..).1 h
   obtain ⟨r,u,rfl,h3,h4⟩ := (ih z).1 h2
   exact ⟨w ++ (x ++ r),u,by simp,h3,w,x,r,rfl,(fits_Mt (hm m (by simp))).1 h1,h4⟩
  ·rintro ⟨r,z,rfl,h1,w,x,y,rfl,h2,h3⟩
   exact ⟨w,x ++ (y ++ z),by simp,(Mt_append ..).2 ⟨x,y ++ z,rfl,(fits_Mt (hm m (by simp))).2 h2,(ih _).2 ⟨y,z,rfl,h1,h3⟩⟩⟩
theorem Mt_parts {h t s : List UInt8} {ms : List (List UInt8)} (hh : ∀ c ∈ h,c ≠ 42) (hm : ∀ m ∈ ms,∀ c ∈ m,c ≠ 42) (ht : ∀ c ∈ t,c ≠ 42) :
  Mt (joinS (h :: (ms ++ [t]))) s ↔ h.length + t.length ≤ s.length ∧ fitsL h (s.take h.length) = true ∧ fitsL t (s.drop (s.length - t.length)) = true ∧ Em ms ((s.take (s.length - t.length)).drop h.length) := by
 rw [joinS_cons _ (by simp),Mt_append]
 constructor
 ·rintro ⟨x,y,rfl,h1,h2⟩
  obtain ⟨r,z,rfl,h3,h4⟩ := (Mt_tail hm ht).1 h2
  have h1 := (fits_Mt hh).1 h1
  have e1 := fits_len h1
  have e2 := fits_len h3
  have e3 : (x ++ (r ++ z)).length - t.length = (x ++ r).length := by simp; omega
  refine ⟨by simp; omega,?_,?_,?_⟩
  ·rw [e1,List.take_left]; exact h1
  ·rw [e3,← List.append_assoc,List.drop_left]; exact h3
  ·rw [e3,← List.append_assoc,List.take_left,e1,List.drop_left]; exact h4
 ·rintro ⟨hl,h1,h2,h3⟩
  refine ⟨s.take h.length,s.drop h.length,(List.take_append_drop ..).symm,(fits_Mt hh).2 h1,(Mt_tail hm ht).2 ⟨(s.take (s.length - t.length)).drop h.length,s.drop (s.length - t.length),?_,h2,h3⟩⟩
  conv => lhs; rw [← List.take_append_drop (s.length - t.length) s]
  rw [List.drop_append_of_le_length]
  simp; omega
theorem Em_least {m : List UInt8} {ms : List (List UInt8)} {s : List UInt8} {i : Nat} (hi : i + m.length ≤ s.length) (hf : fitsL m ((s.drop i).take m.length) = true) (hl : ∀ j,j < i → fitsL m ((s.drop j).take m.length) = false) :
  Em (m :: ms) s ↔ Em ms (s.drop (i + m.length)) := by
 constructor
 ·rintro ⟨w,x,y,rfl,h1,h2⟩
  have e := fits_len h1
  have hw : i ≤ w.length := by
   apply Classical.byContradiction
   intro hn
   have := hl w.length (by omega)
   rw [List.drop_left,e,List.take_left,h1] at this
   cases this
  have : (w ++ (x ++ y)).drop (i + m.length) = ((w ++ x).drop (i + m.length)) ++ y := by
   rw [← List.append_assoc,List.drop_append_of_le_length]
   simp; omega
  rw [this]
  exact Em_front h2
 ·intro h
  refine ⟨s.take i,(s.drop i).take m.length,s.drop (i + m.length),?_,hf,h⟩
  rw [← List.drop_drop,List.take_append_drop,List.take_append_drop]
theorem Em_none {m : List UInt8} {ms : List (List UInt8)} {s : List UInt8} (hl : ∀ j,j + m.length ≤ s.length → fitsL m ((s.drop j).take m.length) = false) : ¬ Em (m :: ms) s := by
 rintro ⟨w,x,y,rfl,h1,h2⟩
 have e := fits_len h1
 have := hl w.length (by simp; omega)
 rw [List.drop_left,e,List.take_left,h1] at this
 cases this
end Go.Abs.RM
end
section
namespace Go.Abs.RM
abbrev Lb (s : ByteArray) : List UInt8 := s.data.toList
theorem Lb_len (s : ByteArray) : (Lb s).length = s.size := rfl
theorem Lb_inj {s t : ByteArray} (h : Lb s = Lb t) : s = t := by
 cases s; cases t; exact congrArg ByteArray.mk (Array.toList_inj.1 h)
theorem Lb_ext (s : ByteArray) (i j : Nat) : Lb (s.extract i j) = ((Lb s).drop i).take (j - i) := by
 simp [Lb,ByteArray.data_extract,List.drop_take]
theorem Lb_zS : Lb zS = [] := rfl
theorem get_Lb {s : ByteArray} {i : Nat} (h : i < s.size) : s[i]? = some ((Lb s)[i]'h) := by
 rw [getElem?_pos s i h]; rfl
theorem atS_cons {s : ByteArray} {i : Int} (h0 : 0 ≤ i) (h1 : i < (s.size : Int)) (h2 : i < 9223372036854775806) :
  ∃ b,(Lb s).drop i.toNat = b :: (Lb s).drop (nx i).toNat ∧ (Lb s)[i.toNat]? = some b ∧ ∀ {β : Type} (k : UInt8 → Option β),atS s i k = k b := by
 have hl : i.toNat < s.size := by omega
 refine ⟨(Lb s)[i.toNat]'hl,?_,List.getElem?_eq_getElem hl,fun k => ?_⟩
 ·rw [nx_eq (by omega) (by omega),show (i + 1).toNat = i.toNat + 1 by omega]
  exact List.drop_eq_getElem_cons hl
 ·unfold atS
  rw [decide_eq_true h0,get_Lb hl]
  rfl
def letN (a0 : Int) : Bool := (decide (a0 ≥ 97) && decide (a0 ≤ 122)) || (decide (a0 ≥ 48) && decide (a0 ≤ 57))
theorem e197 (fuel : Nat) (x : Int) : d197 fuel x = some (letN x) := by
 unfold d197 letN
 cases h1 : decide (x ≥ 97) <;> cases h2 : decide (x ≤ 122) <;> cases h3 : decide (x ≥ 48) <;> cases h4 : decide (x ≤ 57) <;> rfl
theorem e337 (fuel : Nat) (x : Int) : d337 fuel x = some (letN x) := by
 unfold d337 letN
 cases h1 : decide (x ≥ 97) <;> cases h2 : decide (x ≤ 122) <;> cases h3 : decide (x ≥ 48) <;> cases h4 : decide (x ≤ 57) <;> rfl
def locB (b : UInt8) : Bool := letN b.toNat || ((b.toNat : Int) == 95) || ((b.toNat : Int) == 46) || ((b.toNat : Int) == 45) || ((b.toNat : Int) == 61)
def srvB (b : UInt8) : Bool := letN b.toNat || ((b.toNat : Int) == 46) || ((b.toNat : Int) == 45)
def localB (s : ByteArray) : Bool := (Lb s).all locB && (decide (1 ≤ s.size) && decide (s.size ≤ 32))
def endsB (s : ByteArray) : Bool := (match (Lb s).head?,(Lb s).getLast? with | some a,some b => letN a.toNat && letN b.toNat | _,_ => false)
def serverB (s : ByteArray) : Bool := decide (1 ≤ s.size) && decide (s.size ≤ 32) && endsB s && (Lb s).all srvB
variable (fuel : Nat) (hfu : 18446744073709551616 ≤ fuel)
theorem e141_0 (a : ByteArray) (ha : (a.size : Int) ≤ 9223372036854775806) : ∀ (n : Nat) (i : Int),0 ≤ i → i ≤ a.size → (a.size : Int) < n + i → d141_0 fuel a n i = some (((Lb a).drop i.toNat).all locB && (decide (1 ≤ a.size) && decide (a.size ≤ 32))) := by
 intro n
 induction n with
 | zero => intro i h0 h1 h2; omega
 | succ n ih =>
  intro i h0 h1 h2
  rw [d141_0]
  by_cases h : i < (a.size : Int)
  ·obtain ⟨b,hb,_,hk⟩ := atS_cons h0 h (by omega)
   have hn := ih (nx i) (by rw [nx_eq] <;> omega) (by rw [nx_eq] <;> omega) (by rw [nx_eq] <;> omega)
   rw [decide_eq_true h,cond_true,hk,e197,Option.bind_some,hb,List.all_cons]
   simp only [hk,hn]
   unfold locB
   cases letN b.toNat <;> cases ((b.toNat : Int) == 95) <;> cases ((b.toNat : Int) == 46) <;> cases ((b.toNat : Int) == 45) <;> cases ((b.toNat : Int) == 61) <;> simp
  ·rw [decide_eq_false h,cond_false,List.drop_eq_nil_of_le (by rw [Lb_len]; omega),List.all_nil,Bool.true_and]
   by_cases h1 : 1 ≤ a.size
   ·rw [decide_eq_true (show (a.size : Int) ≥ 1 by omega),cond_true,decide_eq_true h1,Bool.true_and]
    congr 1
    exact decide_eq_decide.2 (by omega)
   ·rw [decide_eq_false (show ¬ (a.size : Int) ≥ 1 by omega),cond_false,decide_eq_false h1]; rfl
include hfu in
theorem e141 (a : ByteArray) (ha : (a.size : Int) ≤ 9223372036854775806) : d141 fuel a = some (localB a) := by
 unfold d141
 rw [e141_0 fuel a ha fuel 0 (by omega) (by omega) (by omega)]
 rfl
theorem e142_0 (a : ByteArray) (ha : (a.size : Int) ≤ 9223372036854775806) : ∀ (n : Nat) (i : Int),0 ≤ i → i ≤ a.size → (a.size : Int) < n + i → d142_0 fuel a n i = some (bif ((Lb a).drop i.toNat).all srvB then 0 else 3) := by
 intro n
 induction n with
 | zero => intro i h0 h1 h2; omega
 | succ n ih =>
  intro i h0 h1 h2
  rw [d142_0]
  by_cases h : i < (a.size : Int)
  ·obtain ⟨b,hb,_,hk⟩ := atS_cons h0 h (by omega)
   have hn := ih (nx i) (by rw [nx_eq] <;> omega) (by rw [nx_eq] <;> omega) (by rw [nx_eq] <;> omega)
   rw [decide_eq_true h,cond_true,hk,e197,Option.bind_some,hb,List.all_cons]
   simp only [hk,hn]
   unfold srvB
   cases letN b.toNat <;> cases ((b.toNat : Int) == 46) <;> cases ((b.toNat : Int) == 45) <;> simp
  ·rw [decide_eq_false h,cond_false,List.drop_eq_nil_of_le (by rw [Lb_len]; omega)]; rfl
theorem atS_first {a : ByteArray} (h : 1 ≤ a.size) : ∃ b,(Lb a).head? = some b ∧ ∀ {β : Type} (k : UInt8 → Option β),atS a 0 k = k b := by
 obtain ⟨b,_,h2,h3⟩ := atS_cons (s := a) (i := 0) (by omega) (by omega) (by omega)
 exact ⟨b,by rw [List.head?_eq_getElem?]; exact h2,h3⟩
theorem atS_last {a : ByteArray} (h : 1 ≤ a.size) (ha : (a.size : Int) ≤ 9223372036854775806) : ∃ b,(Lb a).getLast? = some b ∧ ∀ {β : Type} (k : UInt8 → Option β),atS a (IntKind.wrap .i64 ((a.size : Int) - 1)) k = k b := by
 rw [wrap_i64 (by omega) (by omega)]
 obtain ⟨b,_,h2,h3⟩ := atS_cons (s := a) (i := (a.size : Int) - 1) (by omega) (by omega) (by omega)
 refine ⟨b,?_,h3⟩
 rw [List.getLast?_eq_getElem?,Lb_len,← h2,show ((a.size : Int) - 1).toNat = a.size - 1 by omega]
include hfu in
theorem e142 (a : ByteArray) (ha : (a.size : Int) ≤ 9223372036854775806) : d142 fuel a = some (bif serverB a then 0 else 3) := by
 unfold d142 serverB
 by_cases h : 1 ≤ a.size
 ·rw [decide_eq_false (show ¬ (a.size : Int) < 1 by omega),cond_false,decide_eq_true h]
  by_cases h2 : a.size ≤ 32
  ·rw [decide_eq_false (show ¬ (a.size : Int) > 32 by omega),cond_false,decide_eq_true h2]
   obtain ⟨x,hx,hkx⟩ := atS_first h
   obtain ⟨y,hy,hky⟩ := atS_last h ha
   rw [hkx,e197,Option.bind_some,hky,e197,Option.bind_some,e142_0 fuel a ha fuel 0 (by omega) (by omega) (by omega)]
   unfold endsB
   rw [hx,hy]
   dsimp only
   cases letN x.toNat <;> cases letN y.toNat <;> simp
  ·rw [decide_eq_true (show (a.size : Int) > 32 by omega),cond_true,decide_eq_false h2]; rfl
 ·rw [decide_eq_true (show (a.size : Int) < 1 by omega),cond_true,decide_eq_false h]; rfl
theorem e334_0 (a : ByteArray) (f : Int → Option Bool) (g : Int → Bool) (hf : ∀ x,f x = some (g x)) (ha : (a.size : Int) ≤ 9223372036854775806) : ∀ (n : Nat) (i : Int),0 ≤ i → i ≤ a.size → (a.size : Int) < n + i → d334_0 fuel a f n i = some (((Lb a).drop i.toNat).all fun b => letN b.toNat || g b.toNat) := by
 intro n
 induction n with
 | zero => intro i h0 h1 h2; omega
 | succ n ih =>
  intro i h0 h1 h2
  rw [d334_0]
  by_cases h : i < (a.size : Int)
  ·obtain ⟨b,hb,_,hk⟩ := atS_cons h0 h (by omega)
   have hn := ih (nx i) (by rw [nx_eq] <;> omega) (by rw [nx_eq] <;> omega) (by rw [nx_eq] <;> omega)
   rw [decide_eq_true h,cond_true,hk,e337,Option.bind_some,hb,List.all_cons]
   simp only [hk,hn,hf,Option.bind_some]
   cases letN b.toNat <;> cases g b.toNat <;> simp
  ·rw [decide_eq_false h,cond_false,List.drop_eq_nil_of_le (by rw [Lb_len]; omega)]; rfl
include hfu in
theorem e334 (a : ByteArray) (f : Int → Option Bool) (g : Int → Bool) (hf : ∀ x,f x = some (g x)) (ha : (a.size : Int) ≤ 9223372036854775806) : d334 fuel a f = some (((Lb a).all fun b => letN b.toNat || g b.toNat) && (decide (1 ≤ a.size) && decide (a.size ≤ 32))) := by
 unfold d334
 by_cases h : 1 ≤ a.size
 ·rw [decide_eq_false (show ¬ (a.size : Int) < 1 by omega),cond_false,decide_eq_true h]
  by_cases h2 : a.size ≤ 32
  ·rw [decide_eq_false (show ¬ (a.size : Int) > 32 by omega),cond_false,decide_eq_true h2,e334_0 fuel a f g hf ha fuel 0 (by omega) (by omega) (by omega)]
   simp
  ·rw [decide_eq_true (show (a.size : Int) > 32 by omega),cond_true,decide_eq_false h2]; simp
 ·rw [decide_eq_true (show (a.size : Int) < 1 by omega),cond_true,decide_eq_false h]; simp
include hfu in
theorem e244 (a : ByteArray) (ha : (a.size : Int) ≤ 9223372036854775806) : d244 fuel a = some (localB a) := by
 unfold d244
 rw [e334 fuel hfu a _ (fun x => x == 95 || x == 46 || x == 45 || x == 61) (fun x => by unfold d335; cases x == 95 <;> cases x == 46 <;> cases x == 45 <;> rfl) ha]
 unfold localB
 simp only [Option.bind_some]
 congr 2
 apply congrArg (List.all (Lb a))
 funext b
 unfold locB
 simp only [Bool.or_assoc]
include hfu in
theorem e245 (a : ByteArray) (ha : (a.size : Int) ≤ 9223372036854775806) : d245 fuel a = some (serverB a) := by
 unfold d245
 rw [e334 fuel hfu a _ (fun x => x == 46 || x == 45) (fun x => by unfold d336; cases x == 46 <;> cases x == 45 <;> rfl) ha]
 have e : ((Lb a).all fun b => letN b.toNat || ((b.toNat : Int) == 46 || (b.toNat : Int) == 45)) = (Lb a).all srvB := by
  apply congrArg (List.all (Lb a))
  funext b
  unfold srvB
  simp only [Bool.or_assoc]
 rw [e]
 unfold serverB
 simp only [Option.bind_some]
 by_cases h : 1 ≤ a.size
 ·obtain ⟨x,hx,hkx⟩ := atS_first h
  obtain ⟨y,hy,hky⟩ := atS_last h ha
  rw [hkx,e337,Option.bind_some,hky,e337,Option.bind_some]
  unfold endsB
  rw [hx,hy]
  dsimp only
  cases (Lb a).all srvB <;> cases decide (1 ≤ a.size) <;> cases decide (a.size ≤ 32) <;> cases letN x.toNat <;> cases letN y.toNat <;> rfl
 ·rw [decide_eq_false h]
  cases (Lb a).all srvB <;> rfl
end Go.Abs.RM
end
section
namespace Go.Abs.RM
variable (fuel : Nat) (hfu : 18446744073709551616 ≤ fuel)
def cix (l : List UInt8) : Nat := l.findIdx fun b => (b.toNat : Int) == 58
theorem b58 (b : UInt8) : ((b.toNat : Int) == 58) = (b == 58) := by
 rw [Bool.eq_iff_iff,beq_iff_eq,beq_iff_eq]
 constructor
 ·intro h
  have : b.toNat = (58 : UInt8).toNat := by have e : (58 : UInt8).toNat = 58 := rfl; omega
  exact UInt8.toNat_inj.1 this
 ·rintro rfl; rfl
theorem cix_cons (b : UInt8) (l : List UInt8) : cix (b :: l) = if b = 58 then 0 else cix l + 1 := by
 unfold cix
 rw [List.findIdx_cons,b58]
 by_cases h : b = 58
 ·subst h; simp
 ·have : (b == 58) = false := by simpa using h
  rw [this,if_neg h]; rfl
theorem cix_nil : cix [] = 0 := rfl
theorem ib_eq : ∀ l : List UInt8,Go.Lib.indexByte l 58 = if cix l < l.length then (cix l : Int) else -1
 | [] => rfl
 | b :: l => by
  have ih := ib_eq l
  unfold Go.Lib.indexByte
  rw [cix_cons]
  by_cases h : b = 58
  ·subst h; simp
  ·have h1 : (b == 58) = false := by simpa using h
   rw [h1,if_neg h,ih]
   by_cases h2 : cix l < l.length
   ·have : ¬ ((cix l : Int) = -1) := by omega
    simp [h2,this]
   ·simp [h2]
theorem e78_0 (a : ByteArray) (ha : (a.size : Int) ≤ 9223372036854775806) : ∀ (n : Nat) (i : Int),0 ≤ i → i ≤ a.size → (a.size : Int) < n + i → d78_0 fuel a n i = some (i + (cix ((Lb a).drop i.toNat) : Int)) := by
 intro n
 induction n with
 | zero => intro i h0 h1 h2; omega
 | succ n ih =>
  intro i h0 h1 h2
  rw [d78_0]
  by_cases h : i < (a.size : Int)
  ·obtain ⟨b,hb,_,hk⟩ := atS_cons h0 h (by omega)
   have hn := ih (nx i) (by rw [nx_eq] <;> omega) (by rw [nx_eq] <;> omega) (by rw [nx_eq] <;> omega)
   rw [decide_eq_true h,cond_true,hk,hb,cix_cons,b58]
   by_cases h3 : b = 58
   ·subst h3; simp
   ·have h4 : (b == 58) = false := by simpa using h3
    rw [h4,Bool.not_false,cond_true,hn,if_neg h3,nx_eq (by omega) (by omega)]
    congr 1
    omega
  ·rw [decide_eq_false h,cond_false,List.drop_eq_nil_of_le (by rw [Lb_len]; omega),cix_nil]
   simp
include hfu in
theorem e78 (a : ByteArray) (ha : (a.size : Int) ≤ 9223372036854775806) : d78 fuel a = some (cix (Lb a) : Int) := by
 unfold d78
 rw [e78_0 fuel a ha fuel 0 (by omega) (by omega) (by omega)]
 simp
def markedB (a : ByteArray) (m : Int) : Bool := match Lb a with
 | [] => false
 | b :: _ => ((b.toNat : Int) == m) && (decide (cix (Lb a) < a.size) && (localB (a.extract 1 (cix (Lb a))) && serverB (a.extract (cix (Lb a) + 1) a.size)))
theorem ext_le (a : ByteArray) (i j : Nat) : (a.extract i j).size ≤ a.size := by rw [ByteArray.size_extract]; omega
include hfu in
theorem e77 (a : ByteArray) (m : Int) (hm : m ≠ 58) (ha : (a.size : Int) ≤ 9223372036854775806) : d77 fuel a m = some (markedB a m) := by
 unfold d77 markedB
 cases hl : Lb a with
 | nil =>
  have : a.size = 0 := by rw [← Lb_len,hl]; rfl
  rw [decide_eq_true (show (a.size : Int) < 1 by omega)]; rfl
 | cons b t =>
  have hs : a.size = t.length + 1 := by rw [← Lb_len,hl]; rfl
  rw [decide_eq_false (show ¬ (a.size : Int) < 1 by omega),cond_false]
  obtain ⟨x,hx,hk⟩ := atS_first (a := a) (by omega)
  rw [hl] at hx
  cases hx
  rw [hk]
  dsimp only
  cases hb : ((b.toNat : Int) == m) with
  | false => rfl
  | true =>
   simp only [Bool.not_true,cond_false,Bool.true_and]
   rw [e78 fuel hfu a ha,Option.bind_some,hl]
   have hb' : b ≠ 58 := fun e => hm (by have := eq_of_beq hb; rw [e] at this; exact this.symm)
   have hc : cix (b :: t) = cix t + 1 := by rw [cix_cons,if_neg hb']
   by_cases hlt : cix (b :: t) < a.size
   ·rw [decide_eq_true (show (cix (b :: t) : Int) < a.size by omega),decide_eq_true hlt,cond_true]
    rw [decide_eq_true (show (0 : Int) ≤ 1 by omega),decide_eq_true (show (1 : Int) ≤ cix (b :: t) by omega),decide_eq_true (show (cix (b :: t) : Int) ≤ a.size by omega)]
    simp only [Bool.true_and,cond_true]
    rw [e141 fuel hfu _ (by have := ext_le a (1 : Int).toNat (cix (b :: t) : Int).toNat; omega),Option.bind_some,Int.toNat_natCast,show (1 : Int).toNat = 1 from rfl]
    cases localB (a.extract 1 (cix (b :: t))) with
    | false => rfl
    | true =>
     rw [cond_true,nx_eq (by omega) (by omega),decide_eq_true (show (0 : Int) ≤ cix (b :: t) + 1 by omega),decide_eq_true (show (cix (b :: t) : Int) + 1 ≤ a.size by omega)]
     simp only [Bool.true_and,cond_true]
     rw [e142 fuel hfu _ (by have := ext_le a ((cix (b :: t) : Int) + 1).toNat a.size; omega),Option.bind_some,show ((cix (b :: t) : Int) + 1).toNat = cix (b :: t) + 1 by omega]
     cases serverB (a.extract (cix (b :: t) + 1) a.size) <;> rfl
   ·rw [decide_eq_false (show ¬ (cix (b :: t) : Int) < a.size by omega),decide_eq_false hlt]; rfl
def srvOf (a : ByteArray) : ByteArray := bif markedB a 64 || markedB a 33 then a.extract (cix (Lb a) + 1) a.size else zS
theorem markedB_lt {a : ByteArray} {m : Int} (h : markedB a m = true) : cix (Lb a) < a.size := by
 unfold markedB at h
 split at h
 ·cases h
 ·simp only [Bool.and_eq_true,decide_eq_true_eq] at h
  exact h.2.1
include hfu in
theorem e28 (a : ByteArray) (ha : (a.size : Int) ≤ 9223372036854775806) : d28 fuel a = some (srvOf a) := by
 unfold d28 srvOf
 rw [e77 fuel hfu a 64 (by decide) ha,Option.bind_some,e77 fuel hfu a 33 (by decide) ha,Option.bind_some,e78 fuel hfu a ha]
 cases h1 : markedB a 64 with
 | true =>
  have := markedB_lt h1
  simp only [Bool.not_true,cond_false,Option.bind_some,Bool.true_or,cond_true]
  rw [nx_eq (by omega) (by omega),decide_eq_true (show (0 : Int) ≤ cix (Lb a) + 1 by omega),decide_eq_true (show (cix (Lb a) : Int) + 1 ≤ a.size by omega),show ((cix (Lb a) : Int) + 1).toNat = cix (Lb a) + 1 by omega]
  rfl
 | false =>
  simp only [Bool.not_false,cond_true,Bool.false_or]
  cases h2 : markedB a 33 with
  | true =>
   have := markedB_lt h2
   simp only [Bool.not_true,cond_false,Option.bind_some,cond_true]
   rw [nx_eq (by omega) (by omega),decide_eq_true (show (0 : Int) ≤ cix (Lb a) + 1 by omega),decide_eq_true (show (cix (Lb a) : Int) + 1 ≤ a.size by omega),show ((cix (Lb a) : Int) + 1).toNat = cix (Lb a) + 1 by omega]
   rfl
  | false => rfl
theorem ext_ext (a : ByteArray) (i j k : Nat) (hk : j + k ≤ a.size) : (a.extract j a.size).extract i k = a.extract (j + i) (j + k) := by
 apply Lb_inj
 rw [Lb_ext,Lb_ext,Lb_ext,List.drop_take,List.drop_drop,List.take_take]
 congr 1
 omega
include hfu in
theorem e1243 (a : ByteArray) (ha : (a.size : Int) ≤ 9223372036854775806) : d1243 fuel a = some (if cix (Lb a) < a.size then (a.extract 0 (cix (Lb a)),a.extract (cix (Lb a) + 1) a.size,true) else (a,zS,false)) := by
 have hz : d1425 fuel a = some (if cix (Lb a) < a.size then (cix (Lb a) : Int) else -1) := by
  unfold d1425
  cases h : ((⟨#[58]⟩ : ByteArray).toList == a.toList) with
  | true =>
   have e := str_inj (eq_of_beq h)
   subst e
   rfl
  | false =>
   rw [cond_false]
   have : atS (⟨#[58]⟩ : ByteArray) (0 : Int) (fun b1 => ((d332 fuel a (b1.toNat : Int)).bind fun z2 => some z2)) = ((d332 fuel a 58).bind fun z2 => some z2) := rfl
   rw [this]
   unfold d332
   rw [Option.bind_some]
   congr 1
   exact ib_eq (Lb a)
 unfold d1243 d1333
 rw [hz,Option.bind_some]
 by_cases h : cix (Lb a) < a.size
 ·rw [if_pos h,if_pos h,decide_eq_true (show (cix (Lb a) : Int) ≥ 0 by omega),cond_true,decide_eq_true (show (cix (Lb a) : Int) ≤ a.size by omega)]
  simp only [Bool.true_and,cond_true]
  rw [nx_eq (by omega) (by omega),decide_eq_true (show (0 : Int) ≤ cix (Lb a) + 1 by omega),decide_eq_true (show (cix (Lb a) : Int) + 1 ≤ a.size by omega)]
  simp only [Bool.true_and,cond_true,Option.bind_some,Int.toNat_natCast,show ((cix (Lb a) : Int) + 1).toNat = cix (Lb a) + 1 by omega]
 ·rw [if_neg h,if_neg h]; rfl
include hfu in
theorem e123 (a : ByteArray) (ha : (a.size : Int) ≤ 9223372036854775806) : d123 fuel a = some (srvOf a) := by
 unfold d123 d184 srvOf
 cases hl : Lb a with
 | nil =>
  have e : a = zS := Lb_inj (by rw [hl]; rfl)
  subst e
  rw [beq_self_eq_true]
  rfl
 | cons b t =>
  have hs : a.size = t.length + 1 := by rw [← Lb_len,hl]; rfl
  have hne : (a.toList == zS.toList) = false := by
   cases h : (a.toList == zS.toList) with
   | false => rfl
   | true =>
    have := str_inj (eq_of_beq h)
    rw [this] at hl; cases hl
  rw [hne,cond_false]
  obtain ⟨x,hx,hk⟩ := atS_first (a := a) (by omega)
  rw [hl] at hx
  cases hx
  rw [hk]
  have hq : d242 fuel (⟨#[64,33]⟩ : ByteArray) (b.toNat : Int) = some (Go.Lib.indexByte [64,33] b) := by
   unfold d242 d332
   rw [Option.bind_some]
   congr 2
   show UInt8.ofNat ((b.toNat : Int).toNat) = b
   rw [Int.toNat_natCast,UInt8.ofNat_toNat]
  rw [hq,Option.bind_some]
  have hix : (Go.Lib.indexByte [64,33] b < 0) ↔ ¬ (b = 64 ∨ b = 33) := by
   unfold Go.Lib.indexByte Go.Lib.indexByte Go.Lib.indexByte
   by_cases h1 : b = 64
   ·subst h1; simp
   ·have e1 : ((64 : UInt8) == b) = false := by simpa using fun e => h1 e.symm
    by_cases h2 : b = 33
    ·subst h2; decide
    ·have e2 : ((33 : UInt8) == b) = false := by simpa using fun e => h2 e.symm
     rw [e1,e2]; simp [h1,h2]
  have hm : ∀ m : UInt8,((b.toNat : Int) == (m.toNat : Int)) = decide (b = m) := fun m => by
   rw [Bool.eq_iff_iff,beq_iff_eq,decide_eq_true_eq]
   constructor
   ·intro h; exact UInt8.toNat_inj.1 (by omega)
   ·rintro rfl; rfl
  have hM : (markedB a 64 || markedB a 33) = (decide (b = 64 ∨ b = 33) && (decide (cix (Lb a) < a.size) && (localB (a.extract 1 (cix (Lb a))) && serverB (a.extract (cix (Lb a) + 1) a.size)))) := by
   unfold markedB
   rw [hl]
   show (((b.toNat : Int) == ((64 : UInt8).toNat : Int)) && _ || ((b.toNat : Int) == ((33 : UInt8).toNat : Int)) && _) = _
   rw [hm,hm,← Bool.and_or_distrib_right]
   congr 1
   rw [Bool.eq_iff_iff]; simp
  rw [hM,hl]
  by_cases hb : b = 64 ∨ b = 33
  ·rw [decide_eq_false (fun h => hix.1 h hb),cond_false,decide_eq_true hb,Bool.true_and,decide_eq_true (show (0 : Int) ≤ 1 by omega),decide_eq_true (show (1 : Int) ≤ a.size by omega)]
   simp only [Bool.true_and,cond_true,show (1 : Int).toNat = 1 from rfl]
   have hb' : b ≠ 58 := by rcases hb with rfl | rfl <;> decide
   have hc : cix (b :: t) = cix t + 1 := by rw [cix_cons,if_neg hb']
   have ht : Lb (a.extract 1 a.size) = t := by rw [Lb_ext,hl]; simp [hs]
   have hts : (a.extract 1 a.size).size = t.length := by rw [← Lb_len,ht]
   rw [e1243 fuel hfu _ (by omega),Option.bind_some,ht,hts,hc]
   by_cases hlt : cix t < t.length
   ·rw [if_pos hlt,decide_eq_true (show cix t + 1 < a.size by omega),Bool.true_and]
    simp only [Bool.not_true,cond_false]
    have e1 : (a.extract 1 a.size).extract 0 (cix t) = a.extract 1 (cix t + 1) := by
     rw [ext_ext a 0 1 (cix t) (by omega),Nat.add_zero,Nat.add_comm 1]
    have e2 : (a.extract 1 a.size).extract (cix t + 1) t.length = a.extract (cix t + 1 + 1) a.size := by
     rw [ext_ext a (cix t + 1) 1 t.length (by omega),Nat.add_comm 1 (cix t + 1),show 1 + t.length = a.size by omega]
    rw [e1,e2,e244 fuel hfu _ (by have := ext_le a 1 (cix t + 1); omega),Option.bind_some]
    cases localB (a.extract 1 (cix t + 1)) with
    | false => rfl
    | true =>
     simp only [Bool.not_true,cond_false,Bool.true_and]
     rw [e245 fuel hfu _ (by have := ext_le a (cix t + 1 + 1) a.size; omega),Option.bind_some]
     cases serverB (a.extract (cix t + 1 + 1) a.size) <;> rfl
   ·rw [if_neg hlt,decide_eq_false (show ¬ cix t + 1 < a.size by omega)]; rfl
  ·rw [decide_eq_true (hix.2 hb),decide_eq_false hb]; rfl
end Go.Abs.RM
end
section
namespace Go.Abs.RM
open Go.Proofs.RMH
variable (fuel : Nat) (hfu : 18446744073709551616 ≤ fuel)
theorem at1_cons {α : Type} {l : List α} {i : Int} (h0 : 0 ≤ i) (h1 : i < (l.length : Int)) (h2 : i < 9223372036854775806) :
  ∃ b,l.drop i.toNat = b :: l.drop (nx i).toNat ∧ l[i.toNat]? = some b ∧ b ∈ l ∧ ∀ {β : Type} (k : α → Option β),at1 l i k = k b := by
 have hl : i.toNat < l.length := by omega
 refine ⟨l[i.toNat]'hl,?_,List.getElem?_eq_getElem hl,List.getElem_mem hl,fun k => ?_⟩
 ·rw [nx_eq (by omega) (by omega),show (i + 1).toNat = i.toNat + 1 by omega]
  exact List.drop_eq_getElem_cons hl
 ·unfold at1
  rw [decide_eq_true h0,List.getElem?_eq_getElem hl]
  rfl
theorem inB_eq {α β : Type} {l : List α} {i : Int} (h0 : 0 ≤ i) (h1 : i < (l.length : Int)) (x : Option β) : inB l i x = x := by
 unfold inB
 rw [decide_eq_true h0,decide_eq_true (show i.toNat < l.length by omega)]
 rfl
def patB (b : UInt8) : Bool := !(decide ((b.toNat : Int) < 33)) && !(decide ((b.toNat : Int) > 126))
def patC (a : ByteArray) : Int := bif decide (a.size = 0) then 9 else bif decide (a.size > 64) then 7 else bif (Lb a).all patB then 0 else 3
theorem e71_0 (a : ByteArray) (ha : (a.size : Int) ≤ 9223372036854775806) : ∀ (n : Nat) (i : Int),0 ≤ i → i ≤ a.size → (a.size : Int) < n + i → d71_0 fuel a n i = some (bif ((Lb a).drop i.toNat).all patB then 0 else 3) := by
 intro n
 induction n with
 | zero => intro i h0 h1 h2; omega
 | succ n ih =>
  intro i h0 h1 h2
  rw [d71_0]
  by_cases h : i < (a.size : Int)
  ·obtain ⟨b,hb,_,hk⟩ := atS_cons h0 h (by omega)
   have hn := ih (nx i) (by rw [nx_eq] <;> omega) (by rw [nx_eq] <;> omega) (by rw [nx_eq] <;> omega)
   rw [decide_eq_true h,cond_true,hk,hb,List.all_cons]
   simp only [hk,hn]
   unfold patB
   cases decide ((b.toNat : Int) < 33) <;> cases decide ((b.toNat : Int) > 126) <;> simp
  ·rw [decide_eq_false h,cond_false,List.drop_eq_nil_of_le (by rw [Lb_len]; omega)]; rfl
include hfu in
theorem e71 (a : ByteArray) (ha : (a.size : Int) ≤ 9223372036854775806) : d71 fuel a = some (patC a) := by
 unfold d71 patC
 by_cases h : a.size = 0
 ·rw [decide_eq_true h,h]; rfl
 ·have : ((a.size : Int) == 0) = false := by simpa using h
  rw [this,cond_false,decide_eq_false h,cond_false]
  by_cases h2 : a.size > 64
  ·rw [decide_eq_true (show (a.size : Int) > 64 by omega),decide_eq_true h2]; rfl
  ·rw [decide_eq_false (show ¬ (a.size : Int) > 64 by omega),decide_eq_false h2,cond_false,cond_false,e71_0 fuel a ha fuel 0 (by omega) (by omega) (by omega)]
   rfl
theorem e132_0 (a : ByteArray) : ∀ (n : Nat) (i : Int),d132_0 fuel a n i = d71_0 fuel a n i := by
 intro n
 induction n with
 | zero => intro i; rfl
 | succ n ih => intro i; rw [d132_0,d71_0]; simp only [ih]
include hfu in
theorem e132 (a : ByteArray) (ha : (a.size : Int) ≤ 9223372036854775806) : d132 fuel a = some (patC a) := by
 rw [← e71 fuel hfu a ha]
 unfold d132 d71
 simp only [e132_0]
 congr 1
 rw [Bool.eq_iff_iff,beq_iff_eq,beq_iff_eq]
 constructor
 ·intro h; rw [str_inj h]; rfl
 ·intro h
  have : a = zS := Lb_inj (by rw [Lb_zS]; exact List.eq_nil_of_length_eq_zero (by rw [Lb_len]; omega))
  rw [this]
theorem patC_zero {a : ByteArray} (h : patC a = 0) : a.size ≠ 0 ∧ a.size ≤ 64 ∧ (Lb a).all patB = true := by
 unfold patC at h
 by_cases h1 : a.size = 0
 ·rw [decide_eq_true h1] at h; cases h
 ·rw [decide_eq_false h1,cond_false] at h
  by_cases h2 : a.size > 64
  ·rw [decide_eq_true h2] at h; cases h
  ·rw [decide_eq_false h2,cond_false] at h
   refine ⟨h1,by omega,?_⟩
   cases h3 : (Lb a).all patB with
   | true => rfl
   | false => rw [h3] at h; cases h
def RowP (p s : ByteArray) (k j : Nat) (o : List Bool) : Prop := o.length = p.size + 1 ∧ ∀ i,i ≤ k → ∀ b,o[i]? = some b → (b = true ↔ Mt ((Lb p).take i) ((Lb s).take j))
theorem RowP.get {p s : ByteArray} {k j : Nat} {o : List Bool} (h : RowP p s k j o) {i : Nat} (hi : i ≤ k) (hp : i ≤ p.size) : ∃ b,o[i]? = some b ∧ (b = true ↔ Mt ((Lb p).take i) ((Lb s).take j)) := by
 have hl : i < o.length := by rw [h.1]; omega
 exact ⟨_,List.getElem?_eq_getElem hl,h.2 i hi _ (List.getElem?_eq_getElem hl)⟩
theorem RowP.set {p s : ByteArray} {k j : Nat} {o : List Bool} (h : RowP p s k j o) {v : Bool} (hv : v = true ↔ Mt ((Lb p).take (k + 1)) ((Lb s).take j)) : RowP p s (k + 1) j (o.set (k + 1) v) := by
 refine ⟨by rw [List.length_set]; exact h.1,fun i hi b hb => ?_⟩
 rw [List.getElem?_set] at hb
 split at hb
 ·rename_i e
  subst e
  split at hb
  ·cases hb; exact hv
  ·cases hb
 ·exact h.2 i (by omega) b hb
theorem take_snoc {l : List UInt8} {i : Nat} {b : UInt8} (h : l[i]? = some b) : l.take (i + 1) = l.take i ++ [b] := by
 rw [List.take_add_one,h]; rfl
theorem u8_beq (a b : UInt8) : ((a.toNat : Int) == (b.toNat : Int)) = decide (a = b) := by
 rw [Bool.eq_iff_iff,beq_iff_eq,decide_eq_true_eq]
 constructor
 ·intro h; exact UInt8.toNat_inj.1 (by omega)
 ·rintro rfl; rfl
theorem t30_2 {p s : ByteArray} {r9 : List Bool} {j : Int} {k1 : List Bool → Int → Option Bool} {Q : Bool → Prop} (hp : p.size ≤ 64) (hj0 : 0 ≤ j) (hj : j < (s.size : Int)) (hs : (s.size : Int) ≤ 9223372036854775800) (h9 : RowP p s p.size j.toNat r9)
  (hk : ∀ o,RowP p s p.size (j.toNat + 1) o → Tot (k1 o (nx j)) Q) : ∀ (n : Nat) (o : List Bool) (i : Int),0 ≤ i → i ≤ p.size → (p.size : Int) < n + i → RowP p s i.toNat (j.toNat + 1) o → Tot (d30_2 fuel p s r9 j k1 n o i) Q := by
 intro n
 induction n with
 | zero => intro o i h0 h1 h2; omega
 | succ n ih =>
  intro o i h0 h1 h2 ho
  rw [d30_2]
  by_cases h : i < (p.size : Int)
  ·obtain ⟨c,_,hc,hkc⟩ := atS_cons h0 h (by omega)
   obtain ⟨b,_,hb,hkb⟩ := atS_cons hj0 hj (by omega)
   have hni : nx i = i + 1 := nx_eq (by omega) (by omega)
   have hnt : (nx i).toNat = i.toNat + 1 := by rw [hni]; omega
   have go : ∀ v : Bool,(v = true ↔ Mt ((Lb p).take (i.toNat + 1)) ((Lb s).take (j.toNat + 1))) → Tot (inB o (nx i) ((o[(nx i).toNat]?).bind fun _ => d30_2 fuel p s r9 j k1 n (o.set ((nx i).toNat) v) (nx i))) Q := fun v hv => by
    rw [inB_eq (by omega) (by rw [ho.1]; omega),List.getElem?_eq_getElem (by rw [ho.1]; omega),Option.bind_some]
    refine ih _ _ (by omega) (by omega) (by omega) ?_
    rw [hnt]
    exact ho.set hv
   have sn1 := take_snoc hc
   have sn2 := take_snoc hb
   rw [decide_eq_true h,cond_true,hkc,show (42 : Int) = ((42 : UInt8).toNat : Int) from rfl,u8_beq]
   by_cases h42 : c = 42
   ·rw [decide_eq_true h42,cond_true]
    obtain ⟨x,hx,hxm⟩ := ho.get (Nat.le_refl _) (by omega)
    rw [inB_eq h0 (by rw [ho.1]; omega),hx,Option.bind_some]
    have key : Mt ((Lb p).take (i.toNat + 1)) ((Lb s).take (j.toNat + 1)) ↔ Mt ((Lb p).take i.toNat) ((Lb s).take (j.toNat + 1)) ∨ Mt ((Lb p).take (i.toNat + 1)) ((Lb s).take j.toNat) := by
     rw [sn1,h42,sn2]; exact Mt_star_snoc
    cases x with
    | true => rw [cond_true]; exact go true ⟨fun _ => key.2 (.inl (hxm.1 rfl)),fun _ => rfl⟩
    | false =>
     rw [cond_false]
     obtain ⟨y,hy,hym⟩ := h9.get (i := i.toNat + 1) (by omega) (by omega)
     obtain ⟨y',_,hy',_,hky⟩ := at1_cons (l := r9) (i := nx i) (by omega) (by rw [h9.1]; omega) (by omega)
     rw [hnt,hy] at hy'
     cases hy'
     rw [hky]
     exact go y ⟨fun e => key.2 (.inr (hym.1 e)),fun e => hym.2 ((key.1 e).resolve_left fun e => by have := hxm.2 e; cases this)⟩
   ·rw [decide_eq_false h42,cond_false]
    obtain ⟨y,hy,hym⟩ := h9.get (i := i.toNat) (by omega) (by omega)
    obtain ⟨y',_,hy',_,hky⟩ := at1_cons (l := r9) (i := i) (by omega) (by rw [h9.1]; omega) (by omega)
    rw [hy] at hy'
    cases hy'
    rw [hky]
    have key : Mt ((Lb p).take (i.toNat + 1)) ((Lb s).take (j.toNat + 1)) ↔ Mt ((Lb p).take i.toNat) ((Lb s).take j.toNat) ∧ (c = 63 ∨ c = b) := by
     rw [sn1,sn2]; exact Mt_snoc h42
    cases y with
    | true =>
     rw [cond_true,hkc,show (63 : Int) = ((63 : UInt8).toNat : Int) from rfl,u8_beq]
     by_cases h63 : c = 63
     ·rw [decide_eq_true h63,cond_true]; exact go true ⟨fun _ => key.2 ⟨hym.1 rfl,.inl h63⟩,fun _ => rfl⟩
     ·rw [decide_eq_false h63,cond_false,hkc,hkb,u8_beq]
      exact go _ ⟨fun e => key.2 ⟨hym.1 rfl,.inr (of_decide_eq_true e)⟩,fun e => decide_eq_true ((key.1 e).2.resolve_left h63)⟩
    | false => rw [cond_false]; exact go false ⟨fun e => (by cases e),fun e => by have := hym.2 (key.1 e).1; cases this⟩
  ·rw [decide_eq_false h,cond_false]
   refine hk o ?_
   rw [show i.toNat = p.size by omega] at ho
   exact ho
theorem mkB_one {p : ByteArray} (hp : p.size ≤ 64) : mkB 1 (IntKind.wrap .i64 ((p.size : Int) + 1)) = true := by
 rw [wrap_i64 (by omega) (by omega)]
 unfold mkB
 rw [decide_eq_true (by omega),decide_eq_true (by omega),decide_eq_true (by omega)]; rfl
include hfu in
theorem t30_1 {p s : ByteArray} (hp : p.size ≤ 64) (hs : (s.size : Int) ≤ 9223372036854775800) : ∀ (n : Nat) (o : List Bool) (j : Int),0 ≤ j → j ≤ s.size → (s.size : Int) + 100 < n + j → RowP p s p.size j.toNat o → Tot (d30_1 fuel p s n o j) (fun r => r = true ↔ Mt (Lb p) (Lb s)) := by
 intro n
 induction n with
 | zero => intro o j h0 h1 h2; omega
 | succ n ih =>
  intro o j h0 h1 h2 ho
  rw [d30_1]
  by_cases h : j < (s.size : Int)
  ·obtain ⟨b,_,hb,_⟩ := atS_cons h0 h (by omega)
   rw [decide_eq_true h,cond_true,mkB_one hp,cond_true]
   refine t30_2 fuel hp h0 h hs ho (fun o' ho' => ih _ _ (by rw [nx_eq] <;> omega) (by rw [nx_eq] <;> omega) (by rw [nx_eq] <;> omega) ?_) _ _ _ (by omega) (by omega) (by omega) ?_
   ·rw [nx_eq (by omega) (by omega),show (j + 1).toNat = j.toNat + 1 by omega]; exact ho'
   ·rw [wrap_i64 (by omega) (by omega)]
    refine ⟨by rw [List.length_replicate]; omega,fun i hi x hx => ?_⟩
    obtain rfl : i = 0 := by simpa using hi
    rw [List.getElem?_replicate] at hx
    split at hx
    ·cases hx
     constructor
     ·intro e; cases e
     ·intro e
      rw [take_snoc hb] at e
      have e : (Lb s).take j.toNat ++ [b] = [] := e
      simp at e
    ·cases hx
  ·rw [decide_eq_false h,cond_false]
   obtain ⟨y,hy,hym⟩ := ho.get (Nat.le_refl _) (Nat.le_refl _)
   obtain ⟨y',_,hy',_,hky⟩ := at1_cons (l := o) (i := (p.size : Int)) (by omega) (by rw [ho.1]; omega) (by omega)
   rw [Int.toNat_natCast,hy] at hy'
   cases hy'
   rw [hky]
   refine Tot.ret ?_
   rw [List.take_of_length_le (Nat.le_of_eq (Lb_len p)),List.take_of_length_le (by rw [Lb_len]; omega)] at hym
   exact hym
include hfu in
theorem t30_0 {p s : ByteArray} (hp : p.size ≤ 64) (hs : (s.size : Int) ≤ 9223372036854775800) : ∀ (n : Nat) (o : List Bool) (i : Int),0 ≤ i → i ≤ p.size → (p.size : Int) < n + i → RowP p s i.toNat 0 o → Tot (d30_0 fuel p s n o i) (fun r => r = true ↔ Mt (Lb p) (Lb s)) := by
 intro n
 induction n with
 | zero => intro o i h0 h1 h2; omega
 | succ n ih =>
  intro o i h0 h1 h2 ho
  rw [d30_0]
  by_cases h : i < (p.size : Int)
  ·obtain ⟨c,_,hc,hkc⟩ := atS_cons h0 h (by omega)
   have hni : nx i = i + 1 := nx_eq (by omega) (by omega)
   have hnt : (nx i).toNat = i.toNat + 1 := by rw [hni]; omega
   have go : ∀ v : Bool,(v = true ↔ Mt ((Lb p).take (i.toNat + 1)) ((Lb s).take 0)) → Tot (inB o (nx i) ((o[(nx i).toNat]?).bind fun _ => d30_0 fuel p s n (o.set ((nx i).toNat) v) (nx i))) (fun r => r = true ↔ Mt (Lb p) (Lb s)) := fun v hv => by
    rw [inB_eq (by omega) (by rw [ho.1]; omega),List.getElem?_eq_getElem (by rw [ho.1]; omega),Option.bind_some]
    refine ih _ _ (by omega) (by omega) (by omega) ?_
    rw [hnt]
    exact ho.set hv
   obtain ⟨x,hx,hxm⟩ := ho.get (Nat.le_refl _) (by omega)
   rw [decide_eq_true h,cond_true,inB_eq h0 (by rw [ho.1]; omega),hx,Option.bind_some]
   have key : Mt ((Lb p).take (i.toNat + 1)) ((Lb s).take 0) ↔ Mt ((Lb p).take i.toNat) ((Lb s).take 0) ∧ c = 42 := by
    rw [take_snoc hc]
    by_cases h42 : c = 42
    ·rw [h42]; exact ⟨fun h => ⟨Mt_star_nil.1 h,rfl⟩,fun h => Mt_star_nil.2 h.1⟩
    ·exact ⟨fun h => absurd h (Mt_snoc_nil h42),fun h => absurd h.2 h42⟩
   cases x with
   | true =>
    rw [cond_true,hkc,show (42 : Int) = ((42 : UInt8).toNat : Int) from rfl,u8_beq]
    exact go _ ⟨fun e => key.2 ⟨hxm.1 rfl,of_decide_eq_true e⟩,fun e => decide_eq_true (key.1 e).2⟩
   | false => rw [cond_false]; exact go false ⟨fun e => (by cases e),fun e => by have := hxm.2 (key.1 e).1; cases this⟩
  ·rw [decide_eq_false h,cond_false]
   refine t30_1 fuel hfu hp hs _ _ _ (by omega) (by omega) (by omega) ?_
   rw [show i.toNat = p.size by omega] at ho
   exact ho
include hfu in
theorem t30 (p s : ByteArray) (hp : (p.size : Int) ≤ 9223372036854775806) (hs : (s.size : Int) ≤ 9223372036854775800) : Tot (d30 fuel p s) (fun r => r = true ↔ patC p = 0 ∧ Mt (Lb p) (Lb s)) := by
 unfold d30
 rw [e71 fuel hfu p hp,Option.bind_some]
 refine Tot.neI (fun h => Tot.ret ⟨fun e => (by cases e),fun e => absurd e.1 h⟩) fun h => ?_
 have hz := patC_zero h
 rw [mkB_one hz.2.1,cond_true,wrap_i64 (by omega) (by omega),inB_eq (by omega) (by rw [List.length_replicate]; omega),List.getElem?_replicate,if_pos (by omega),Option.bind_some]
 refine Tot.mono (t30_0 fuel hfu hz.2.1 hs _ _ _ (by omega) (by omega) (by omega) ⟨by rw [List.length_set,List.length_replicate]; omega,fun i hi x hx => ?_⟩) fun r hr => ⟨fun e => ⟨h,hr.1 e⟩,fun e => hr.2 e.2⟩
 obtain rfl : i = 0 := by simpa using hi
 rw [List.getElem?_set] at hx
 simp at hx
 rw [hx]
 exact ⟨fun _ => rfl,fun _ => rfl⟩
end Go.Abs.RM
end
