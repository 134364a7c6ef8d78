/- What arguments read as: values of Lean types. -/
import Derived.Test.YthbenojbjjgnaaaGreatUAl
import Derived.Lib.Strings
import Derived.Deep.Slices
import Derived.Deep.Fields
import Derived.ChangeOld
import Derived.ShutString
import Derived.Lib.SmallJoins
set_option linter.unusedVariables false
set_option linter.unusedSimpArgs false
set_option linter.unusedSectionVars false
section
namespace Go.Abs.RM
theorem str_inj {a b : ByteArray} (h : a.toList = b.toList) : a = b := by
 have e : a.data = b.data := by
  rw [ByteArray.toList_eq,ByteArray.toList_eq] at h
  exact Array.toList_inj.1 h
 cases a; cases b; cases e; rfl
theorem wrap_i64 {x : Int} (h1 : -9223372036854775808 ≤ x) (h2 : x ≤ 9223372036854775807) : IntKind.wrap .i64 x = x := by rw [IntKind.wrap_i64]; omega
theorem wrap_u64 {x : Int} (h1 : 0 ≤ x) (h2 : x ≤ 18446744073709551615) : IntKind.wrap .u64 x = x := by simp only [IntKind.wrap,IntKind.bits,IntKind.signed]; simp; omega
theorem ext_size (s : ByteArray) (i j : Nat) : (s.extract i j).size = min j s.size - i := ByteArray.size_extract
theorem nx_eq {x : Int} (h1 : -9223372036854775809 ≤ x) (h2 : x ≤ 9223372036854775806) : nx x = x + 1 := wrap_i64 (by omega) (by omega)
theorem ls : (∀ x : Int,-9223372036854775809 ≤ x → x ≤ 9223372036854775806 → nx x = x + 1) ∧ (∀ x : Int,-9223372036854775808 ≤ x → x ≤ 9223372036854775807 → IntKind.wrap .i64 x = x) ∧
  (∀ {α : Type} (a b : List α),(a ++ b).length = a.length + b.length) ∧ (∀ {α : Type} (a : α) (l : List α),(a :: l).length = l.length + 1) ∧ (∀ {α : Type},([] : List α).length = 0) ∧ (∀ {α : Type} (n : Nat) (l : List α),(l.take n).length = min n l.length) ∧
  (∀ {α : Type} (n : Nat) (l : List α),(l.drop n).length = l.length - n) ∧ (∀ {α : Type} (l : List α) (n : Nat) (a : α),(l.set n a).length = l.length) ∧ (∀ {α β : Type} (f : α → β) (l : List α),(l.map f).length = l.length) ∧ (∀ (s : ByteArray) (i j : Nat),(s.extract i j).size = min j s.size - i) :=
 ⟨fun _ h1 h2 => nx_eq h1 h2,fun _ h1 h2 => wrap_i64 h1 h2,fun _ _ => List.length_append,fun _ _ => List.length_cons,List.length_nil,fun _ _ => List.length_take,fun _ _ => List.length_drop,fun _ _ _ => List.length_set,fun _ _ => List.length_map ..,fun _ _ _ => ByteArray.size_extract⟩
theorem not58 {a0 : ByteArray} {x : UInt8} {a1 z : Int} (hb : a0[(0 : Int).toNat]? = some x) (h : (x.toNat : Int) = a1) (h58 : a1 ≠ 58) (hz : (0 ≤ z ∧ z ≤ (a0.size : Int)) ∧ (z < (a0.size : Int) → ∃ b,a0[z.toNat]? = some b ∧ (b.toNat : Int) = 58)) (hl : z < (a0.size : Int)) : 1 ≤ z := by
 apply Classical.byContradiction
 intro hn
 obtain rfl : z = 0 := by omega
 obtain ⟨b,h1,h2⟩ := hz.2 hl
 rw [hb] at h1
 cases h1
 omega
def CB (c : S61) (T L : Nat) : Prop :=
 c.f0.size ≤ T ∧ c.f4.size ≤ T ∧ c.f5.length ≤ L ∧ c.f6.length ≤ L ∧ c.f7.f0.length ≤ L ∧ c.f7.f1.length ≤ L ∧ (∀ x ∈ c.f5,x.size ≤ T) ∧ (∀ x ∈ c.f6,x.size ≤ T) ∧ (∀ x ∈ c.f7.f0,x.f0.size ≤ T)
theorem drop_all {α : Type} {l : List α} {i : Int} {x : α} {P : α → Prop} (h0 : 0 ≤ i) (hi : l[i.toNat]? = some x) (hj : i < 9223372036854775807) (hx : P x) (h : ∀ y ∈ l.drop (nx i).toNat,P y) : ∀ y ∈ l.drop i.toNat,P y := by
 rw [nx_eq (by omega) (by omega),show (i + 1).toNat = i.toNat + 1 by omega] at h
 have hl : i.toNat < l.length := by
  apply Classical.byContradiction
  intro hn
  rw [List.getElem?_eq_none (by omega)] at hi
  cases hi
 rw [List.drop_eq_getElem_cons hl]
 intro y hy
 rcases List.mem_cons.1 hy with e | hy
 ·rw [List.getElem?_eq_getElem hl] at hi
  cases hi
  exact e ▸ hx
 ·exact h y hy
theorem drop_none {α : Type} {l : List α} {i : Int} {P : α → Prop} (h : ¬ i < (l.length : Int)) : ∀ y ∈ l.drop i.toNat,P y := by
 rw [List.drop_eq_nil_of_le (by omega)]
 intro y hy
 cases hy
theorem cb_empty {c e : S61} (h : c.f0 = e.f0 ∧ c.f4 = e.f4 ∧ c.f5.length = e.f5.length ∧ c.f6.length = e.f6.length ∧ c.f7.f0.length = e.f7.f0.length ∧ c.f7.f1.length = e.f7.f1.length) (h0 : e.f0.size = 0) (h4 : e.f4.size = 0) (h5 : e.f5.length = 0) (h6 : e.f6.length = 0) (h7 : e.f7.f0.length = 0) (h8 : e.f7.f1.length = 0) : CB c 400 100 := by
 obtain ⟨b0,b4,b5,b6,b7,b8⟩ := h
 rw [h5] at b5; rw [h6] at b6; rw [h7] at b7; rw [h8] at b8
 refine ⟨by rw [b0]; omega,by rw [b4]; omega,by omega,by omega,by omega,by omega,?_,?_,?_⟩
 ·rw [List.length_eq_zero_iff.1 b5]; intro x hx; cases hx
 ·rw [List.length_eq_zero_iff.1 b6]; intro x hx; cases hx
 ·rw [List.length_eq_zero_iff.1 b7]; intro x hx; cases hx
theorem cb_all {c : S61} (h0 : c.f0.size ≤ 400) (h4 : c.f4.size ≤ 80) (h5 : c.f5.length ≤ 100 ∧ ∀ x ∈ c.f5,x.size ≤ 64) (h6 : c.f6.length ≤ 100 ∧ ∀ x ∈ c.f6,x.size ≤ 64) (h7 : c.f7.f0.length ≤ 100 ∧ c.f7.f1.length ≤ 100 ∧ ∀ x ∈ c.f7.f0,x.f0.size ≤ 80) : CB c 400 100 :=
 ⟨h0,by omega,h5.1,h6.1,h7.1,h7.2.1,fun x hx => by have := h5.2 x hx; omega,fun x hx => by have := h6.2 x hx; omega,fun x hx => by have := h7.2.2 x hx; omega⟩
theorem cb_rules {c : S61} (h0 : c.f0.size ≤ 400) (h4 : c.f4.size ≤ 80) (h5 : c.f5.length ≤ 100 ∧ ∀ x ∈ c.f5,x.size ≤ 80) (h6 : c.f6.length = 0 ∧ c.f7.f0.length = 0 ∧ c.f7.f1.length = 0) : CB c 400 100 := by
 refine ⟨h0,by omega,h5.1,by omega,by omega,by omega,fun x hx => by have := h5.2 x hx; omega,?_,?_⟩
 ·rw [List.length_eq_zero_iff.1 h6.1]; intro x hx; cases hx
 ·rw [List.length_eq_zero_iff.1 h6.2.1]; intro x hx; cases hx
theorem strL_len (s : ByteArray) : (strL s).length = s.size := by
 unfold strL; simp
theorem txt_len (l : List Int) : (txt l).size = l.length := by
 unfold txt; simp [ByteArray.size]
theorem iop_quo (a b : Int) (h0 : 0 ≤ a) (h1 : a ≤ 18446744073709551615) (hb : 0 < b) : iop .quo 318 .u64 a b = a / b := by
 unfold iop
 have e : Op.intDiv BinOp.quo IntKind.u64 a b = pure (.int .u64 (IntKind.wrap .u64 (a.tdiv b))) := by
  unfold Op.intDiv
  rw [if_neg (by omega)]
 simp only [Go.binOp,e]
 show IntKind.wrap .u64 (a.tdiv b) = a / b
 rw [Int.tdiv_eq_ediv_of_nonneg h0]
 exact wrap_u64 (Int.ediv_nonneg h0 (by omega)) (Int.le_trans (Int.ediv_le_self b h0) h1)
theorem u64_range (x : Int) : 0 ≤ IntKind.wrap .u64 x ∧ IntKind.wrap .u64 x ≤ 18446744073709551615 := by
 simp only [IntKind.wrap,IntKind.bits,IntKind.signed]; simp; omega
theorem shl_range (x : Int) : 0 ≤ iop .shl 318 .u64 x 1 ∧ iop .shl 318 .u64 x 1 ≤ 18446744073709551615 := u64_range _
theorem xor_range (x : Int) : 0 ≤ uop .xor .u64 x ∧ uop .xor .u64 x ≤ 18446744073709551615 := u64_range _
theorem cb_nil (n m : Int) (b : Bool) (s t : ByteArray) (l k : List ByteArray) (v : S59) (T L : Nat) (h1 : s.size ≤ T) (h2 : t.size ≤ T) (h3 : l.length ≤ L ∧ ∀ x ∈ l,x.size ≤ T) (h4 : k.length ≤ L ∧ ∀ x ∈ k,x.size ≤ T) (h5 : v.f0.length ≤ L ∧ v.f1.length ≤ L ∧ ∀ x ∈ v.f0,x.f0.size ≤ T) : CB ⟨s,n,m,b,t,l,k,v⟩ T L :=
 ⟨h1,h2,h3.1,h4.1,h5.1,h5.2.1,h3.2,h4.2,h5.2.2⟩
theorem nl {T L : Nat} : ([] : List ByteArray).length ≤ L ∧ ∀ x ∈ ([] : List ByteArray),x.size ≤ T := ⟨Nat.zero_le _,fun x hx => by cases hx⟩
theorem nv {T L : Nat} : (⟨[],[],(0 : Int),(0 : Int),(0 : Int),(0 : Int),(0 : Int),(0 : Int),(0 : Int)⟩ : S59).f0.length ≤ L ∧ (⟨[],[],(0 : Int),(0 : Int),(0 : Int),(0 : Int),(0 : Int),(0 : Int),(0 : Int)⟩ : S59).f1.length ≤ L ∧ ∀ x ∈ (⟨[],[],(0 : Int),(0 : Int),(0 : Int),(0 : Int),(0 : Int),(0 : Int),(0 : Int)⟩ : S59).f0,x.f0.size ≤ T := ⟨Nat.zero_le _,Nat.zero_le _,fun x hx => by cases hx⟩
def EB (e : S65) : Prop := e.f1.size ≤ 80 ∧ e.f2.size ≤ 80 ∧ e.f5.size ≤ 80 ∧ e.f8.length ≤ 10 ∧ e.f9.length ≤ 8 ∧ CB e.f10 400 100
def EM (e : S65) : Prop := e.f1.size ≤ 9223372036854775807 ∧ e.f2.size ≤ 9223372036854775807 ∧ e.f5.size ≤ 9223372036854775807 ∧ e.f8.length ≤ 9223372036854775807 ∧ e.f9.length ≤ 9223372036854775807 ∧ CB e.f10 9223372036854775807 9223372036854775807 ∧ e.f12.f0.size ≤ 9223372036854775807
def zC : S61 := ⟨zS,(0 : Int),(0 : Int),false,zS,[],[],(⟨[],[],(0 : Int),(0 : Int),(0 : Int),(0 : Int),(0 : Int),(0 : Int),(0 : Int)⟩ : S59)⟩
def zEv : S65 := ⟨(0 : Int),zS,zS,(0 : Int),false,zS,(0 : Int),(0 : Int),[],[],zC,(0 : Int),(⟨zS,(0 : Int)⟩ : S63)⟩
theorem zE_eb : EB zEv := ⟨by decide,by decide,by decide,by decide,by decide,⟨by decide,by decide,by decide,by decide,by decide,by decide,fun x hx => (by cases hx),fun x hx => (by cases hx),fun x hx => (by cases hx)⟩⟩
def Got (l : List S65) (id : Int) (z : S65 × Bool) : Prop := (z.2 = true ∧ z.1 ∈ l ∧ z.1.f0 = id) ∨ (z.2 = false ∧ z.1 = zEv ∧ ∀ e ∈ l,e.f0 ≠ id)
theorem Got.eb {l : List S65} {id : Int} {z : S65 × Bool} (h : Got l id z) (g : ∀ e ∈ l,EB e) : EB z.1 := by
 rcases h with h | h
 ·exact g _ h.2.1
 ·rw [h.2.1]; exact zE_eb
theorem Got.mem {l : List S65} {id : Int} {z : S65 × Bool} (h : Got l id z) (hz : z.2 = true) : z.1 ∈ l ∧ z.1.f0 = id := by
 rcases h with h | h
 ·exact h.2
 ·rw [h.1] at hz; cases hz
theorem Got.ids {l : List S65} {id : Int} {z : S65 × Bool} (h : Got l id z) (hz : z.2 = true) : id ∈ l.map (·.f0) := by
 have := h.mem hz
 exact List.mem_map.2 ⟨_,this.1,this.2⟩
theorem got_mk {l : List S65} {id : Int} {i : Int} {x : S65} (h : ((-1 ≤ i ∧ i < (l.length : Int)) ∧ (0 ≤ i → ∃ e,l[i.toNat]? = some e ∧ e.f0 = id)) ∧ (i < 0 → ∀ y ∈ l,y.f0 ≠ id)) (h0 : ¬ i < 0) (hx : l[i.toNat]? = some x) (hm : x ∈ l) : Got l id (x,true) := by
 obtain ⟨e,he,hi⟩ := h.1.2 (by omega)
 rw [hx] at he
 cases he
 exact Or.inl ⟨rfl,hm,hi⟩
def zL : S139 := ⟨(0 : Int),[],[],(0 : Int)⟩
theorem drop_cons {α : Type} {l : List α} {i : Int} {x : α} (h0 : 0 ≤ i) (hi : l[i.toNat]? = some x) (hj : i < 9223372036854775807) : l.drop i.toNat = x :: l.drop (nx i).toNat := by
 rw [nx_eq (by omega) (by omega),show (i + 1).toNat = i.toNat + 1 by omega]
 have hl : i.toNat < l.length := by
  apply Classical.byContradiction
  intro hn
  rw [List.getElem?_eq_none (by omega)] at hi
  cases hi
 rw [List.drop_eq_getElem_cons hl]
 rw [List.getElem?_eq_getElem hl] at hi
 cases hi
 rfl
theorem drop_end {α : Type} {l : List α} {i : Int} (h : ¬ i < (l.length : Int)) : l.drop i.toNat = [] := List.drop_eq_nil_of_le (by omega)
theorem nodup_le {l m : List Int} (h : l.Nodup) (hs : ∀ x ∈ l,x ∈ m) : l.length ≤ m.length := by
 induction l generalizing m with
 | nil => simp
 | cons a t ih =>
  have ha := hs a (List.mem_cons_self)
  have h2 := List.nodup_cons.1 h
  have := ih h2.2 (m := m.erase a) (fun x hx => (List.mem_erase_of_ne (show x ≠ a from fun e => h2.1 (e ▸ hx))).2 (hs x (List.mem_cons_of_mem _ hx)))
  rw [List.length_erase_of_mem ha] at this
  have := List.length_pos_of_mem ha
  simp only [List.length_cons]
  omega
def ids (l : List S65) : List Int := l.map (·.f0)
def IS (l : List S65) (r : List Int) : Prop := r.Nodup ∧ ∀ x ∈ r,x ∈ ids l
theorem IS.len {l : List S65} {r : List Int} (h : IS l r) : r.length ≤ l.length := by
 have := nodup_le h.1 h.2
 simpa [ids] using this
theorem IS.nil {l : List S65} : IS l [] := ⟨List.nodup_nil,fun x hx => by cases hx⟩
def PutP (a : List Int) (n : Int) (r : List Int) : Prop := (∀ x,x ∈ r ↔ x ∈ a ∨ x = n) ∧ (a.Nodup → r.Nodup) ∧ r.length ≤ a.length + 1
theorem put_mk {a : List Int} {n : Int} {k : Nat} (hn : n ∉ a) : PutP a n ((([] ++ (a.drop 0).take (k - 0)) ++ [n]) ++ (a.drop k).take (a.length - k)) := by
 have e : (([] ++ (a.drop 0).take (k - 0)) ++ [n]) ++ (a.drop k).take (a.length - k) = a.take k ++ n :: a.drop k := by
  rw [List.take_of_length_le (by simp : (a.drop k).length ≤ a.length - k)]
  simp
 rw [e]
 have hm : ∀ x,x ∈ a.take k ++ n :: a.drop k ↔ x ∈ a ∨ x = n := fun x => by
  rw [List.mem_append,List.mem_cons]
  have : x ∈ a ↔ x ∈ a.take k ∨ x ∈ a.drop k := by
   conv => lhs; rw [← List.take_append_drop k a]
   exact List.mem_append
  rw [this]
  constructor
  ·rintro (h | h | h)
   ·exact Or.inl (Or.inl h)
   ·exact Or.inr h
   ·exact Or.inl (Or.inr h)
  ·rintro ((h | h) | h)
   ·exact Or.inl h
   ·exact Or.inr (Or.inr h)
   ·exact Or.inr (Or.inl h)
 refine ⟨hm,fun hd => ?_,?_⟩
 ·have hd' := hd
  rw [← List.take_append_drop k a] at hd'
  have h3 := List.nodup_append.1 hd'
  refine List.nodup_append.2 ⟨h3.1,List.nodup_cons.2 ⟨fun h => hn (List.mem_of_mem_drop h),h3.2.1⟩,fun x hx y hy => ?_⟩
  rcases List.mem_cons.1 hy with rfl | hy
  ·exact fun e => hn (e ▸ List.mem_of_mem_take hx)
  ·exact h3.2.2 x hx y hy
 ·simp only [List.length_append,List.length_cons,List.length_take,List.length_drop]
  omega
theorem PutP.keep {a : List Int} {n : Int} (h : n ∈ a) : PutP a n a := ⟨fun x => ⟨Or.inl,fun h' => h'.elim id fun e => e ▸ h⟩,id,Nat.le_succ _⟩
theorem PutP.is {l : List S65} {a r : List Int} {n : Int} (h : PutP a n r) (ha : IS l a) (hn : n ∈ ids l) : IS l r :=
 ⟨h.2.1 ha.1,fun x hx => ((h.1 x).1 hx).elim (ha.2 x) fun e => e ▸ hn⟩
def MinP (a1 z1 o2 : List Int) (s3 : Int) (r : List Int) : Prop := (∀ x,x ∈ r ↔ x ∈ o2 ∨ (x ∈ z1.drop s3.toNat ∧ x ∉ a1)) ∧ r.Nodup ∧ r.length ≤ z1.length
theorem nodup_drop {z : List Int} (h : z.Nodup) (k : Nat) : (z.drop k).Nodup := by
 rw [← List.take_append_drop k z] at h
 exact (List.nodup_append.1 h).2.1
theorem minus_in {z1 o2 : List Int} {s3 x : Int} (hd : z1.Nodup) (h0 : 0 ≤ s3) (hx : z1[s3.toNat]? = some x) (hj : s3 < 9223372036854775807) (i4 : o2.Nodup) (i5 : ∀ y ∈ o2,y ∉ z1.drop s3.toNat) : (o2 ++ [x]).Nodup ∧ ∀ y ∈ o2 ++ [x],y ∉ z1.drop (nx s3).toNat := by
 have e := drop_cons h0 hx hj
 have hn := nodup_drop hd s3.toNat
 rw [e] at hn i5
 constructor
 ·refine List.nodup_append.2 ⟨i4,List.nodup_cons.2 ⟨fun h => (by cases h),List.nodup_nil⟩,fun a ha b hb => ?_⟩
  rcases List.mem_cons.1 hb with rfl | hb
  ·exact fun e => i5 a ha (e ▸ List.mem_cons_self)
  ·cases hb
 ·intro y hy
  rcases List.mem_append.1 hy with hy | hy
  ·exact fun h => i5 y hy (List.mem_cons_of_mem _ h)
  ·rcases List.mem_cons.1 hy with rfl | hy
   ·exact (List.nodup_cons.1 hn).1
   ·cases hy
theorem minus_out {z1 o2 : List Int} {s3 x : Int} (h0 : 0 ≤ s3) (hx : z1[s3.toNat]? = some x) (hj : s3 < 9223372036854775807) (i5 : ∀ y ∈ o2,y ∉ z1.drop s3.toNat) : ∀ y ∈ o2,y ∉ z1.drop (nx s3).toNat := by
 rw [drop_cons h0 hx hj] at i5
 exact fun y hy h => i5 y hy (List.mem_cons_of_mem _ h)
theorem minus_hit {a1 z1 o2 r : List Int} {s3 x : Int} (h0 : 0 ≤ s3) (hx : z1[s3.toNat]? = some x) (hj : s3 < 9223372036854775807) (hn : x ∉ a1) (hr : MinP a1 z1 (o2 ++ [x]) (nx s3) r) : MinP a1 z1 o2 s3 r := by
 refine ⟨fun y => (hr.1 y).trans ?_,hr.2⟩
 rw [drop_cons h0 hx hj,List.mem_append,List.mem_cons,List.mem_cons]
 constructor
 ·rintro ((h | h | h) | h)
  ·exact Or.inl h
  ·exact Or.inr ⟨Or.inl h,h ▸ hn⟩
  ·cases h
  ·exact Or.inr ⟨Or.inr h.1,h.2⟩
 ·rintro (h | ⟨h | h,h2⟩)
  ·exact Or.inl (Or.inl h)
  ·exact Or.inl (Or.inr (Or.inl h))
  ·exact Or.inr ⟨h,h2⟩
theorem minus_miss {a1 z1 o2 r : List Int} {s3 x : Int} (h0 : 0 ≤ s3) (hx : z1[s3.toNat]? = some x) (hj : s3 < 9223372036854775807) (hn : x ∈ a1) (hr : MinP a1 z1 o2 (nx s3) r) : MinP a1 z1 o2 s3 r := by
 refine ⟨fun y => (hr.1 y).trans ?_,hr.2⟩
 rw [drop_cons h0 hx hj,List.mem_cons]
 constructor
 ·rintro (h | ⟨h,h2⟩)
  ·exact Or.inl h
  ·exact Or.inr ⟨Or.inr h,h2⟩
 ·rintro (h | ⟨h | h,h2⟩)
  ·exact Or.inl h
  ·exact absurd (h ▸ hn) h2
  ·exact Or.inr ⟨h,h2⟩
theorem all_snoc {α : Type} {P : α → Prop} {l : List α} {x : α} (h : ∀ y ∈ l,P y) (hx : P x) : ∀ y ∈ l ++ [x],P y := fun y hy => (List.mem_append.1 hy).elim (h y) fun e => by
 rcases List.mem_cons.1 e with rfl | e
 ·exact hx
 ·cases e
theorem got_kind {l : List S65} {id : Int} {z : S65 × Bool} (h : Got l id z) (hk : z.1.f3 ≠ 0) : z.2 = true := by
 rcases h with h | h
 ·exact h.1
 ·rw [h.2.1] at hk; exact absurd rfl hk
theorem minus_lt {l : List S65} {s r : List Int} {b : Int} (hs : IS l s) (hb : b ∈ s) (hr : (∀ x,x ∈ r ↔ x ∈ s ∧ x ∉ [b]) ∧ r.Nodup ∧ r.length ≤ s.length) : IS l r ∧ r.length < s.length := by
 refine ⟨⟨hr.2.1,fun x hx => hs.2 x ((hr.1 x).1 hx).1⟩,?_⟩
 have := nodup_le (l := b :: r) (m := s) (List.nodup_cons.2 ⟨fun h => ((hr.1 b).1 h).2 List.mem_cons_self,hr.2.1⟩) (fun x hx => by
  rcases List.mem_cons.1 hx with rfl | hx
  ·exact hb
  ·exact ((hr.1 x).1 hx).1)
 simp only [List.length_cons] at this
 omega
theorem Got.here {l : List S65} {id : Int} {z : S65 × Bool} (h : Got l id z) (hi : id ∈ Go.Abs.RM.ids l) : z.1 ∈ l ∧ z.1.f0 = id := by
 rcases h with h | h
 ·exact h.2
 ·obtain ⟨e,he,hi⟩ := List.mem_map.1 hi
  exact absurd hi (h.2.2 e he)
theorem put_mk2 {a : List Int} {n : Int} {k : Nat} (hn : n ∉ a) : PutP a n ((((a.drop 0).take k) ++ [n]) ++ (([] : List Int) ++ ((a.drop k).take (a.length - k)))) := by
 have := put_mk (k := k) hn
 simpa using this
theorem snoc_le {o : List S139} {x : S139} {K L : Nat} (h : ∀ x ∈ o,x.f2.length ≤ K) (hK : K ≤ L) (hx : x.f2.length ≤ L) : ∀ y ∈ o ++ [x],y.f2.length ≤ L := all_snoc (fun y hy => Nat.le_trans (h y hy) hK) hx
theorem find_le {o : List S139} {z : S139 × Bool} {K : Nat} (h : z.1 ∈ o ∨ z.1 = zL) (g : ∀ x ∈ o,x.f2.length ≤ K) : z.1.f2.length ≤ K := by
 rcases h with h | h
 ·exact g _ h
 ·rw [h]; exact Nat.zero_le _
def RB (r : S30) : Prop := r.f0.size ≤ 80 ∧ (∀ e ∈ r.f1,EB e) ∧ (∀ e ∈ r.f3,EB e) ∧ r.f2.length = r.f1.length ∧ r.f4.length ≤ 12 ∧ r.f5.length ≤ 220024
theorem quo_step {p : Int} {l : List Int} (h0 : 0 ≤ p) (h1 : p ≤ 18446744073709551615) (h2 : p < 128 ^ (10 - l.length)) (h3 : p ≥ 128) (hl : l.length ≤ 10) : 0 ≤ p.tdiv 128 % 2 ^ IntKind.u64.bits ∧ p.tdiv 128 % 2 ^ IntKind.u64.bits ≤ 18446744073709551615 ∧ p.tdiv 128 % 2 ^ IntKind.u64.bits < p ∧ l.length + 1 ≤ 10 ∧ ∀ x : Int,p.tdiv 128 % 2 ^ IntKind.u64.bits < 128 ^ (10 - (l ++ [x]).length) := by
 have e : p.tdiv 128 % 2 ^ IntKind.u64.bits = p / 128 := iop_quo p 128 h0 h1 (by omega)
 rw [e]
 rcases Nat.lt_or_ge l.length 10 with h | h
 ·rw [show 10 - l.length = (10 - (l.length + 1)) + 1 by omega,Int.pow_succ] at h2
  refine ⟨by omega,by omega,by omega,by omega,fun x => ?_⟩
  rw [List.length_append,List.length_singleton]
  generalize (128 : Int) ^ (10 - (l.length + 1)) = x at h2 ⊢
  omega
 ·rw [show 10 - l.length = 0 by omega] at h2
  simp at h2
  omega
end Go.Abs.RM
end
section
namespace Go.Abs.RM
open Go.Proofs
set_option maxRecDepth 100000
set_option maxHeartbeats 4000000
def WQv {α : Type} (f : FuncId) (args : List WV) (en : α → WV) (Q : α → Prop) : Prop := WValid P f args (fun z => ∃ r,z = en r ∧ Q r)
def WOQ {α : Type} (f : FuncId) (args : List WV) (s : Nat) (b : Bool) (c : α → List WV) (Q : List α → Prop) : Prop := WOwn P f args s b (fun es => ∃ r,es = r.map c ∧ Q r)
def WUQ {α : Type} (f : FuncId) (post : List WV) (s : Nat) (l : List α) (c : α → List WV) (Q : List α → Prop) : Prop := WUpd P f post s (l.map c) (fun es => ∃ r,es = r.map c ∧ Q r)
def WTQ {α : Type} (f : FuncId) (post : List WV) (s : Nat) (l : List α) (c : α → List WV) (Q : List α → Prop) : Prop := WSet P f post s (l.map c) (fun es => ∃ r,es = r.map c ∧ Q r)
section
variable {α β : Type}
theorem wO {g : FuncId} {args : List WV} {s : Nat} {b : Bool} {c : α → List WV} {Q : List α → Prop} {X : Nat → Bool → List (List WV) → Prop} {Y Z : Prop} (ok : WOQ g args s b c Q) (h : ∀ z,Q z → X s b (z.map c)) : Z ∨ (∃ s b G,WOwn P g args s b G ∧ ∀ v,G v → X s b v) ∨ Y :=
 .inr (.inl ⟨_,_,_,ok,fun v ⟨r,e,q⟩ => by subst e; exact h r q⟩)
theorem wU {g : FuncId} {vs post : List WV} {l : List α} {c : α → List WV} {objs : List (Nat × WO)} {m s rt : Nat} {Q : List α → Prop} {X : Nat → Nat → Nat → List (List WV) → Prop} {Y Z V : Prop} (hl : leafs (l.map c)) (ok : WUQ g post s l c Q) (h : ∀ z,Q z → X m s rt (z.map c)) (e1 : vs = .row m :: post) (e2 : lk objs m = some (.row (l.map c) s false rt)) (e3 : post.all leafB = true) :
  Y ∨ Z ∨ (∃ m post es s rt G,vs = .row m :: post ∧ lk objs m = some (.row es s false rt) ∧ leafs es ∧ post.all leafB = true ∧ WUpd P g post s es G ∧ ∀ es',G es' → X m s rt es') ∨ V :=
 .inr (.inr (.inl ⟨_,_,_,_,_,_,e1,e2,hl,e3,ok,fun v ⟨r,e,q⟩ => by subst e; exact h r q⟩))
theorem wT {g : FuncId} {vs post : List WV} {l : List α} {c : α → List WV} {objs : List (Nat × WO)} {m s rt : Nat} {Q : List α → Prop} {X : Nat → Nat → Nat → List (List WV) → Prop} {Y Z V : Prop} (hl : leafs (l.map c)) (ok : WTQ g post s l c Q) (h : ∀ z,Q z → X m s rt (z.map c)) (e1 : vs = .row m :: post) (e2 : lk objs m = some (.row (l.map c) s false rt)) (e3 : post.all leafB = true) :
  Y ∨ Z ∨ V ∨ (∃ m post es s rt G,vs = .row m :: post ∧ lk objs m = some (.row es s false rt) ∧ leafs es ∧ post.all leafB = true ∧ WSet P g post s es G ∧ ∀ es',G es' → X m s rt es') :=
 .inr (.inr (.inr ⟨_,_,_,_,_,_,e1,e2,hl,e3,ok,fun v ⟨r,e,q⟩ => by subst e; exact h r q⟩))
theorem wK {b : Nat} {c : Int} {f : α → List WV} {z : α} {zs : List WV} {X : List (List WV) → Prop} (e : zs = f z) (h0 : 0 ≤ c) (h1 : c ≤ 1099511627776) (h2 : (b : Int) * c ≤ 140737488355328) (h : X ((List.replicate c.toNat z).map f)) : 0 ≤ c ∧ c ≤ c ∧ c ≤ 2 ^ 40 ∧ (b : Int) * c ≤ 2 ^ 47 ∧ ∃ y,List.replicate c.toNat zs = y ∧ X y :=
 ⟨h0,Int.le_refl _,h1,h2,_,by rw [List.map_replicate,e],h⟩
theorem wN {l m : List α} {f : α → List WV} {b s : Nat} {ys : List (List WV)} {X : List (List WV) → Prop} (hy : ys.length = m.length) (hc : cellP s ys) (e : l.map f ++ ys = (l ++ m).map f) (h1 : (2 * (l.length + m.length) + 192) * b ≤ 281474976710656) (h2 : l.length + m.length ≤ 1152921504606846976) (h : X ((l ++ m).map f)) : roomP b ((l.map f).length + ys.length) ∧ cellP s ys ∧ ∃ zs,l.map f ++ ys = zs ∧ X zs := by
 rw [List.length_map,hy]
 exact ⟨⟨h1,h2⟩,hc,_,e,h⟩
theorem wD {γ : Type} {l : List α} {m : List γ} {f : α → List WV} {b s : Nat} {ys : List (List WV)} {X : List (List WV) → Prop} (hy : ys.length = m.length) (hc : cellP s ys) (h1 : (2 * (l.length + m.length) + 192) * b ≤ 281474976710656) (h2 : l.length + m.length ≤ 1152921504606846976) (h : X (l.map f ++ ys)) : roomP b ((l.map f).length + ys.length) ∧ cellP s ys ∧ ∃ zs,l.map f ++ ys = zs ∧ X zs := by
 rw [List.length_map,hy]
 exact ⟨⟨h1,h2⟩,hc,_,rfl,h⟩
theorem wW {l : List α} {f : α → List WV} {k n s : Nat} {base ys zs : List (List WV)} {X : List (List WV) → Prop} (hy : ys.length = l.length) (hc : cellP s ys) (e : base ++ ys = zs) (h0 : 0 < l.length) (h1 : (2 * (n + l.length) + 192) * k ≤ 281474976710656) (h2 : n + l.length ≤ 1152921504606846976) (h : X zs) : ys ≠ [] ∧ roomP k (n + ys.length) ∧ cellP s ys ∧ ∃ zs,base ++ ys = zs ∧ X zs := by
 rw [hy]
 exact ⟨fun h => by rw [h] at hy; simp at hy; omega,⟨h1,h2⟩,hc,_,e,h⟩
theorem bD {p : Prop} [Decidable p] {X Y : Prop} (h1 : p → X) (h2 : ¬p → Y) : Bool.rec (motive := fun _ => Prop) Y X (decide p) := br (fun h => h1 (of_decide_eq_true h)) fun h => h2 (of_decide_eq_false h)
theorem bI {a b : Int} {X Y : Prop} (h1 : a = b → X) (h2 : a ≠ b → Y) : Bool.rec (motive := fun _ => Prop) Y X (a == b) := br (fun h => h1 (eq_of_beq h)) fun h => h2 (by simpa using h)
theorem bJ {a b : Int} {X Y : Prop} (h1 : a ≠ b → X) (h2 : a = b → Y) : Bool.rec (motive := fun _ => Prop) Y X (!(a == b)) := br (fun h => h1 (by simpa using h)) fun h => h2 (by simpa using h)
theorem bN {b : Bool} {X Y : Prop} (h1 : b = false → X) (h2 : b = true → Y) : Bool.rec (motive := fun _ => Prop) Y X (!b) := br (fun h => h1 (by simpa using h)) fun h => h2 (by simpa using h)
theorem bS {a b : ByteArray} {X Y : Prop} (h1 : a = b → X) (h2 : a ≠ b → Y) : Bool.rec (motive := fun _ => Prop) Y X (a.toList == b.toList) := br (fun h => h1 (str_inj (eq_of_beq h))) fun h => h2 (fun e => by rw [e] at h; simp at h)
theorem bT' {a b : ByteArray} {X Y : Prop} (h1 : a ≠ b → X) (h2 : a = b → Y) : Bool.rec (motive := fun _ => Prop) Y X (!(a.toList == b.toList)) := bN (fun h => h1 (fun e => by rw [e] at h; simp at h)) fun h => h2 (str_inj (eq_of_beq h))
theorem wG {l : List α} {f : α → List WV} {i : Int} {s : Nat} {X : List WV → Prop} (h0 : 0 ≤ i) (h1 : i < (l.length : Int)) (hl : ∀ a,(f a).length = s) (h : ∀ a,l[i.toNat]? = some a → a ∈ l → X (f a)) : 0 ≤ i ∧ ∃ cs,(l.map f)[i.toNat]? = some cs ∧ cs.length = s ∧ X cs := by
 have hl' : i.toNat < l.length := by omega
 have e : l[i.toNat]? = some l[i.toNat] := by simp [hl']
 exact ⟨h0,f l[i.toNat],at_ _ e,hl _,h _ e (List.getElem_mem hl')⟩
theorem wE {l : List α} {f : α → List WV} {i : Int} {s : Nat} {x : α} {X : List WV → Prop} (he : l[i.toNat]? = some x) (h0 : 0 ≤ i) (hl : ∀ a,(f a).length = s) (h : X (f x)) : 0 ≤ i ∧ ∃ cs,(l.map f)[i.toNat]? = some cs ∧ cs.length = s ∧ X cs :=
 ⟨h0,f x,at_ _ he,hl _,h⟩
theorem wA {l m : List α} {f : α → List WV} {b s : Nat} {ys : List (List WV)} {X : List (List WV) → Prop} (e : ys = m.map f) (hc : ∀ a,(f a).length = s ∧ (f a).all storableW = true) (h1 : (2 * (l.length + m.length) + 192) * b ≤ 281474976710656) (h2 : l.length + m.length ≤ 1152921504606846976) (h : X ((l ++ m).map f)) : roomP b ((l.map f).length + ys.length) ∧ cellP s ys ∧ ∃ zs,l.map f ++ ys = zs ∧ X zs := by
 subst e
 rw [List.length_map,List.length_map]
 exact ⟨⟨h1,h2⟩,cellP_map hc _,_,List.map_append.symm,h⟩
theorem wC {g : FuncId} {args : List WV} {en : α → WV} {Q : α → Prop} {X : WV → Prop} {Y : Prop} (ok : WQv g args en Q) (h : ∀ z,Q z → X (en z)) : (∃ G,WValid P g args G ∧ ∀ v,G v → X v) ∨ Y :=
 .inl ⟨_,ok,fun v ⟨r,e,q⟩ => by subst e; exact h r q⟩
theorem wS {a : ByteArray} {i : Int} {X : UInt8 → Prop} (h0 : 0 ≤ i) (h1 : i < (a.size : Int)) (h : ∀ b,a[i.toNat]? = some b → X b) : 0 ≤ i ∧ ∃ b,a[i.toNat]? = some b ∧ X b := by
 have hl : i.toNat < a.size := by omega
 have e : a[i.toNat]? = some a[i.toNat] := by simp [hl]
 exact ⟨h0,_,e,h _ e⟩
theorem wR {l : List α} {f : α → List WV} {i : Int} {X : Prop} (h0 : 0 ≤ i) (h1 : i < (l.length : Int)) (h : X) : 0 ≤ i ∧ i.toNat < (l.map f).length ∧ X := ⟨h0,by rw [List.length_map]; omega,h⟩
theorem wL {l : List α} {f : α → List WV} {i : Int} {X : List WV → Prop} (h0 : 0 ≤ i) (h1 : i < (l.length : Int)) (h : ∀ a,l[i.toNat]? = some a → X (f a)) : ∃ cs,(l.map f)[i.toNat]? = some cs ∧ X cs := by
 have hl' : i.toNat < l.length := by omega
 have e : l[i.toNat]? = some l[i.toNat] := by simp [hl']
 exact ⟨f l[i.toNat],at_ _ e,h _ e⟩
theorem wLE {l : List α} {f : α → List WV} {i : Int} {x : α} {X : List WV → Prop} (he : l[i.toNat]? = some x) (h : X (f x)) : ∃ cs,(l.map f)[i.toNat]? = some cs ∧ X cs := ⟨f x,at_ _ he,h⟩
theorem wA0 {m : List α} {f : α → List WV} {b s : Nat} {ys : List (List WV)} {X : Prop} (e : ys = m.map f) (hc : ∀ a,(f a).length = s ∧ (f a).all storableW = true) (h1 : (2 * m.length + 192) * b ≤ 281474976710656) (h2 : m.length ≤ 1152921504606846976) (h : X) : roomP b ys.length ∧ cellP s ys ∧ X := by
 subst e
 rw [List.length_map]
 exact ⟨⟨h1,h2⟩,cellP_map hc _,h⟩
theorem slB {l : List α} {f : α → List WV} (a : Nat) {X : List (List WV) → Prop} (h : X (((l.drop a).take (l.length - a)).map f)) : ∃ zs,((l.map f).drop a).take ((l.map f).length - a) = zs ∧ X zs := ⟨_,by rw [List.length_map,List.map_take,List.map_drop],h⟩
theorem slA {l : List α} {f : α → List WV} (a n : Nat) {X : List (List WV) → Prop} (h : X (((l.drop a).take n).map f)) : ∃ zs,((l.map f).drop a).take n = zs ∧ X zs := ⟨_,by rw [List.map_take,List.map_drop],h⟩
theorem wnB {l : List α} {f : α → List WV} (a : Nat) {X : Nat → Prop} (h : X (l.length - a)) : ∃ n,(l.map f).length - a = n ∧ X n := ⟨_,by rw [List.length_map],h⟩
theorem wnA (a b : Nat) {X : Nat → Prop} (h : X (b - a)) : ∃ n,b - a = n ∧ X n := ⟨_,rfl,h⟩
theorem V0 {T : WT} {W : WH} {x : Code} {Q : WQ} (I : Prop) (sh : WT) (hp : WH) (m : Nat) (hI : I) (fit : Suits T W (sh) (hp))
  (step : I → Wk P tabL x (sh) (hp) (fun e T' W' => match e with | .normal => ∃ q : Unit,I ∧ m < m ∧ Suits T' W' (sh) (hp) | .exit id => Q (.exit id) T' W' | .ret => Q .ret T' W')) : LoopW P x T W Q :=
 loopW tabOk mixed (S := Unit) (fun q => sh) (fun q => hp) (fun q => I) (fun q => m) () hI fit fun q h => step  h
theorem V1 {A0 : Type} {T : WT} {W : WH} {x : Code} {Q : WQ} (I : A0 → Prop) (sh : A0 → WT) (hp : A0 → WH) (m : A0 → Nat) (s0 : A0) (hI : I s0) (fit : Suits T W (sh s0) (hp s0))
  (step : ∀ s0,I s0 → Wk P tabL x (sh s0) (hp s0) (fun e T' W' => match e with | .normal => ∃ q : A0,I q ∧ m q < m s0 ∧ Suits T' W' (sh q) (hp q) | .exit id => Q (.exit id) T' W' | .ret => Q .ret T' W')) : LoopW P x T W Q :=
 loopW tabOk mixed (S := A0) (fun q => sh q) (fun q => hp q) (fun q => I q) (fun q => m q) s0 hI fit fun q h => step q h
theorem V2 {A0 A1 : Type} {T : WT} {W : WH} {x : Code} {Q : WQ} (I : A0 → A1 → Prop) (sh : A0 → A1 → WT) (hp : A0 → A1 → WH) (m : A0 → A1 → Nat) (s0 : A0) (s1 : A1) (hI : I s0 s1) (fit : Suits T W (sh s0 s1) (hp s0 s1))
  (step : ∀ s0 s1,I s0 s1 → Wk P tabL x (sh s0 s1) (hp s0 s1) (fun e T' W' => match e with | .normal => ∃ q : A0 × A1,I q.1 q.2 ∧ m q.1 q.2 < m s0 s1 ∧ Suits T' W' (sh q.1 q.2) (hp q.1 q.2) | .exit id => Q (.exit id) T' W' | .ret => Q .ret T' W')) : LoopW P x T W Q :=
 loopW tabOk mixed (S := A0 × A1) (fun q => sh q.1 q.2) (fun q => hp q.1 q.2) (fun q => I q.1 q.2) (fun q => m q.1 q.2) ⟨s0,s1⟩ hI fit fun q h => step q.1 q.2 h
theorem V3 {A0 A1 A2 : Type} {T : WT} {W : WH} {x : Code} {Q : WQ} (I : A0 → A1 → A2 → Prop) (sh : A0 → A1 → A2 → WT) (hp : A0 → A1 → A2 → WH) (m : A0 → A1 → A2 → Nat) (s0 : A0) (s1 : A1) (s2 : A2) (hI : I s0 s1 s2) (fit : Suits T W (sh s0 s1 s2) (hp s0 s1 s2))
  (step : ∀ s0 s1 s2,I s0 s1 s2 → Wk P tabL x (sh s0 s1 s2) (hp s0 s1 s2) (fun e T' W' => match e with | .normal => ∃ q : A0 × A1 × A2,I q.1 q.2.1 q.2.2 ∧ m q.1 q.2.1 q.2.2 < m s0 s1 s2 ∧ Suits T' W' (sh q.1 q.2.1 q.2.2) (hp q.1 q.2.1 q.2.2) | .exit id => Q (.exit id) T' W' | .ret => Q .ret T' W')) : LoopW P x T W Q :=
 loopW tabOk mixed (S := A0 × A1 × A2) (fun q => sh q.1 q.2.1 q.2.2) (fun q => hp q.1 q.2.1 q.2.2) (fun q => I q.1 q.2.1 q.2.2) (fun q => m q.1 q.2.1 q.2.2) ⟨s0,s1,s2⟩ hI fit fun q h => step q.1 q.2.1 q.2.2 h
theorem V4 {A0 A1 A2 A3 : Type} {T : WT} {W : WH} {x : Code} {Q : WQ} (I : A0 → A1 → A2 → A3 → Prop) (sh : A0 → A1 → A2 → A3 → WT) (hp : A0 → A1 → A2 → A3 → WH) (m : A0 → A1 → A2 → A3 → Nat) (s0 : A0) (s1 : A1) (s2 : A2) (s3 : A3) (hI : I s0 s1 s2 s3) (fit : Suits T W (sh s0 s1 s2 s3) (hp s0 s1 s2 s3))
  (step : ∀ s0 s1 s2 s3,I s0 s1 s2 s3 → Wk P tabL x (sh s0 s1 s2 s3) (hp s0 s1 s2 s3) (fun e T' W' => match e with | .normal => ∃ q : A0 × A1 × A2 × A3,I q.1 q.2.1 q.2.2.1 q.2.2.2 ∧ m q.1 q.2.1 q.2.2.1 q.2.2.2 < m s0 s1 s2 s3 ∧ Suits T' W' (sh q.1 q.2.1 q.2.2.1 q.2.2.2) (hp q.1 q.2.1 q.2.2.1 q.2.2.2) | .exit id => Q (.exit id) T' W' | .ret => Q .ret T' W')) : LoopW P x T W Q :=
 loopW tabOk mixed (S := A0 × A1 × A2 × A3) (fun q => sh q.1 q.2.1 q.2.2.1 q.2.2.2) (fun q => hp q.1 q.2.1 q.2.2.1 q.2.2.2) (fun q => I q.1 q.2.1 q.2.2.1 q.2.2.2) (fun q => m q.1 q.2.1 q.2.2.1 q.2.2.2) ⟨s0,s1,s2,s3⟩ hI fit fun q h => step q.1 q.2.1 q.2.2.1 q.2.2.2 h
theorem V5 {A0 A1 A2 A3 A4 : Type} {T : WT} {W : WH} {x : Code} {Q : WQ} (I : A0 → A1 → A2 → A3 → A4 → Prop) (sh : A0 → A1 → A2 → A3 → A4 → WT) (hp : A0 → A1 → A2 → A3 → A4 → WH) (m : A0 → A1 → A2 → A3 → A4 → Nat) (s0 : A0) (s1 : A1) (s2 : A2) (s3 : A3) (s4 : A4) (hI : I s0 s1 s2 s3 s4) (fit : Suits T W (sh s0 s1 s2 s3 s4) (hp s0 s1 s2 s3 s4))
  (step : ∀ s0 s1 s2 s3 s4,I s0 s1 s2 s3 s4 → Wk P tabL x (sh s0 s1 s2 s3 s4) (hp s0 s1 s2 s3 s4) (fun e T' W' => match e with | .normal => ∃ q : A0 × A1 × A2 × A3 × A4,I q.1 q.2.1 q.2.2.1 q.2.2.2.1 q.2.2.2.2 ∧ m q.1 q.2.1 q.2.2.1 q.2.2.2.1 q.2.2.2.2 < m s0 s1 s2 s3 s4 ∧ Suits T' W' (sh q.1 q.2.1 q.2.2.1 q.2.2.2.1 q.2.2.2.2) (hp q.1 q.2.1 q.2.2.1 q.2.2.2.1 q.2.2.2.2) | .exit id => Q (.exit id) T' W' | .ret => Q .ret T' W')) : LoopW P x T W Q :=
 loopW tabOk mixed (S := A0 × A1 × A2 × A3 × A4) (fun q => sh q.1 q.2.1 q.2.2.1 q.2.2.2.1 q.2.2.2.2) (fun q => hp q.1 q.2.1 q.2.2.1 q.2.2.2.1 q.2.2.2.2) (fun q => I q.1 q.2.1 q.2.2.1 q.2.2.2.1 q.2.2.2.2) (fun q => m q.1 q.2.1 q.2.2.1 q.2.2.2.1 q.2.2.2.2) ⟨s0,s1,s2,s3,s4⟩ hI fit fun q h => step q.1 q.2.1 q.2.2.1 q.2.2.2.1 q.2.2.2.2 h
theorem V6 {A0 A1 A2 A3 A4 A5 : Type} {T : WT} {W : WH} {x : Code} {Q : WQ} (I : A0 → A1 → A2 → A3 → A4 → A5 → Prop) (sh : A0 → A1 → A2 → A3 → A4 → A5 → WT) (hp : A0 → A1 → A2 → A3 → A4 → A5 → WH) (m : A0 → A1 → A2 → A3 → A4 → A5 → Nat) (s0 : A0) (s1 : A1) (s2 : A2) (s3 : A3) (s4 : A4) (s5 : A5) (hI : I s0 s1 s2 s3 s4 s5) (fit : Suits T W (sh s0 s1 s2 s3 s4 s5) (hp s0 s1 s2 s3 s4 s5))
  (step : ∀ s0 s1 s2 s3 s4 s5,I s0 s1 s2 s3 s4 s5 → Wk P tabL x (sh s0 s1 s2 s3 s4 s5) (hp s0 s1 s2 s3 s4 s5) (fun e T' W' => match e with | .normal => ∃ q : A0 × A1 × A2 × A3 × A4 × A5,I q.1 q.2.1 q.2.2.1 q.2.2.2.1 q.2.2.2.2.1 q.2.2.2.2.2 ∧ m q.1 q.2.1 q.2.2.1 q.2.2.2.1 q.2.2.2.2.1 q.2.2.2.2.2 < m s0 s1 s2 s3 s4 s5 ∧ Suits T' W' (sh q.1 q.2.1 q.2.2.1 q.2.2.2.1 q.2.2.2.2.1 q.2.2.2.2.2) (hp q.1 q.2.1 q.2.2.1 q.2.2.2.1 q.2.2.2.2.1 q.2.2.2.2.2) | .exit id => Q (.exit id) T' W' | .ret => Q .ret T' W')) : LoopW P x T W Q :=
 loopW tabOk mixed (S := A0 × A1 × A2 × A3 × A4 × A5) (fun q => sh q.1 q.2.1 q.2.2.1 q.2.2.2.1 q.2.2.2.2.1 q.2.2.2.2.2) (fun q => hp q.1 q.2.1 q.2.2.1 q.2.2.2.1 q.2.2.2.2.1 q.2.2.2.2.2) (fun q => I q.1 q.2.1 q.2.2.1 q.2.2.2.1 q.2.2.2.2.1 q.2.2.2.2.2) (fun q => m q.1 q.2.1 q.2.2.1 q.2.2.2.1 q.2.2.2.2.1 q.2.2.2.2.2) ⟨s0,s1,s2,s3,s4,s5⟩ hI fit fun q h => step q.1 q.2.1 q.2.2.1 q.2.2.2.1 q.2.2.2.2.1 q.2.2.2.2.2 h
theorem V7 {A0 A1 A2 A3 A4 A5 A6 : Type} {T : WT} {W : WH} {x : Code} {Q : WQ} (I : A0 → A1 → A2 → A3 → A4 → A5 → A6 → Prop) (sh : A0 → A1 → A2 → A3 → A4 → A5 → A6 → WT) (hp : A0 → A1 → A2 → A3 → A4 → A5 → A6 → WH) (m : A0 → A1 → A2 → A3 → A4 → A5 → A6 → Nat) (s0 : A0) (s1 : A1) (s2 : A2) (s3 : A3) (s4 : A4) (s5 : A5) (s6 : A6) (hI : I s0 s1 s2 s3 s4 s5 s6) (fit : Suits T W (sh s0 s1 s2 s3 s4 s5 s6) (hp s0 s1 s2 s3 s4 s5 s6))
  (step : ∀ s0 s1 s2 s3 s4 s5 s6,I s0 s1 s2 s3 s4 s5 s6 → Wk P tabL x (sh s0 s1 s2 s3 s4 s5 s6) (hp s0 s1 s2 s3 s4 s5 s6) (fun e T' W' => match e with | .normal => ∃ q : A0 × A1 × A2 × A3 × A4 × A5 × A6,I q.1 q.2.1 q.2.2.1 q.2.2.2.1 q.2.2.2.2.1 q.2.2.2.2.2.1 q.2.2.2.2.2.2 ∧ m q.1 q.2.1 q.2.2.1 q.2.2.2.1 q.2.2.2.2.1 q.2.2.2.2.2.1 q.2.2.2.2.2.2 < m s0 s1 s2 s3 s4 s5 s6 ∧ Suits T' W' (sh q.1 q.2.1 q.2.2.1 q.2.2.2.1 q.2.2.2.2.1 q.2.2.2.2.2.1 q.2.2.2.2.2.2) (hp q.1 q.2.1 q.2.2.1 q.2.2.2.1 q.2.2.2.2.1 q.2.2.2.2.2.1 q.2.2.2.2.2.2) | .exit id => Q (.exit id) T' W' | .ret => Q .ret T' W')) : LoopW P x T W Q :=
 loopW tabOk mixed (S := A0 × A1 × A2 × A3 × A4 × A5 × A6) (fun q => sh q.1 q.2.1 q.2.2.1 q.2.2.2.1 q.2.2.2.2.1 q.2.2.2.2.2.1 q.2.2.2.2.2.2) (fun q => hp q.1 q.2.1 q.2.2.1 q.2.2.2.1 q.2.2.2.2.1 q.2.2.2.2.2.1 q.2.2.2.2.2.2) (fun q => I q.1 q.2.1 q.2.2.1 q.2.2.2.1 q.2.2.2.2.1 q.2.2.2.2.2.1 q.2.2.2.2.2.2) (fun q => m q.1 q.2.1 q.2.2.1 q.2.2.2.1 q.2.2.2.2.1 q.2.2.2.2.2.1 q.2.2.2.2.2.2) ⟨s0,s1,s2,s3,s4,s5,s6⟩ hI fit fun q h => step q.1 q.2.1 q.2.2.1 q.2.2.2.1 q.2.2.2.2.1 q.2.2.2.2.2.1 q.2.2.2.2.2.2 h
end
theorem sz0 : (⟨#[]⟩ : ByteArray).size = 0 := rfl
end Go.Abs.RM
end
section
namespace Go.Abs.RM
attribute [grind] CB EB EM PutP Got IS ids zL
attribute [grind] nx_eq wrap_i64 sz0 IS.len Got.eb Got.mem Got.ids txt_len strL_len List.length_drop List.length_take
end Go.Abs.RM
end
section
namespace Go.Abs.RM
def Tot {α : Type} (x : Option α) (Q : α → Prop) : Prop := ∃ r,x = some r ∧ Q r
namespace Tot
variable {α β : Type}
theorem ret {r : α} {Q : α → Prop} (h : Q r) : Tot (some r) Q := ⟨r,rfl,h⟩
theorem bind {x : Option α} {f : α → Option β} {Q1 : α → Prop} {Q : β → Prop} (hx : Tot x Q1) (hf : ∀ r,Q1 r → Tot (f r) Q) : Tot (x.bind f) Q := by
 obtain ⟨r,rfl,hr⟩ := hx
 exact hf r hr
theorem mono {x : Option α} {Q1 Q : α → Prop} (hx : Tot x Q1) (h : ∀ r,Q1 r → Q r) : Tot x Q := by
 obtain ⟨r,hr,hq⟩ := hx
 exact ⟨r,hr,h r hq⟩
theorem bif' {b : Bool} {A B : Option α} {Q : α → Prop} (h1 : b = true → Tot A Q) (h2 : b = false → Tot B Q) : Tot (bif b then A else B) Q := by
 cases b
 ·exact h2 rfl
 ·exact h1 rfl
theorem bifN {b : Bool} {A B : Option α} {Q : α → Prop} (h1 : b = false → Tot A Q) (h2 : b = true → Tot B Q) : Tot (bif !b then A else B) Q := by
 cases b
 ·exact h1 rfl
 ·exact h2 rfl
theorem dec {p : Prop} [Decidable p] {A B : Option α} {Q : α → Prop} (h1 : p → Tot A Q) (h2 : ¬p → Tot B Q) : Tot (bif decide p then A else B) Q :=
 bif' (fun h => h1 (of_decide_eq_true h)) fun h => h2 (of_decide_eq_false h)
theorem eqI {a b : Int} {A B : Option α} {Q : α → Prop} (h1 : a = b → Tot A Q) (h2 : a ≠ b → Tot B Q) : Tot (bif a == b then A else B) Q :=
 bif' (fun h => h1 (eq_of_beq h)) fun h => h2 (by simpa using h)
theorem neI {a b : Int} {A B : Option α} {Q : α → Prop} (h1 : a ≠ b → Tot A Q) (h2 : a = b → Tot B Q) : Tot (bif !(a == b) then A else B) Q :=
 bifN (fun h => h1 (by simpa using h)) fun h => h2 (eq_of_beq h)
theorem eqS {a b : ByteArray} {A B : Option α} {Q : α → Prop} (h1 : a = b → Tot A Q) (h2 : a ≠ b → Tot B Q) : Tot (bif a.toList == b.toList then A else B) Q :=
 bif' (fun h => h1 (str_inj (eq_of_beq h))) fun h => h2 (fun e => by rw [e] at h; simp at h)
end Tot
end Go.Abs.RM
end
section
namespace Go.Abs.RM
open Go.Proofs Go.Deep Go.ChangeShapes Go.WideShapes Go.ChangeAt Go.RowKit
def Sh (W : World) (vs : List WV) (cs : List Value) : Prop := ∃ xs,PRs vs xs ∧ TVs W (fun b _ => b < W.heap.size) (fun _ => False) xs cs
theorem prs_app {a b : List WV} {x y : List AV} (h : PRs a x) (k : PRs b y) : PRs (a ++ b) (x ++ y) := by
 induction a generalizing x with
 | nil => cases h; exact k
 | cons c a ih => cases h with | cons h1 h2 => exact .cons h1 (ih h2)
theorem tvs_app {w : World} {I : Nat → Nat → Prop} {J : Nat → Prop} {a b : List AV} {x y : List Value} (h : TVs w I J a x) (k : TVs w I J b y) : TVs w I J (a ++ b) (x ++ y) := by
 induction a generalizing x with
 | nil => cases h; exact k
 | cons c a ih => cases h with | cons h1 h2 => exact .cons h1 (ih h2)
theorem Sh.nil {W : World} : Sh W [] [] := ⟨[],.nil,.nil⟩
theorem Sh.app {W : World} {a b : List WV} {x y : List Value} (h : Sh W a x) (k : Sh W b y) : Sh W (a ++ b) (x ++ y) := by
 obtain ⟨xs,h1,h2⟩ := h
 obtain ⟨ys,k1,k2⟩ := k
 exact ⟨xs ++ ys,prs_app h1 k1,tvs_app h2 k2⟩
theorem Sh.sc {W : World} {x : Value} (h : scalarB x = true) : Sh W [.sc x] [x] := ⟨[.sc x],.cons .sc .nil,.cons (.sc h) .nil⟩
theorem prs_len {a : List WV} {x : List AV} (h : PRs a x) : x.length = a.length := by
 induction a generalizing x with
 | nil => cases h; rfl
 | cons c a ih => cases h with | cons h1 h2 => rw [List.length_cons,ih h2]; rfl
section
variable {H : Type} (enc : TypeId × Value → H) (W : World) (base : Nat) (held : Bool)
def Rd (t : TypeId) {α : Type} (c : α → List WV) (B : α → Prop) : Prop := ∀ fuel cs y,DataW.trod enc P W base (fun _ => true) held fuel t cs = some y → ∃ a,B a ∧ Sh W (c a) cs
def RdF (N o : Nat) (fs : List Field) {α : Type} (c : α → List WV) (B : α → Prop) : Prop :=
 ∀ (fuel : Nat) (cs : List Value),cs.length = N → (∀ f ∈ fs,∃ y,DataW.trod enc P W base (fun _ => true) held fuel f.type ((cs.drop f.offset).take (P.cellsOf f.type)) = some y) → ∃ a,B a ∧ Sh W (c a) (cs.drop o)
variable {enc W base held} {α β : Type} {t e : TypeId} {c : α → List WV} {B : α → Prop}
theorem rd_int (ht : P.underlying t = some (.int .i64)) : Rd enc W base held t c_i64 (fun _ => True) := fun fuel cs y h => by
 obtain ⟨n,rfl,_⟩ := DataW.trod_int ht h
 exact ⟨n,trivial,Sh.sc rfl⟩
theorem rd_bool (ht : P.underlying t = some .bool) : Rd enc W base held t (fun b : Bool => [.sc (.bool b)]) (fun _ => True) := fun fuel cs y h => by
 obtain ⟨n,rfl,_⟩ := DataW.trod_bool ht h
 exact ⟨n,trivial,Sh.sc rfl⟩
theorem rd_str (ht : P.underlying t = some .string) : Rd enc W base held t cStr (fun s : ByteArray => s.size ≤ 9223372036854775807) := fun fuel cs y h => by
 obtain ⟨n,rfl,_,h2⟩ := DataW.trod_string ht h
 exact ⟨n,h2,Sh.sc rfl⟩
theorem rdf_nil {N : Nat} : RdF enc W base held N N [] (fun _ : Unit => []) (fun _ => True) := fun fuel cs h _ => ⟨(),trivial,by rw [← h,List.drop_length]; exact Sh.nil⟩
theorem rdf_cons {N o k : Nat} {f : Field} {fs : List Field} {d : β → List WV} {D : β → Prop} (h1 : Rd enc W base held f.type c B) (ho : f.offset = o) (hk : P.cellsOf f.type = k) (h2 : RdF enc W base held N (o + k) fs d D) :
  RdF enc W base held N o (f :: fs) (fun a : α × β => c a.1 ++ d a.2) (fun a => B a.1 ∧ D a.2) := fun fuel cs hl h => by
 obtain ⟨y,hy⟩ := h f (List.mem_cons_self ..)
 obtain ⟨a,q1,q2⟩ := h1 _ _ _ hy
 obtain ⟨b,q3,q4⟩ := h2 fuel cs hl fun g hg => h g (List.mem_cons_of_mem _ hg)
 refine ⟨(a,b),⟨q1,q3⟩,?_⟩
 have : cs.drop o = (cs.drop f.offset).take (P.cellsOf f.type) ++ cs.drop (o + k) := by rw [ho,hk,← List.drop_drop,List.take_append_drop]
 rw [this]
 exact q2.app q4
theorem rd_struct {N : Nat} {fs : Array Field} (ht : P.underlying t = some (.struct fs)) (hN : P.cellsOf t = N) (h : RdF enc W base held N 0 fs.toList c B) {γ : Type} {d : γ → List WV} {D : γ → Prop} (mk : α → γ) (he : ∀ a,d (mk a) = c a) (hB : ∀ a,B a → D (mk a)) : Rd enc W base held t d D := fun fuel cs y hy => by
 obtain ⟨xs,n,_,_,h3,h4,h5⟩ := DataW.trod_struct ht hy
 obtain ⟨a,q1,q2⟩ := h n cs (h3.trans hN) fun f hf => by
  obtain ⟨i,hi,rfl⟩ := List.mem_iff_getElem.1 hf
  have hx : i < xs.length := by rw [h4]; simpa using hi
  exact ⟨xs[i],(h5 i _ (by simp at hi ⊢)).trans (List.getElem?_eq_getElem hx)⟩
 exact ⟨mk a,hB a q1,by rw [he]; exact q2⟩
theorem flat_at {size : Nat} : ∀ (es : List (List Value)) (j : Nat) (u : Value),(∀ c ∈ es,c.length = size) → es.flatten[j]? = some u → ∃ i r c,es[i]? = some c ∧ r < size ∧ j = i * size + r ∧ c[r]? = some u
 | [],j,u,_,h => by simp at h
 | c :: es,j,u,hl,h => by
  have hc := hl c (List.mem_cons_self ..)
  rw [List.flatten_cons] at h
  by_cases hj : j < c.length
  ·rw [List.getElem?_append_left hj] at h
   exact ⟨0,j,c,rfl,by omega,by omega,h⟩
  ·rw [List.getElem?_append_right (by omega)] at h
   obtain ⟨i,r,c',h1,h2,h3,h4⟩ := flat_at es (j - c.length) u (fun x hx => hl x (List.mem_cons_of_mem _ hx)) h
   exact ⟨i + 1,r,c',by simpa using h1,h2,by rw [Nat.add_mul]; omega,h4⟩
theorem shs {l : List α} {f : List (List Value)} (h : l.length = f.length) (hh : ∀ (i : Nat) a v,l[i]? = some a → f[i]? = some v → Sh W (c a) v) : ∃ xs : List (List AV),PRss (l.map c) xs ∧ TVs W (fun b _ => b < W.heap.size) (fun _ => False) xs.flatten f.flatten := by
 induction l generalizing f with
 | nil => cases f with
  | nil => exact ⟨[],.nil,.nil⟩
  | cons => cases h
 | cons a l ih => cases f with
  | nil => cases h
  | cons v f =>
   obtain ⟨xs,h1,h2⟩ := hh 0 a v rfl rfl
   obtain ⟨ys,h3,h4⟩ := ih (Nat.succ.inj h) fun i a v p q => hh (i + 1) a v p q
   exact ⟨xs :: ys,.cons h1 h3,tvs_app h2 h4⟩
theorem prss_each {l : List (List WV)} {xs : List (List AV)} (h : PRss l xs) {s : Nat} (hl : ∀ e ∈ l,e.length = s) : xs.length = l.length ∧ ∀ e ∈ xs,e.length = s := by
 induction l generalizing xs with
 | nil => cases h; exact ⟨rfl,fun e he => by cases he⟩
 | cons c l ih => cases h with
  | cons h1 h2 =>
   obtain ⟨q1,q2⟩ := ih h2 fun e he => hl e (List.mem_cons_of_mem _ he)
   refine ⟨by rw [List.length_cons,q1]; rfl,fun e he => ?_⟩
   rcases List.mem_cons.1 he with rfl | he
   ·rw [prs_len h1]; exact hl _ (List.mem_cons_self ..)
   ·exact q2 e he
theorem rd_slice {s : Nat} (ht : P.underlying t = some (.slice e)) (hs : P.cellsOf e = s) (hc : ∀ a,(c a).length = s) (h : Rd enc W base held e c B) (hpos : 0 < s := by decide) : Rd enc W base held t (fun l : List α => [.lst (l.map c)]) (fun l => (∀ x ∈ l,B x) ∧ l.length ≤ 9223372036854775807) := fun fuel cs y hy => by
 rcases open_slice ht hy with ⟨rfl,_⟩ | ⟨a,l,cp,m,n,D,Pl,rfl,hb,hl,hm,hmm,hx,hi⟩
 ·exact ⟨[],⟨fun x hx => (by cases hx),Nat.zero_le _⟩,[.sc (.slice none 0 0)],.cons .emp .nil,.cons (.sc rfl) .nil⟩
 ·have hlm : l ≤ m := by rw [hmm]; split <;> omega
  have each : ∀ i,i < l → ∃ c' : List Value,W.cells? base (a.add (i * s)) s = some c' ∧ c'.length = s ∧ ∃ x,B x ∧ Sh W (c x) c' := fun i hil => by
   obtain ⟨c',h1,h2⟩ := hi i (by omega)
   rw [hs] at h1
   obtain ⟨_,h3,_⟩ := World.cells?_some h1
   exact ⟨c',h1,h3,h _ _ _ h2⟩
  obtain ⟨f,hf⟩ := choose_lt each
  obtain ⟨g,hg⟩ : ∃ g : Fin l → α,∀ i : Fin l,B (g i) ∧ Sh W (c (g i)) (f i) := ⟨fun i => ((hf i i.2).2.2).choose,fun i => ((hf i i.2).2.2).choose_spec⟩
  have hall : ∀ c ∈ (List.range l).map f,c.length = s := fun c hc => by
   obtain ⟨i,hi',rfl⟩ := List.mem_map.1 hc
   exact (hf i (List.mem_range.1 hi')).2.1
  obtain ⟨xs,hp,htv⟩ := shs (W := W) (c := c) (l := List.ofFn g) (f := (List.range l).map f) (by simp) fun i x v p q => by
   have hil : i < l := by
    have := (List.getElem?_eq_some_iff.1 p).1
    simpa using this
   have e1 : x = g ⟨i,hil⟩ := by simpa [hil] using p.symm
   have e2 : v = f i := by simpa [hil] using q.symm
   rw [e1,e2]
   exact (hg ⟨i,hil⟩).2
  obtain ⟨k1,k2⟩ := prss_each hp (s := s) fun e he => by
   obtain ⟨x,_,rfl⟩ := List.mem_map.1 he
   exact hc x
  have k3 : xs.length = l := by rw [k1]; simp
  refine ⟨List.ofFn g,⟨fun x hx => ?_,by simp; exact Nat.le_trans hl hm⟩,[.isl xs false],.cons (.lst hp) .nil,.cons ?_ .nil⟩
  ·obtain ⟨i,rfl⟩ := List.mem_ofFn.1 hx
   exact (hg i).1
  ·have hcell : ∀ (j : Nat) (u : Value),((List.range l).map f).flatten[j]? = some u → ∃ b o,a = ⟨b,o,none⟩ ∧ W.cell? ⟨b,o + j,none⟩ = some u := fun j u hu => by
    obtain ⟨i,r,c',h1,h2,h3,h4⟩ := flat_at _ j u hall hu
    have hil : i < l := by
     have := (List.getElem?_eq_some_iff.1 h1).1
     simpa using this
    have : c' = f i := by simpa [hil] using h1.symm
    subst this
    obtain ⟨_,hlen',hc'⟩ := World.cells?_some (hf i hil).1
    have h5 := hc' r (by omega)
    have h6 := List.getElem?_eq_getElem (l := f i) (i := r) (by omega)
    obtain ⟨_,hlen0,hc0⟩ := World.cells?_some (hf 0 (by omega)).1
    have h7 := hc0 0 (by omega)
    rw [List.getElem?_eq_getElem (by omega)] at h7
    obtain ⟨b,off,spot⟩ := a
    have hspot : spot = none := by
     have := World.cell?_spot h7
     simpa [Addr.add] using this
    subst hspot
    rw [add_add,Go.WideShapes.add_plain] at h5
    exact ⟨b,off,rfl,by rw [h3,h5]; rw [h6] at h4; simpa [List.getD,h6] using h4⟩
   have : TV W (fun b _ => b < W.heap.size) (fun _ => False) (.isl xs false) (.slice (some a) xs.length cp) :=
    .isl htv (fun hne => by
     have hl0 : 0 < l := by rw [← k3]; exact List.length_pos_iff.2 hne
     have hj : 0 < ((List.range l).map f).flatten.length := by
      have h0 := hall (f 0) (List.mem_map.2 ⟨0,List.mem_range.2 hl0,rfl⟩)
      obtain ⟨k,rfl⟩ : ∃ k,l = k + 1 := ⟨l - 1,by omega⟩
      rw [List.range_succ_eq_map,List.map_cons,List.flatten_cons,List.length_append]
      omega
     obtain ⟨b,o,rfl,_⟩ := hcell 0 _ (List.getElem?_eq_getElem hj)
     refine ⟨rfl,fun j v hv => ?_⟩
     obtain ⟨b',o',e,hw⟩ := hcell j v hv
     cases e
     have hlt := block_lt_of_cell (a := ⟨b,o + j,none⟩) hw
     exact ⟨hlt,hw⟩) k2 (by rw [k3]; exact hl) (fun h => by cases h)
   rwa [k3] at this
end
end Go.Abs.RM
end
