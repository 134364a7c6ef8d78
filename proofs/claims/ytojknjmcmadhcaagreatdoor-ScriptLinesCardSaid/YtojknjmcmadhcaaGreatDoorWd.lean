/- The line of an act is read back; plain. -/
import Derived.Test.YtojknjmcmadhcaaGreatDoorWa
import Derived.Test.YtojknjmcmadhcaaGreatDoorWb

section
namespace Go.Proofs.R50

theorem valN_foldl : ∀ (l : List UInt8) (a : Nat), l.foldl (fun a b => 10 * a + (b.toNat - 48)) a = a * 10 ^ l.length + valN l
 | [], a => by simp [valN]
 | b :: l, a => by
  have h1 := valN_foldl l (10 * a + (b.toNat - 48))
  have h2 := valN_foldl l (10 * 0 + (b.toNat - 48))
  have h3 : valN (b :: l) = l.foldl (fun a b => 10 * a + (b.toNat - 48)) (10 * 0 + (b.toNat - 48)) := rfl
  rw [List.foldl_cons, h1, h3, h2, List.length_cons, Nat.pow_succ]
  have e1 : (10 * a + (b.toNat - 48)) * 10 ^ l.length = a * (10 ^ l.length * 10) + (b.toNat - 48) * 10 ^ l.length := by
   rw [Nat.add_mul, Nat.mul_comm 10 a, Nat.mul_assoc a 10, Nat.mul_comm 10 (10 ^ l.length)]
  rw [e1, Nat.mul_zero, Nat.zero_add]
  omega
theorem valN_cons (b : UInt8) (l : List UInt8) : valN (b :: l) = (b.toNat - 48) * 10 ^ l.length + valN l := by
 have h := valN_foldl l (10 * 0 + (b.toNat - 48))
 rw [Nat.mul_zero, Nat.zero_add] at h
 show l.foldl (fun a b => 10 * a + (b.toNat - 48)) (10 * 0 + (b.toNat - 48)) = _
 rw [Nat.mul_zero, Nat.zero_add]
 exact h
theorem valN_lastD (N : Nat) : ∀ k, valN (lastD N k) = N % 10 ^ k
 | 0 => by simp [lastD, valN, Nat.mod_one]
 | k + 1 => by
  rw [lastD, valN_cons, lastD_len, valN_lastD N k, dig_nat, Nat.pow_succ, Nat.mod_mul, Nat.add_sub_cancel_left, Nat.mul_comm, Nat.add_comm]
theorem dig_isD (N : Nat) : isD (dig N) = true := by
 unfold isD
 rw [dig_nat]
 exact decide_eq_true ⟨by omega, by omega⟩
theorem lastD_all (N : Nat) : ∀ k, (lastD N k).all isD = true
 | 0 => rfl
 | k + 1 => by rw [lastD, List.all_cons, dig_isD, lastD_all N k]; rfl
theorem ndF_big : ∀ f N, N < 10 ^ f → N / 10 ^ ndF f N = 0
 | 0, N, h => by
  have : N = 0 := by simpa using h
  subst this
  simp
 | f + 1, N, h => by
  unfold ndF
  split
  ·rename_i h0
   simpa using h0
  ·rw [Nat.pow_add, Nat.pow_one, ← Nat.div_div_eq_div_mul]
   exact ndF_big f (N / 10) (by rw [Nat.pow_succ] at h; omega)
theorem valN_decN {N : Nat} (h : N ≤ 1000000000000) : valN (decN N) = N := by
 unfold decN
 rw [valN_lastD]
 have h1 : N / 10 ^ nd N = 0 := ndF_big 25 N (Nat.lt_of_le_of_lt h (by decide))
 have h2 := Nat.div_add_mod N (10 ^ nd N)
 rw [h1, Nat.mul_zero, Nat.zero_add] at h2
 exact h2
theorem decN_head (N : Nat) : ∃ M, (decN N).head? = some (dig M) := lastD_head N _ (ndF_pos _ _)
theorem numP_decI {n : Int} (h : n.natAbs ≤ 1000000000000) : numP (decI n) = some n := by
 have hv := valN_decN h
 by_cases hn : n < 0
 ·have e : decI n = 45 :: decN n.natAbs := by unfold decI; rw [if_pos hn]
  have hb : body (decI n) = decN n.natAbs := by rw [e]; simp [body]
  have hnv : numV (decI n) = n := by
   unfold numV
   rw [hb, hv, e, if_pos (by rfl)]
   omega
  unfold numP
  rw [hb, hnv, if_pos ⟨lastD_all _ _, h, rfl⟩]
 ·have e : decI n = decN n.natAbs := by unfold decI; rw [if_neg hn]
  obtain ⟨M, hM⟩ := decN_head n.natAbs
  have hne : (decI n).head? ≠ some 45 := by rw [e, hM]; intro q; exact dig_ne M (Option.some.inj q)
  have hb : body (decI n) = decN n.natAbs := by
   rw [e] at hne ⊢
   cases hd : decN n.natAbs with
   | nil => rfl
   | cons b r =>
    rw [hd] at hne
    have : ¬ b = 45 := fun q => hne (by rw [q]; rfl)
    simp [body, this]
  have hnv : numV (decI n) = n := by
   unfold numV
   rw [hb, hv, if_neg hne]
   omega
  unfold numP
  rw [hb, hnv, if_pos ⟨lastD_all _ _, h, rfl⟩]
theorem hexP_hexL {n : Int} (h0 : 0 ≤ n) (h1 : n < 4611686018427387904) : hexP (hexL (m62 n)) = some n := by
 have hm : (m62 n : Int) = n := by unfold m62; omega
 have hm2 : m62 n < 4611686018427387904 := by omega
 have hv : valH (hexL (m62 n)) = m62 n := by
  unfold hexL
  rw [valH_lastH]
  exact Nat.mod_eq_of_lt (Nat.lt_trans hm2 (by decide))
 unfold hexP
 rw [if_pos ⟨lastH_len _ _, lastH_all _ _, by rw [hv]; exact hm2⟩, hv, hm]

/-- What can be split off ahead of the first byte c. -/
theorem splitL_app {c : UInt8} {a r : List UInt8} (h : c ∉ a) : splitL c (a ++ c :: r) = a :: splitL c r := by
 have h1 : (a ++ c :: r)[a.length]? = some c := by rw [List.getElem?_append_right (Nat.le_refl _), Nat.sub_self]; rfl
 rw [splitL_hit h1 fun k hk e => h (by
  rw [List.getElem?_append_left hk] at e
  exact List.mem_of_getElem? e)]
 rw [List.take_left]
 congr 1
 rw [show a.length + 1 = (a ++ [c]).length by simp, show a ++ c :: r = (a ++ [c]) ++ r by simp, List.drop_left]
theorem splitL_line {c : UInt8} : ∀ (ps : List (List UInt8)) (a : List UInt8), c ∉ a → (∀ p ∈ ps, c ∉ p) → splitL c (a ++ ps.flatMap (c :: ·)) = a :: ps
 | [], a, ha, _ => by rw [List.flatMap_nil, List.append_nil, splitL_miss ha]
 | p :: ps, a, ha, hp => by
  rw [List.flatMap_cons, List.cons_append, splitL_app ha, splitL_line ps p (hp p (List.mem_cons_self ..)) fun q hq => hp q (List.mem_cons_of_mem _ hq)]
theorem splitL_line2 {c : UInt8} (t : List UInt8) : ∀ (ps : List (List UInt8)) (a : List UInt8), c ∉ a → (∀ p ∈ ps, c ∉ p) → splitL c (a ++ ps.flatMap (c :: ·) ++ c :: t) = a :: ps ++ splitL c t
 | [], a, ha, _ => by rw [List.flatMap_nil, List.append_nil, splitL_app ha]; rfl
 | p :: ps, a, ha, hp => by
  rw [List.flatMap_cons, List.cons_append, List.append_assoc, List.cons_append, splitL_app ha, splitL_line2 t ps p (hp p (List.mem_cons_self ..)) fun q hq => hp q (List.mem_cons_of_mem _ hq)]
  rfl
theorem flat_map (ps : List ByteArray) : (ps.flatMap fun p => 32 :: p.data.toList) = (ps.map (·.data.toList)).flatMap (32 :: ·) := by
 rw [List.flatMap_map]
theorem ba_map (ps : List ByteArray) : (ps.map (·.data.toList)).map ba = ps := by
 rw [List.map_map]
 have : (ba ∘ fun x : ByteArray => x.data.toList) = id := by funext x; exact ba_data x
 rw [this, List.map_id]
theorem splitB_line {wd : ByteArray} {ps : List ByteArray} (h : (32 : UInt8) ∉ wd.data.toList) (hp : ∀ p ∈ ps, (32 : UInt8) ∉ p.data.toList) : splitB 32 (lineL wd ps) = wd :: ps := by
 unfold splitB lineL
 rw [data_ba, flat_map, splitL_line _ _ h (fun q hq => by obtain ⟨p, hp', rfl⟩ := List.mem_map.1 hq; exact hp p hp'), List.map_cons, ba_data, ba_map]
theorem splitB_line2 {wd t : ByteArray} {ps : List ByteArray} (h : (32 : UInt8) ∉ wd.data.toList) (hp : ∀ p ∈ ps, (32 : UInt8) ∉ p.data.toList) : splitB 32 (lineL wd (ps ++ [t])) = wd :: ps ++ splitB 32 t := by
 unfold splitB lineL
 rw [data_ba, List.flatMap_append, List.flatMap_cons, List.flatMap_nil, List.append_nil, ← List.append_assoc, flat_map, splitL_line2 _ _ _ h (fun q hq => by obtain ⟨p, hp', rfl⟩ := List.mem_map.1 hq; exact hp p hp'), List.map_append, List.map_cons, ba_data, ba_map]

theorem pre_list (p s : ByteArray) : pre p s = decide (p.data.toList <+: s.data.toList) := by
 have key : (p.size ≤ s.size ∧ s.extract 0 p.size = p) ↔ p.data.toList <+: s.data.toList := by
  constructor
  ·rintro ⟨h1, h2⟩
   rw [List.prefix_iff_eq_take, data_len]
   rw [← Lib.extract_from_zero, h2]
  ·intro h
   have hl := h.length_le
   rw [data_len, data_len] at hl
   refine ⟨hl, ?_⟩
   rw [List.prefix_iff_eq_take, data_len, ← Lib.extract_from_zero] at h
   rw [← ba_data (s.extract 0 p.size), ← h, ba_data]
 unfold pre
 exact decide_eq_decide.2 key
theorem mark_data : (mark 0).data.toList = [110, 61] ∧ (mark 1).data.toList = [99, 61] ∧ (mark 2).data.toList = [116, 111, 61] ∧ (mark 3).data.toList = [116, 101, 120, 116, 61] := ⟨rfl, rfl, rfl, rfl⟩
theorem fieldN_n {s : ByteArray} {r : List UInt8} (h : s.data.toList = 110 :: 61 :: r) : fieldN s = 1 := by
 refine fieldN_at (k := 0) (by decide) ?_ fun j hj => by omega
 rw [pre_list, h, mark_data.1]
 exact decide_eq_true ⟨r, rfl⟩
theorem fieldN_c {s : ByteArray} {r : List UInt8} (h : s.data.toList = 99 :: 61 :: r) : fieldN s = 2 := by
 refine fieldN_at (k := 1) (by decide) ?_ fun j hj => ?_
 ·rw [pre_list, h, mark_data.2.1]
  exact decide_eq_true ⟨r, rfl⟩
 ·obtain rfl : j = 0 := by omega
  rw [pre_list, h, mark_data.1]
  refine decide_eq_false ?_
  rintro ⟨t, ht⟩
  cases ht
theorem fieldN_to {s : ByteArray} {r : List UInt8} (h : s.data.toList = 116 :: 111 :: 61 :: r) : fieldN s = 3 := by
 refine fieldN_at (k := 2) (by decide) ?_ fun j hj => ?_
 ·rw [pre_list, h, mark_data.2.2.1]
  exact decide_eq_true ⟨r, rfl⟩
 ·rw [pre_list, h]
  refine decide_eq_false ?_
  rcases (by omega : j = 0 ∨ j = 1) with rfl | rfl
  ·rw [mark_data.1]
   rintro ⟨t, ht⟩
   cases ht
  ·rw [mark_data.2.1]
   rintro ⟨t, ht⟩
   cases ht
theorem fieldN_text {s : ByteArray} {r : List UInt8} (h : s.data.toList = 116 :: 101 :: 120 :: 116 :: 61 :: r) : fieldN s = 4 := by
 refine fieldN_at (k := 3) (by decide) ?_ fun j hj => ?_
 ·rw [pre_list, h, mark_data.2.2.2]
  exact decide_eq_true ⟨r, rfl⟩
 ·rw [pre_list, h]
  refine decide_eq_false ?_
  rcases (by omega : j = 0 ∨ j = 1 ∨ j = 2) with rfl | rfl | rfl
  ·rw [mark_data.1]
   rintro ⟨t, ht⟩
   cases ht
  ·rw [mark_data.2.1]
   rintro ⟨t, ht⟩
   cases ht
  ·rw [mark_data.2.2.1]
   rintro ⟨t, ht⟩
   cases ht
theorem fval_at {s : ByteArray} {m r : List UInt8} {k : Nat} (hk : k < 4) (hf : fieldN s = k + 1) (hm : (mark k).data.toList = m) (h : s.data.toList = m ++ r) : (fval s).data.toList = r := by
 obtain ⟨_, h2⟩ := fieldN_cases hk hf
 have hsz : (mark k).size = m.length := by rw [← hm, data_len]
 rw [h2, Lib.extract_to_end, h, hsz, List.drop_left]

theorem go_names : ∀ (names : List ByteArray) (R : List ByteArray) (A : AS), (A.s1 = false ∧ A.s2 = false ∧ A.s3 = false) → (∀ z ∈ names, z ≠ ⟨#[]⟩ ∧ fieldN z = 0) → actGo (names ++ R) A = actGo R { A with names := A.names ++ names }
 | [], R, A, _, _ => by rw [List.nil_append, List.append_nil]
 | z :: names, R, A, hs, h => by
  have hz := h z (List.mem_cons_self ..)
  rw [List.cons_append, go_name _ hz.1 hz.2 hs]
  refine (go_names names R { A with names := A.names ++ [z] } hs fun y hy => h y (List.mem_cons_of_mem _ hy)).trans ?_
  simp
def flagB (n : Int) : Bool := !decide (n = 0)
theorem go_optN {n : Int} (R : List ByteArray) (A : AS) (hA : A.n = 0) (hs : A.s1 = false) (hn : n.natAbs ≤ 1000000000000) : actGo (optN [110, 61] n ++ R) A = actGo R { A with n := n, s1 := flagB n } := by
 unfold optN flagB
 by_cases h : n = 0
 ·rw [if_pos h, List.nil_append, decide_eq_true h]
  congr 1
  cases A
  simp_all
 ·rw [if_neg h, decide_eq_false h, List.cons_append, List.nil_append]
  have hd : (⟨#[110, 61]⟩ ++ ⟨(decI n).toArray⟩ : ByteArray).data.toList = 110 :: 61 :: decI n := by rw [ByteArray.data_append]; simp
  have hf := fieldN_n hd
  have hv := fval_at (k := 0) (by decide) hf rfl (m := [110, 61]) hd
  exact go_n_yes _ hf hs (by rw [hv]; exact numP_decI hn)
theorem go_optC {n : Int} (R : List ByteArray) (A : AS) (hA : A.cn = 0) (hs : A.s2 = false) (hn : n.natAbs ≤ 1000000000000) : actGo (optN [99, 61] n ++ R) A = actGo R { A with cn := n, s2 := flagB n } := by
 unfold optN flagB
 by_cases h : n = 0
 ·rw [if_pos h, List.nil_append, decide_eq_true h]
  congr 1
  cases A
  simp_all
 ·rw [if_neg h, decide_eq_false h, List.cons_append, List.nil_append]
  have hd : (⟨#[99, 61]⟩ ++ ⟨(decI n).toArray⟩ : ByteArray).data.toList = 99 :: 61 :: decI n := by rw [ByteArray.data_append]; simp
  have hf := fieldN_c hd
  have hv := fval_at (k := 1) (by decide) hf rfl (m := [99, 61]) hd
  exact go_c_yes _ hf hs (by rw [hv]; exact numP_decI hn)
theorem go_optH {n : Int} (R : List ByteArray) (A : AS) (hA : A.tg = 0) (hs : A.s3 = false) (h0 : 0 ≤ n) (h1 : n < 4611686018427387904) : actGo (optH n ++ R) A = actGo R { A with tg := n, s3 := flagB n } := by
 unfold optH flagB
 by_cases h : n = 0
 ·rw [if_pos h, List.nil_append, decide_eq_true h]
  congr 1
  cases A
  simp_all
 ·rw [if_neg h, decide_eq_false h, List.cons_append, List.nil_append]
  have hd : (⟨#[116, 111, 61]⟩ ++ ⟨(hexL (m62 n)).toArray⟩ : ByteArray).data.toList = 116 :: 111 :: 61 :: hexL (m62 n) := by rw [ByteArray.data_append]; simp
  have hf := fieldN_to hd
  have hv := fval_at (k := 2) (by decide) hf rfl (m := [116, 111, 61]) hd
  exact go_to_yes _ hf hs (by rw [hv]; exact hexP_hexL h0 h1)

theorem ne_dig {c : UInt8} (N : Nat) (h : c.toNat < 48) : dig N ≠ c := fun e => by
 have := dig_nat N
 rw [e] at this
 omega
theorem lastD_no {c : UInt8} (h : c.toNat < 48) (N : Nat) : ∀ k, c ∉ lastD N k
 | 0 => by simp [lastD]
 | k + 1 => by
  rw [lastD, List.mem_cons]
  rintro (q | q)
  ·exact ne_dig _ h q.symm
  ·exact lastD_no h N k q
theorem decI_no {c : UInt8} (h : c.toNat < 45) (n : Int) : c ∉ decI n := by
 unfold decI
 split
 ·rw [List.mem_cons]
  rintro (q | q)
  ·rw [q] at h; exact absurd h (by decide)
  ·exact lastD_no (by omega) _ _ q
 ·exact lastD_no (by omega) _ _
theorem hexL_no {c : UInt8} (h : c.toNat < 45) (n : Nat) : c ∉ hexL n := fun q => by
 have := List.all_eq_true.1 (lastH_all n 16) c q
 have := of_decide_eq_true this
 omega
theorem cat_data (m x : List UInt8) : (⟨m.toArray⟩ ++ ⟨x.toArray⟩ : ByteArray).data.toList = m ++ x := by rw [ByteArray.data_append]; simp
theorem optN_no {c : UInt8} {m : List UInt8} (hm : c ∉ m) (h : c.toNat < 45) (n : Int) : ∀ p ∈ optN m n, c ∉ p.data.toList := fun p hp => by
 unfold optN at hp
 split at hp
 ·cases hp
 ·obtain rfl := List.mem_singleton.1 hp
  rw [cat_data, List.mem_append]
  rintro (q | q)
  ·exact hm q
  ·exact decI_no h n q
theorem optH_no {c : UInt8} (h : c.toNat < 45) (n : Int) : ∀ p ∈ optH n, c ∉ p.data.toList := fun p hp => by
 unfold optH at hp
 split at hp
 ·cases hp
 ·obtain rfl := List.mem_singleton.1 hp
  have := cat_data [116, 111, 61] (hexL (m62 n))
  rw [show (⟨#[116, 111, 61]⟩ ++ ⟨(hexL (m62 n)).toArray⟩ : ByteArray).data.toList = _ from this, List.mem_append]
  rintro (q | q)
  ·have hq : c.toNat ≥ 61 := by
    simp only [List.mem_cons, List.not_mem_nil, or_false] at q
    rcases q with rfl | rfl | rfl <;> decide
   omega
  ·exact hexL_no h _ q
/-- What the statement asks of an act's texts. -/
theorem plainB_parts {s : ByteArray} (h : plainB s = true) : (32 : UInt8) ∉ s.data.toList ∧ (10 : UInt8) ∉ s.data.toList ∧ s ≠ ⟨#[]⟩ ∧ ¬ s.data.toList[0]? = some 35 ∧ fieldN s = 0 := by
 unfold plainB at h
 simp only [Bool.and_eq_true, decide_eq_true_eq, Bool.not_eq_true', beq_eq_false_iff_ne] at h
 exact ⟨h.1.1.1.1, h.1.1.1.2, h.1.1.2, h.1.2, h.2⟩
/-- The words of the line of an act. -/
theorem actOf_line {wd tx : ByteArray} {names : List ByteArray} {n cn tg : Int} (hw : plainB wd = true) (hk : isWord wd = true) (hnm : ∀ z ∈ names, plainB z = true) (hn : n.natAbs ≤ 1000000000000) (hcn : cn.natAbs ≤ 1000000000000) (h0 : 0 ≤ tg) (h1 : tg < 4611686018427387904) :
  actOf (lineB wd names n cn tg tx) = some (wd, ⟨names, n, cn, tg, flagB n, flagB cn, flagB tg⟩, tx) := by
 have hwd := plainB_parts hw
 have hz : ∀ z ∈ names, z ≠ ⟨#[]⟩ ∧ fieldN z = 0 := fun z hz => ⟨(plainB_parts (hnm z hz)).2.2.1, (plainB_parts (hnm z hz)).2.2.2.2⟩
 have hno : ∀ p ∈ names ++ optN [110, 61] n ++ optN [99, 61] cn ++ optH tg, (32 : UInt8) ∉ p.data.toList := fun p hp => by
  simp only [List.mem_append] at hp
  rcases hp with ((hp | hp) | hp) | hp
  ·exact (plainB_parts (hnm p hp)).1
  ·exact optN_no (by decide) (by decide) _ p hp
  ·exact optN_no (by decide) (by decide) _ p hp
  ·exact optH_no (by decide) _ p hp
 have hgo : ∀ R, actGo (names ++ optN [110, 61] n ++ optN [99, 61] cn ++ optH tg ++ R) AS.z = actGo R ⟨names, n, cn, tg, flagB n, flagB cn, flagB tg⟩ := fun R => by
  rw [List.append_assoc, List.append_assoc, List.append_assoc, go_names names _ AS.z ⟨rfl, rfl, rfl⟩ hz, go_optN _ _ rfl rfl hn, go_optC _ _ rfl rfl hcn, go_optH _ _ rfl rfl h0 h1]
  rfl
 unfold actOf lineB restB optT
 by_cases ht : tx = ⟨#[]⟩
 ·rw [if_pos ht, List.append_nil, splitB_line hwd.1 hno]
  have := hgo []
  rw [List.append_nil] at this
  simp only [hk, if_true, this, actGo, Option.map_some, ht]
  rfl
 ·rw [if_neg ht, splitB_line2 hwd.1 hno]
  have hd : (⟨#[116, 101, 120, 116, 61]⟩ ++ tx : ByteArray).data.toList = 116 :: 101 :: 120 :: 116 :: 61 :: tx.data.toList := by rw [ByteArray.data_append]; simp
  obtain ⟨w0, ws, hws⟩ : ∃ w0 ws, splitL 32 tx.data.toList = w0 :: ws := List.exists_cons_of_ne_nil (splitL_ne 32 _)
  have hsp : splitB 32 (⟨#[116, 101, 120, 116, 61]⟩ ++ tx) = ba (116 :: 101 :: 120 :: 116 :: 61 :: w0) :: ws.map ba := by
   unfold splitB
   rw [hd, splitL_cons_ne (by decide) (splitL_cons_ne (by decide) (splitL_cons_ne (by decide) (splitL_cons_ne (by decide) (splitL_cons_ne (by decide) hws)))), List.map_cons]
  have hf : fieldN (ba (116 :: 101 :: 120 :: 116 :: 61 :: w0)) = 4 := fieldN_text (r := w0) (data_ba _)
  have htx : (⟨#[116, 101, 120, 116, 61]⟩ ++ tx : ByteArray).extract 5 (⟨#[116, 101, 120, 116, 61]⟩ ++ tx : ByteArray).size = tx := by
   rw [← ba_data (ByteArray.extract _ _ _), Lib.extract_to_end, hd]
   show ba tx.data.toList = tx
   exact ba_data tx
  have hto := textOf_eq hsp (by rw [ba_size]; simp)
  rw [htx] at hto
  have := hgo (splitB 32 (⟨#[116, 101, 120, 116, 61]⟩ ++ tx))
  rw [hsp, go_text _ _ hf, ← hto] at this
  rw [hsp, List.cons_append]
  simp only [hk, if_true, this, Option.map_some]
theorem line_data (wd : ByteArray) (ps : List ByteArray) : (lineL wd ps).data.toList = wd.data.toList ++ ps.flatMap fun p => 32 :: p.data.toList := data_ba _
theorem parse_line {wd tx : ByteArray} {names : List ByteArray} {n cn tg : Int} (hw : plainB wd = true) (hk : isWord wd = true) (hnm : ∀ z ∈ names, plainB z = true) (hn : n.natAbs ≤ 1000000000000) (hcn : cn.natAbs ≤ 1000000000000) (h0 : 0 ≤ tg) (h1 : tg < 4611686018427387904) (ht : (10 : UInt8) ∉ tx.data.toList) :
  parseGo (splitB 10 (lineB wd names n cn tg tx)) 0 [] = .inl [(wd, ⟨names, n, cn, tg, flagB n, flagB cn, flagB tg⟩, tx)] := by
 have hwd := plainB_parts hw
 have hno : ∀ p ∈ restB names n cn tg tx, (10 : UInt8) ∉ p.data.toList := fun p hp => by
  unfold restB at hp
  simp only [List.mem_append] at hp
  rcases hp with (((hp | hp) | hp) | hp) | hp
  ·exact (plainB_parts (hnm p hp)).2.1
  ·exact optN_no (by decide) (by decide) _ p hp
  ·exact optN_no (by decide) (by decide) _ p hp
  ·exact optH_no (by decide) _ p hp
  ·unfold optT at hp
   split at hp
   ·cases hp
   ·obtain rfl := List.mem_singleton.1 hp
    have hd : (⟨#[116, 101, 120, 116, 61]⟩ ++ tx : ByteArray).data.toList = [116, 101, 120, 116, 61] ++ tx.data.toList := by rw [ByteArray.data_append, Array.toList_append]
    rw [hd, List.mem_append]
    rintro (q | q)
    ·exact absurd q (by decide)
    ·exact ht q
 have hsp : splitB 10 (lineB wd names n cn tg tx) = [lineB wd names n cn tg tx] := by
  unfold splitB
  rw [splitL_miss, List.map_cons, List.map_nil, ba_data]
  unfold lineB
  rw [line_data, List.mem_append, List.mem_flatMap]
  rintro (q | ⟨p, hp, q⟩)
  ·exact hwd.2.1 q
  ·rcases List.mem_cons.1 q with q | q
   ·exact absurd q (by decide)
   ·exact hno p hp q
 have hskip : skipL (lineB wd names n cn tg tx) = false := by
  obtain ⟨b, hb⟩ := first_byte hwd.2.2.1
  have hb2 : (lineB wd names n cn tg tx).data.toList[0]? = some b := by
   unfold lineB
   rw [line_data, List.getElem?_append_left (by have := (List.getElem?_eq_some_iff.1 hb).1; exact this)]
   exact hb
  rw [skip_cons hb2]
  have : b ≠ 35 := fun e => hwd.2.2.2.1 (by rw [hb, e])
  simpa using this
 rw [hsp, parseGo, if_neg (by rw [hskip]; decide), actOf_line hw hk hnm hn hcn h0 h1]
 rfl
end Go.Proofs.R50
end

/- content of the law, for any content. -/
section
namespace Go.Proofs.R50
open Go.ChangeShapes Go.WideShapes Go.ChangeAt Go.RowKit

/-- The cells of a content. -/
def bodyG (tx : ByteArray) (cn tg : Int) (th : Bool) (via : ByteArray) (al dn us kd : Value) (i1 i2 i3 i4 i5 i6 i7 : Int) : Array Value := #[.string tx, .int .i64 cn, .int .i64 tg, .bool th, .string via, al, dn, us, kd, .int .i64 i1, .int .i64 i2, .int .i64 i3, .int .i64 i4, .int .i64 i5, .int .i64 i6, .int .i64 i7]
/-- Nothing but what a script can write. -/
def contentB (th : Bool) (via : ByteArray) (la ld lu lk : Nat) : Bool := !th && decide (via = ⟨#[]⟩) && decide (la = 0) && decide (ld = 0) && decide (lu = 0) && decide (lk = 0)

set_option maxRecDepth 100000 in
set_option maxHeartbeats 4000000 in
theorem content_self (tx : ByteArray) (cn tg : Int) (th : Bool) (via : ByteArray) (la ca ld cd lu cu lk ck : Nat) (oa od ou ok : Option Addr) (i1 i2 i3 i4 i5 i6 i7 : Int) (w : World) :
  Calls Tryz.prog 9 #[.agg (bodyG tx cn tg th via (.slice oa la ca) (.slice od ld cd) (.slice ou lu cu) (.slice ok lk ck) i1 i2 i3 i4 i5 i6 i7), .agg (bodyG tx cn tg th via (.slice oa la ca) (.slice od ld cd) (.slice ou lu cu) (.slice ok lk ck) i1 i2 i3 i4 i5 i6 i7)] w fun e w' => e = .returned (.bool (contentB th via la ld lu lk)) ∧ Below w.heap.size w w' := by
 have hb := ((Below.refl w.heap.size w).alloc (Nat.le_refl _) (.cells (bodyG tx cn tg th via (.slice oa la ca) (.slice od ld cd) (.slice ou lu cu) (.slice ok lk ck) i1 i2 i3 i4 i5 i6 i7) 35)).alloc (by rw [World.size_alloc]; omega) (.cells (bodyG tx cn tg th via (.slice oa la ca) (.slice od ld cd) (.slice ou lu cu) (.slice ok lk ck) i1 i2 i3 i4 i5 i6 i7) 35)
 have Hb := Lib.hid hb
 clear hb
 unfold bodyG
 go_enter Tryz.func9, Tryz.ntmps9
 cases th with
 | true =>
  have Hc : Hid (contentB true via la ld lu lk = false) := rfl
  go_wp2_with fail
  go_ret
  exact ⟨by rw [(Hc : _ = _)]; rfl, Hb⟩
 | false =>
  by_cases hv : via = ⟨#[]⟩
  ·subst hv
   by_cases hla : la = 0
   ·subst hla
    by_cases hld : ld = 0
    ·subst hld
     by_cases hlu : lu = 0
     ·subst hlu
      by_cases hlk : lk = 0
      ·subst hlk
       have Hc : Hid (contentB false ⟨#[]⟩ 0 0 0 0 = true) := rfl
       go_wp2_with fail
       go_ret
       exact ⟨by rw [(Hc : _ = _)]; rfl, Hb⟩
      ·have hi : ¬ (lk : Int) = 0 := by omega
       have hib : ((lk : Int) == 0) = false := beq_eq_false_iff_ne.2 hi
       have Hc : Hid (contentB false ⟨#[]⟩ 0 0 0 lk = false) := by show _ = _; unfold contentB; simp [hlk]
       clear hlk
       go_wp2_with fail
       go_ret
       exact ⟨by rw [(Hc : _ = _)]; rfl, Hb⟩
     ·have hi : ¬ (lu : Int) = 0 := by omega
      have hib : ((lu : Int) == 0) = false := beq_eq_false_iff_ne.2 hi
      have Hc : Hid (contentB false ⟨#[]⟩ 0 0 lu lk = false) := by show _ = _; unfold contentB; simp [hlu]
      clear hlu
      go_wp2_with fail
      go_ret
      exact ⟨by rw [(Hc : _ = _)]; rfl, Hb⟩
    ·have hi : ¬ (ld : Int) = 0 := by omega
     have hib : ((ld : Int) == 0) = false := beq_eq_false_iff_ne.2 hi
     have Hc : Hid (contentB false ⟨#[]⟩ 0 ld lu lk = false) := by show _ = _; unfold contentB; simp [hld]
     clear hld
     go_wp2_with fail
     go_ret
     exact ⟨by rw [(Hc : _ = _)]; rfl, Hb⟩
   ·have hi : ¬ (la : Int) = 0 := by omega
    have hib : ((la : Int) == 0) = false := beq_eq_false_iff_ne.2 hi
    have Hc : Hid (contentB false ⟨#[]⟩ la ld lu lk = false) := by show _ = _; unfold contentB; simp [hla]
    clear hla
    go_wp2_with fail
    go_ret
    exact ⟨by rw [(Hc : _ = _)]; rfl, Hb⟩
  ·have hne := isEmpty_no hv
   have Hc : Hid (contentB false via la ld lu lk = false) := by show _ = _; unfold contentB; simp [hv]
   clear hv
   go_wp2_with fail
   go_ret
   exact ⟨by rw [(Hc : _ = _)]; rfl, Hb⟩

set_option maxRecDepth 100000 in
set_option maxHeartbeats 1000000 in
theorem content_two (tx : ByteArray) (cn tg : Int) (th : Bool) (via : ByteArray) (al dn us kd : Value) (i1 i2 i3 i4 i5 i6 i7 : Int) (w : World) :
  Calls Tryz.prog 9 #[.agg (bodyC tx cn tg), .agg (bodyG tx cn tg th via al dn us kd i1 i2 i3 i4 i5 i6 i7)] w fun e w' => e = .returned (.bool true) ∧ Below w.heap.size w w' := by
 have hb := ((Below.refl w.heap.size w).alloc (Nat.le_refl _) (.cells (bodyC tx cn tg) 35)).alloc (by rw [World.size_alloc]; omega) (.cells (bodyG tx cn tg th via al dn us kd i1 i2 i3 i4 i5 i6 i7) 35)
 have Hb := Lib.hid hb
 clear hb
 unfold bodyC bodyG
 go_enter Tryz.func9, Tryz.ntmps9
 go_wp2_with fail
 go_ret
 exact ⟨rfl, Hb⟩
end Go.Proofs.R50
end

/- same of the law, for one act. -/
section
namespace Go.Proofs.R50
open Go.ChangeShapes Go.WideShapes Go.ChangeAt Go.RowKit

theorem load35G {w : World} {b o : Nat} (cs : Array Value) (hs : cs.size = 16) (h : w.rangeAt b o cs.toList) : (Instr.loadAt 35 (.pointer (some ⟨b, o, none⟩))).run Tryz.prog w = .ok (.agg cs) w := by
 obtain ⟨fs, hu⟩ := under35
 exact run_loadAt_mid w b o 35 cs.toList _ h hu rfl (by rw [size35, Array.length_toList, hs])

set_option maxRecDepth 100000 in
set_option maxHeartbeats 1000000 in
theorem same_one (v1 nv2 : Value) (t1 : Value × PA) (wd tx via : ByteArray) (A : AS) (th : Bool) (al dn us kd : Value) (i1 i2 i3 i4 i5 i6 i7 : Int) (b2 : Nat) (w : World) (h1 : Acts w v1 [t1]) (ht : t1.2 = (wd, A, tx)) (hS2 : Strs w nv2 A.names) (h2 : Whole w b2 37 (actG wd nv2 A.n tx A.cn A.tg th via al dn us kd i1 i2 i3 i4 i5 i6 i7)) :
  Calls Tryz.prog 8 #[v1, .slice (some ⟨b2, 0, none⟩) 1 1] w fun x w' => x = .returned (.bool true) ∧ Below w.heap.size w w' := by
 obtain ⟨a1, c1, rfl, hl1, hc1⟩ := h1.form
 obtain ⟨c2, hc2⟩ : ∃ c2 : Nat, c2 = 1 := ⟨1, rfl⟩
 obtain ⟨no2, nc2, rfl, hn1, hn2⟩ := hS2.form
 have q0 := Below.refl w.heap.size w
 have H1 := Lib.hid h1
 have H2 := Lib.hid h2
 have Ht := Lib.hid ht
 have HN2 := Lib.hid hS2
 have hb2 : b2 < w.heap.size := h2.lt
 obtain ⟨L, hL⟩ : ∃ L : Nat, ([t1] : List (Value × PA)).length = L := ⟨_, rfl⟩
 have hL1 : (1 : Nat) = L := hL
 rw [show (Value.slice (some ⟨b2, 0, none⟩) 1 1) = Value.slice (some ⟨b2, 0, none⟩) L c2 by rw [← hL1, hc2]]
 have hl2 : L ≤ c2 := by omega
 have hc2' : c2 ≤ 9223372036854775807 := by omega
 rw [hL] at hl1 H1 ⊢
 have HL := Lib.hid hL
 have HL1 := Lib.hid hL1
 clear h1 h2 hL ht hS2 hL1 hc2
 go_enter Tryz.func8, Tryz.ntmps8
 go_wp2_with fail
 go_loopw [5] (fun i wr => ∃ k : Nat, k ≤ L ∧ i = .int .i64 k ∧ Below w.heap.size w wr) (fun i _ => L - (intOf i).toNat)
 case atStart => exact ⟨0, Nat.zero_le _, rfl, q0⟩
 case round =>
  clear q0
  obtain ⟨k, hk, rfl, q⟩ := hrel
  by_cases hlt : k < L
  ·have hk0 : Hid (k = 0) := by
    have : (1 : Nat) = L := HL1
    show k = 0
    omega
   have hk1 : k < ([t1] : List (Value × PA)).length := by rw [(HL : _ = L)]; exact hlt
   obtain ⟨b1, o1, rfl, hb1, hr1⟩ := Acts.at_ H1 hk1
   have hn1 := Acts.names H1 ([t1] : List (Value × PA))[k] (List.getElem_mem hk1)
   have hr2 : ∀ j v, (actG wd (.slice no2 A.names.length nc2) A.n tx A.cn A.tg th via al dn us kd i1 i2 i3 i4 i5 i6 i7)[j]? = some v → w.cell? ⟨b2, k * 19 + j, none⟩ = some v := fun j v hv => by
    rw [(hk0 : k = 0), Nat.zero_mul, Nat.zero_add]
    exact (Whole.cell H2 j).trans hv
   have htk : ([t1] : List (Value × PA))[k] = t1 := by
    have h0 : k = 0 := hk0
    subst h0
    rfl
   rw [htk] at hr1 hn1
   obtain ⟨nv1, p1⟩ := t1
   obtain rfl : p1 = (wd, A, tx) := Ht
   replace hn1 : Strs w nv1 A.names := hn1
   clear htk hk1
   obtain ⟨no1, nc1, rfl, hm1, hm2⟩ := hn1.form
   have g1 : ∀ (X : Ext wr) j v, (actC wd (.slice no1 A.names.length nc1) A.n tx A.cn A.tg)[j]? = some v → X.val.cell? ⟨b1, o1 + k * 19 + j, none⟩ = some v := fun X j v hv => (ext_cell q hb1 X _).trans (hr1 j v hv)
   have g2 : ∀ (X : Ext wr) j v, (actG wd (.slice no2 A.names.length nc2) A.n tx A.cn A.tg th via al dn us kd i1 i2 i3 i4 i5 i6 i7)[j]? = some v → X.val.cell? ⟨b2, k * 19 + j, none⟩ = some v := fun X j v hv => (ext_cell q hb2 X _).trans (hr2 j v hv)
   have x0 : ∀ X : Ext wr, X.val.cell? ⟨b1, o1 + k * 19, none⟩ = some (.string wd) := fun X => g1 X 0 (.string wd) rfl
   have x1 : ∀ X : Ext wr, X.val.cell? ⟨b1, o1 + k * 19 + 1, none⟩ = some (.slice no1 A.names.length nc1) := fun X => g1 X 1 _ rfl
   have x2 : ∀ X : Ext wr, X.val.cell? ⟨b1, o1 + k * 19 + 2, none⟩ = some (.int .i64 A.n) := fun X => g1 X 2 _ rfl
   have y0 : ∀ X : Ext wr, X.val.cell? ⟨b2, k * 19, none⟩ = some (.string wd) := fun X => g2 X 0 (.string wd) rfl
   have y1 : ∀ X : Ext wr, X.val.cell? ⟨b2, k * 19 + 1, none⟩ = some (.slice no2 A.names.length nc2) := fun X => g2 X 1 _ rfl
   have y2 : ∀ X : Ext wr, X.val.cell? ⟨b2, k * 19 + 2, none⟩ = some (.int .i64 A.n) := fun X => g2 X 2 _ rfl
   have hx : ∀ X : Ext wr, (Instr.loadAt 35 (.pointer (some ⟨b1, o1 + k * 19 + 3, none⟩))).run Tryz.prog X.val = .ok (.agg (bodyC tx A.cn A.tg)) X.val := fun X => load35 tx A.cn A.tg fun j v hv => by
    rw [Nat.add_assoc]
    refine g1 X (3 + j) v ?_
    rw [← hv]
    have : (actC wd (.slice no1 A.names.length nc1) A.n tx A.cn A.tg).toList = [.string wd, .slice no1 A.names.length nc1, .int .i64 A.n] ++ (bodyC tx A.cn A.tg).toList := rfl
    rw [← Array.getElem?_toList, this, List.getElem?_append_right (by simp)]
    simp
   have hy : ∀ X : Ext wr, (Instr.loadAt 35 (.pointer (some ⟨b2, k * 19 + 3, none⟩))).run Tryz.prog X.val = .ok (.agg (bodyG tx A.cn A.tg th via al dn us kd i1 i2 i3 i4 i5 i6 i7)) X.val := fun X => load35G _ rfl fun j v hv => by
    rw [Nat.add_assoc]
    refine g2 X (3 + j) v ?_
    rw [← hv]
    have : (actG wd (.slice no2 A.names.length nc2) A.n tx A.cn A.tg th via al dn us kd i1 i2 i3 i4 i5 i6 i7).toList = [.string wd, .slice no2 A.names.length nc2, .int .i64 A.n] ++ (bodyG tx A.cn A.tg th via al dn us kd i1 i2 i3 i4 i5 i6 i7).toList := rfl
    rw [← Array.getElem?_toList, this, List.getElem?_append_right (by simp)]
    simp
   have hC := fun (X : Ext wr) => content_two tx A.cn A.tg th via al dn us kd i1 i2 i3 i4 i5 i6 i7 X.val
   have HN1 := Lib.hid hn1
   have hw1 : w.cell? ⟨b1, o1 + k * 19 + 1, none⟩ = some (.slice no1 A.names.length nc1) := hr1 1 _ rfl
   have hw2 : w.cell? ⟨b2, k * 19 + 1, none⟩ = some (.slice no2 A.names.length nc2) := hr2 1 _ rfl
   have Hw1 := Lib.hid hw1
   have Hw2 := Lib.hid hw2
   clear g1 g2 hr1 hr2 hn1 hw1 hw2
   go_wp2_with fail
   refine wp_region_ext (by kernel_rfl) (by kernel_rfl) ?_
   repeat (first | go_big_quiet_skip | (go_big_quiet_want; (first | (refine quiet_load 35 _ rfl _ rfl _ hx ?_; simp only [Act.put, List.setIfInBounds_toArray, List.set_cons_succ, List.set_cons_zero]; go_big_quiet_on) | (refine quiet_load 35 _ rfl _ rfl _ hy ?_; simp only [Act.put, List.setIfInBounds_toArray, List.set_cons_succ, List.set_cons_zero]; go_big_quiet_on) | (go_big_quiet_op; (first | go_big_quiet_on | go_big_quiet_call (with_reducible exact ext_of (hC _)))))))
   refine wpQuiet_nil ?_
   intro X
   have q' := q.trans (X.below.mono q.size)
   clear hx hy hC
   obtain ⟨M, hM⟩ : ∃ M, A.names.length = M := ⟨_, rfl⟩
   rw [hM] at x1 y1 Hw1 Hw2 HN1 HN2 hm1 ⊢
   have hMx : M ≤ 9223372036854775807 := Nat.le_trans hm1 hm2
   clear hm1 hm2
   have HM := Lib.hid hM
   clear hM x0 x1 x2 y0 y1 y2
   obtain ⟨w2, hw2⟩ : ∃ w2, X.val = w2 := ⟨_, rfl⟩
   rw [hw2] at q' ⊢
   clear hw2 X
   go_wp2_with fail
   go_loopw [6] (fun i wx => ∃ m : Nat, m ≤ M ∧ i = .int .i64 m ∧ Below w.heap.size w wx) (fun i _ => M - (intOf i).toNat)
   case atStart => exact ⟨0, Nat.zero_le _, rfl, q'⟩
   case round =>
    clear q'
    obtain ⟨m, hm, rfl, q2⟩ := hrel
    have z1 : wr.cell? ⟨b1, o1 + k * 19 + 1, none⟩ = some (.slice no1 M nc1) := (q2.cell (p := ⟨b1, o1 + k * 19 + 1, none⟩) hb1).trans Hw1
    by_cases hlt2 : m < M
    ·obtain ⟨d1, f1, rfl, hd1, hs1⟩ := Strs.at_ HN1 (k := m) (by rw [(HM : _ = M)]; exact hlt2)
     obtain ⟨d2, f2, rfl, hd2, hs2⟩ := Strs.at_ HN2 (k := m) (by rw [(HM : _ = M)]; exact hlt2)
     generalize A.names[m]'(by rw [(HM : _ = M)]; exact hlt2) = nm at *
     have e1 : ∀ X : Ext wr, X.val.cell? ⟨b1, o1 + k * 19 + 1, none⟩ = some (.slice (some ⟨d1, f1, none⟩) M nc1) := fun X => (ext_cell q2 hb1 X _).trans Hw1
     have e2 : ∀ X : Ext wr, X.val.cell? ⟨b2, k * 19 + 1, none⟩ = some (.slice (some ⟨d2, f2, none⟩) M nc2) := fun X => (ext_cell q2 hb2 X _).trans Hw2
     have e3 : ∀ X : Ext wr, X.val.cell? ⟨d1, f1 + m, none⟩ = some (.string nm) := fun X => hs1 _ (q2.trans (X.below.mono q2.size))
     have e4 : ∀ X : Ext wr, X.val.cell? ⟨d2, f2 + m, none⟩ = some (.string nm) := fun X => hs2 _ (q2.trans (X.below.mono q2.size))
     clear hs1 hs2
     go_wp2_with fail
     refine wp_region_ext (by kernel_rfl) (by kernel_rfl) ?_
     repeat (first | go_big_quiet_skip | (go_big_quiet_want; (go_big_quiet_op; go_big_quiet_on)))
     refine wpQuiet_nil ?_
     intro X
     have q3 := q2.trans (X.below.mono q2.size)
     clear e1 e2 e3 e4
     go_wp2_with fail
     exact ⟨⟨m + 1, by omega, by go_num, q3⟩, by simp [intOf]; omega⟩
    ·go_wp2_with fail
     exact ⟨⟨k + 1, by omega, by go_num, q2⟩, by simp [intOf]; omega⟩
  ·go_wp2_with fail
   go_ret
   exact ⟨rfl, q⟩
end Go.Proofs.R50
end
