/- Plain laws of the count of a bucket. -/
import Derived.Test.YtljpcnhkheoiiaaWalkB
namespace Go.Proofs.Ytljpcnhkheoiiaa

theorem adL_ge {l a m e n q : Int} (h3 : 1 ≤ e) (hq : l < q) (hm : q ≤ m) : q ≤ adL l a m e n ↔ a + (q - l) * e ≤ n := by
  have hpos : 0 < (q - l) * e := Int.mul_pos (by omega) (by omega)
  by_cases hn : n ≤ a
  · rw [adL1 hn]; omega
  · have hd := Int.le_ediv_iff_mul_le (a := q - l) (b := n - a) (c := e) (by omega)
    by_cases hk : m - l ≤ (n - a) / e
    · rw [adL2 (by omega) hk]
      have := hd.1 (by omega)
      omega
    · rw [adL3 (by omega) (by omega)]
      constructor
      · intro h; have := hd.1 (by omega); omega
      · intro h; have := hd.2 (by omega); omega

theorem adL_mono {l a m e t u : Int} (h3 : 1 ≤ e) (h6 : l ≤ m) (h : t ≤ u) : adL l a m e t ≤ adL l a m e u := by
  by_cases hu : u ≤ a
  · rw [adL1 hu, adL1 (by omega)]; omega
  · have hk0 : 0 ≤ (u - a) / e := Int.ediv_nonneg (by omega) (by omega)
    by_cases ht : t ≤ a
    · rw [adL1 ht]
      by_cases hk : m - l ≤ (u - a) / e
      · rw [adL2 (by omega) hk]; omega
      · rw [adL3 (by omega) (by omega)]; omega
    · have hmono : (t - a) / e ≤ (u - a) / e := Int.ediv_le_ediv (by omega) (by omega)
      by_cases hk : m - l ≤ (u - a) / e
      · rw [adL2 (by omega) hk]
        by_cases hk' : m - l ≤ (t - a) / e
        · rw [adL2 (by omega) hk']; omega
        · rw [adL3 (by omega) (by omega)]; omega
      · rw [adL3 (by omega) (by omega), adL3 (by omega) (by omega)]; omega

theorem adA_bd {l a m e n : Int} (h3 : 1 ≤ e) : a ≤ adA l a m e n ∧ adA l a m e n ≤ max a n := by
  by_cases hn : n ≤ a
  · rw [adA1 hn]; omega
  · have hk0 : 0 ≤ (n - a) / e := Int.ediv_nonneg (by omega) (by omega)
    have hk1 : (n - a) / e * e ≤ n - a := Int.ediv_mul_le _ (by omega)
    have hk3 : 0 ≤ (n - a) / e * e := Int.mul_nonneg hk0 (by omega)
    by_cases hk : m - l ≤ (n - a) / e
    · rw [adA2 (by omega) hk]; omega
    · rw [adA3 (by omega) (by omega)]; omega

/-- The count behind a Take at the same time. -/
theorem adL_again {l a m e n q : Int} (h3 : 1 ≤ e) (hq : 1 ≤ q) (ha : a ≤ n) : adL (adL l a m e n - q) (adA l a m e n) m e n = adL l a m e n - q := by
  by_cases hn : n ≤ a
  · rw [adA1 hn]; exact adL1 hn
  · by_cases hk : m - l ≤ (n - a) / e
    · rw [adA2 (by omega) hk]; exact adL1 (by omega)
    · have e1 : adL l a m e n = l + (n - a) / e := adL3 (by omega) (by omega)
      rw [adA3 (by omega) (by omega), e1]
      have hk1 : (n - a) / e * e ≤ n - a := Int.ediv_mul_le _ (by omega)
      have hk2 := Int.lt_ediv_add_one_mul_self (n - a) (b := e) (by omega)
      rw [Int.add_mul] at hk2
      by_cases h0 : n ≤ a + (n - a) / e * e
      · exact adL1 h0
      · have hz : (n - (a + (n - a) / e * e)) / e = 0 := Int.ediv_eq_zero_of_lt (by omega) (by omega)
        rw [adL3 (by omega) (by omega), hz]; omega

/-- The count grows by the whole intervals alone. -/
theorem adL_step {l a m e n : Int} (h3 : 1 ≤ e) (h6 : l ≤ m) : adL l a m e n ≤ l + (adA l a m e n - a) / e := by
  by_cases hn : n ≤ a
  · rw [adL1 hn, adA1 hn]; simp
  · by_cases hk : m - l ≤ (n - a) / e
    · rw [adL2 (by omega) hk, adA2 (by omega) hk]; omega
    · rw [adL3 (by omega) (by omega), adA3 (by omega) (by omega)]
      rw [show a + (n - a) / e * e - a = (n - a) / e * e from by omega, Int.mul_ediv_cancel _ (by omega)]
      omega

theorem div_add_le {x y e : Int} (h3 : 1 ≤ e) : x / e + y / e ≤ (x + y) / e := by
  rw [Int.le_ediv_iff_mul_le (by omega), Int.add_mul]
  have h1 : x / e * e ≤ x := Int.ediv_mul_le _ (by omega)
  have h2 : y / e * e ≤ y := Int.ediv_mul_le _ (by omega)
  omega
theorem div_mono {x y e : Int} (h3 : 1 ≤ e) (h : x ≤ y) : x / e ≤ y / e := Int.ediv_le_ediv (by omega) h
end Go.Proofs.Ytljpcnhkheoiiaa
