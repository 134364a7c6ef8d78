/- R.Line. -/
import Derived.Test.YtojknjmcmadhcaaGreatDoorWb

section
namespace Go.Proofs.R50
open Go.ChangeShapes Go.WideShapes Go.ChangeAt Go.RowKit

/-- The frame of R.Line between two fields: the text so far. -/
def RI (cs : Array Value) (w : World) (t : ByteArray) (a : Act) (w' : World) : Prop :=
 ∃ u4 u5 u6 u7 u8 u9 u10 u11 u12 u13 u14 u15 u16 u17 u18 u19 u20 u21 u22 u23 u24 u25 u26 u27 u28 u29 u30 u31 u32 u33 u34 u35 u36 u37 u38 u39 u40 u41 u42 u43 u44 u45 u46 u47 u48 u49 u50 u51 u52 u53 u54 u55 u56 u57 u58 u59 u60 u61 u62 u63, a = ⟨(.agg cs :: .pointer (some ⟨w.heap.size, 0, none⟩) :: .string ⟨#[]⟩ :: .string t :: u4 :: u5 :: u6 :: u7 :: u8 :: u9 :: u10 :: u11 :: u12 :: u13 :: u14 :: u15 :: u16 :: u17 :: u18 :: u19 :: u20 :: u21 :: u22 :: u23 :: u24 :: u25 :: u26 :: u27 :: u28 :: u29 :: u30 :: u31 :: u32 :: u33 :: u34 :: u35 :: u36 :: u37 :: u38 :: u39 :: u40 :: u41 :: u42 :: u43 :: u44 :: u45 :: u46 :: u47 :: u48 :: u49 :: u50 :: u51 :: u52 :: u53 :: u54 :: u55 :: u56 :: u57 :: u58 :: u59 :: u60 :: u61 :: u62 :: u63 :: []).toArray, []⟩ ∧ Whole w' w.heap.size 37 cs ∧ Below w.heap.size w w'
theorem cat_assoc (a b c : ByteArray) : a ++ b ++ c = a ++ (b ++ c) := by
 apply ByteArray.ext
 simp only [ByteArray.data_append, Array.append_assoc]
theorem lineL_app (wd : ByteArray) (ps : List ByteArray) (m x : ByteArray) : lineL wd (ps ++ [m ++ x]) = lineL wd ps ++ (⟨#[32]⟩ ++ m) ++ x := by
 rw [lineL_snoc, cat_assoc, cat_assoc, cat_assoc]

set_option maxRecDepth 100000 in
set_option maxHeartbeats 4000000 in
theorem rline_ok (wd : ByteArray) (nv : Value) (n : Int) (tx : ByteArray) (cn tg : Int) (th : Bool) (via : ByteArray) (al dn us kd : Value) (i1 i2 i3 i4 i5 i6 i7 : Int) (names : List ByteArray) (w : World) (hS : Strs w nv names) (hn8 : names.length ≤ 8) (hn200 : ∀ z ∈ names, z.size ≤ 200) (hwd : wd.size ≤ 200) (htx : tx.size ≤ 1000)
  (hn : -9223372036854775808 ≤ n ∧ n ≤ 9223372036854775807) (hcn : -9223372036854775808 ≤ cn ∧ cn ≤ 9223372036854775807) :
  Calls Tryz.prog 12 #[.agg (actG wd nv n tx cn tg th via al dn us kd i1 i2 i3 i4 i5 i6 i7)] w fun e w' => e = .returned (.string (lineB wd names n cn tg tx)) ∧ Below w.heap.size w w' := by
 have HS := Lib.hid hS
 obtain ⟨na, nc, rfl, -, -⟩ := hS.form
 have Hn2 := Lib.hid hn200
 have Hn := Lib.hid hn
 have Hcn := Lib.hid hcn
 have hln : (names.map fun _ => (1 : Nat)).length = names.length := List.length_map _
 have HA0 : Hid (∀ k, k ≤ names.length → (lineL wd (names.take k)).size ≤ 5000) := fun k hk => by
  have h := lineL_size 200 wd (names.take k) (fun p hp => hn200 p (List.mem_of_mem_take hp))
  have h2 : (names.take k).length * 201 ≤ 8 * 201 := Nat.mul_le_mul_right _ (by rw [List.length_take]; omega)
  omega
 have HA : Hid (∀ ps : List ByteArray, ps.length ≤ 11 → (∀ p ∈ ps, p.size ≤ 1100) → (lineL wd ps).size ≤ 20000) := fun ps h1 h2 => by
  have h := lineL_size 1100 wd ps h2
  have h3 : ps.length * 1101 ≤ 11 * 1101 := Nat.mul_le_mul_right _ h1
  omega
 have Hps1 : Hid ((lineL wd names).size ≤ 20000) := (HA : ∀ ps, _) names (by omega) fun p hp => by have := hn200 p hp; omega
 have h1 := optN_le (m := [110, 61]) (by decide) hn
 have h2 := optN_le (m := [99, 61]) (by decide) hcn
 have h3 := optH_le (n := tg)
 have Hps2 : Hid ((lineL wd (names ++ optN [110, 61] n)).size ≤ 20000) := (HA : ∀ ps, _) _ (by rw [List.length_append]; omega) fun p hp => by
  rcases List.mem_append.1 hp with hp | hp
  ·have := hn200 p hp; omega
  ·exact h1.2 p hp
 have Hps3 : Hid ((lineL wd (names ++ optN [110, 61] n ++ optN [99, 61] cn)).size ≤ 20000) := (HA : ∀ ps, _) _ (by rw [List.length_append, List.length_append]; omega) fun p hp => by
  rcases List.mem_append.1 hp with hp | hp
  ·rcases List.mem_append.1 hp with hp | hp
   ·have := hn200 p hp; omega
   ·exact h1.2 p hp
  ·exact h2.2 p hp
 have Hps4 : Hid ((lineL wd (names ++ optN [110, 61] n ++ optN [99, 61] cn ++ optH tg)).size ≤ 20000) := (HA : ∀ ps, _) _ (by rw [List.length_append, List.length_append, List.length_append]; omega) fun p hp => by
  rcases List.mem_append.1 hp with hp | hp
  ·rcases List.mem_append.1 hp with hp | hp
   ·rcases List.mem_append.1 hp with hp | hp
    ·have := hn200 p hp; omega
    ·exact h1.2 p hp
   ·exact h2.2 p hp
  ·exact h3.2 p hp
 clear hS hn200 hn hcn hln HA h1 h2 h3
 go_enter Tryz.func12, Tryz.ntmps12
 obtain ⟨cs, hcs⟩ : ∃ cs, actG wd (.slice na names.length nc) n tx cn tg th via al dn us kd i1 i2 i3 i4 i5 i6 i7 = cs := ⟨_, rfl⟩
 rw [hcs]
 have HW0 := Lib.hid (Whole.new w 37 cs)
 have Hcs := Lib.hid hcs
 have k0 : cs[0]? = some (.string wd) := by rw [← hcs]; rfl
 have k1 : cs[1]? = some (.slice na names.length nc) := by rw [← hcs]; rfl
 have k2 : cs[2]? = some (.int .i64 n) := by rw [← hcs]; rfl
 have k3 : cs[3]? = some (.string tx) := by rw [← hcs]; rfl
 have k4 : cs[4]? = some (.int .i64 cn) := by rw [← hcs]; rfl
 have k5 : cs[5]? = some (.int .i64 tg) := by rw [← hcs]; rfl
 have K0 := Lib.hid k0
 have K1 := Lib.hid k1
 have K2 := Lib.hid k2
 have K3 := Lib.hid k3
 have K4 := Lib.hid k4
 have K5 := Lib.hid k5
 clear hcs k0 k1 k2 k3 k4 k5
 refine wp_cut (fun a w' => a = ⟨(.agg cs :: .pointer (some ⟨w.heap.size, 0, none⟩) :: .string ⟨#[]⟩ :: undef :: undef :: undef :: undef :: undef :: undef :: undef :: undef :: undef :: undef :: undef :: undef :: undef :: undef :: undef :: undef :: undef :: undef :: undef :: undef :: undef :: undef :: undef :: undef :: undef :: undef :: undef :: undef :: undef :: undef :: undef :: undef :: undef :: undef :: undef :: undef :: undef :: undef :: undef :: undef :: undef :: undef :: undef :: undef :: undef :: undef :: undef :: undef :: undef :: undef :: undef :: undef :: undef :: undef :: undef :: undef :: undef :: undef :: undef :: undef :: undef :: []).toArray, []⟩ ∧ w' = w.alloc (.cells cs 37)) ?_ ?_
 ·have hbox : (Instr.box 37 (.agg cs)).run Tryz.prog w = .ok (.pointer (some ⟨w.heap.size, 0, none⟩)) (w.alloc (.cells cs 37)) := by
   rw [← (Hcs : _ = cs)]
   kernel_rfl
  go_wp2_with fail
 rintro _ _ ⟨rfl, rfl⟩
 refine wp_cut (RI cs w wd) ?_ ?_
 ·have h0 : (w.alloc (.cells cs 37)).cell? ⟨w.heap.size, 0, none⟩ = some (.string wd) := (Whole.cell HW0 0).trans K0
  have HB0 := Lib.hid ((Below.refl w.heap.size w).alloc (Nat.le_refl _) (.cells cs 37))
  go_wp2_with fail
  exact ⟨_, _, _, _, _, _, _, _, _, _, _, _, _, _, _, _, _, _, _, _, _, _, _, _, _, _, _, _, _, _, _, _, _, _, _, _, _, _, _, _, _, _, _, _, _, _, _, _, _, _, _, _, _, _, _, _, _, _, _, _, rfl, HW0, HB0⟩
 rintro _ wA ⟨u4, u5, u6, u7, u8, u9, u10, u11, u12, u13, u14, u15, u16, u17, u18, u19, u20, u21, u22, u23, u24, u25, u26, u27, u28, u29, u30, u31, u32, u33, u34, u35, u36, u37, u38, u39, u40, u41, u42, u43, u44, u45, u46, u47, u48, u49, u50, u51, u52, u53, u54, u55, u56, u57, u58, u59, u60, u61, u62, u63, rfl, hW, hB⟩
 clear HW0
 refine wp_cut (RI cs w (lineL wd names)) ?_ ?_
 ·have HB := Lib.hid hB
  have HW := Lib.hid hW
  have HnL := Lib.hid (lineL_nil wd)
  clear hB hW
  go_wp2_with fail
  go_loopw [3, 4] (fun t i wr => ∃ k, k ≤ names.length ∧ i = .int .i64 k ∧ t = .string (lineL wd (names.take k)) ∧ Whole wr w.heap.size 37 cs ∧ Below w.heap.size w wr) (fun _ i _ => names.length - (intOf i).toNat)
  case atStart => exact ⟨0, Nat.zero_le _, rfl, by rw [List.take_zero, (HnL : _ = _)], HW, HB⟩
  case round =>
   clear HW HB
   obtain ⟨k, hk, rfl, rfl, hW, hB⟩ := hrel
   have hc1 : wr.cell? ⟨w.heap.size, 1, none⟩ = some (.slice na names.length nc) := (hW.cell 1).trans K1
   have HW := Lib.hid hW
   have HB := Lib.hid hB
   clear hW hB
   by_cases hlt : k < names.length
   ·obtain ⟨b, off, rfl, _, hc⟩ := Strs.at_ HS hlt
    have hc2 := hc wr HB
    obtain ⟨z, hz⟩ : ∃ z, names[k] = z := ⟨_, rfl⟩
    rw [hz] at hc2
    have hzl : z.size ≤ 200 := (Hn2 : ∀ z ∈ _, _) z (hz ▸ List.getElem_mem hlt)
    have htk : lineL wd (names.take (k + 1)) = lineL wd (names.take k) ++ ⟨#[32]⟩ ++ z := by
     rw [List.take_add_one, List.getElem?_eq_getElem hlt, hz]
     exact lineL_snoc _ _ _
    have Htk := Lib.hid htk
    have hlen := (HA0 : ∀ k, _ → _) k hk
    obtain ⟨L, hL⟩ : ∃ L, names.length = L := ⟨_, rfl⟩
    obtain ⟨t, ht⟩ : ∃ t, lineL wd (names.take k) = t := ⟨_, rfl⟩
    rw [ht] at Htk hlen ⊢
    have hs1 : ¬ 9223372036854775807 < t.size + 1 := by omega
    have hs2 : ¬ 9223372036854775807 < t.size + 1 + z.size := by omega
    have hex : (t ++ ⟨#[32]⟩).size = t.size + 1 := by rw [ByteArray.size_append]; rfl
    clear htk hc hz ht hL
    go_wp2_with fail
    exact ⟨⟨k + 1, by omega, by go_num, by rw [(Htk : _ = _)], HW, HB⟩, by simp [intOf]; omega⟩
   ·obtain rfl : k = names.length := by omega
    rw [List.take_length]
    go_wp2_with fail
    exact ⟨_, _, _, _, _, _, _, _, _, _, _, _, _, _, _, _, _, _, _, _, _, _, _, _, _, _, _, _, _, _, _, _, _, _, _, _, _, _, _, _, _, _, _, _, _, _, _, _, _, _, _, _, _, _, _, _, _, _, _, _, rfl, HW, HB⟩
 rintro _ wA ⟨u4, u5, u6, u7, u8, u9, u10, u11, u12, u13, u14, u15, u16, u17, u18, u19, u20, u21, u22, u23, u24, u25, u26, u27, u28, u29, u30, u31, u32, u33, u34, u35, u36, u37, u38, u39, u40, u41, u42, u43, u44, u45, u46, u47, u48, u49, u50, u51, u52, u53, u54, u55, u56, u57, u58, u59, u60, u61, u62, u63, rfl, hW, hB⟩
 refine wp_cut (RI cs w (lineL wd (names ++ optN [110, 61] n))) ?_ ?_
 ·have hcell : wA.cell? ⟨w.heap.size, 2, none⟩ = some (.int .i64 n) := (hW.cell 2).trans K2
  have HW := Lib.hid hW
  have HB := Lib.hid hB
  clear hW hB
  by_cases hz : n = 0
  ·have he : (names ++ optN [110, 61] n) = names := by rw [hz]; show names ++ [] = _; rw [List.append_nil]
   rw [he]
   rw [hz] at hcell
   obtain ⟨t, ht⟩ : ∃ t, lineL wd names = t := ⟨_, rfl⟩
   rw [ht]
   clear he ht
   go_wp2_with fail
   exact ⟨_, _, _, _, _, _, _, _, _, _, _, _, _, _, _, _, _, _, _, _, _, _, _, _, _, _, _, _, _, _, _, _, _, _, _, _, _, _, _, _, _, _, _, _, _, _, _, _, _, _, _, _, _, _, _, _, _, _, _, _, rfl, HW, HB⟩
  ·have he : lineL wd (names ++ optN [110, 61] n) = lineL wd names ++ (⟨#[32]⟩ ++ ⟨#[110, 61]⟩) ++ ⟨(decI n).toArray⟩ := by
    rw [← lineL_app]
    unfold optN
    rw [if_neg hz]
   have hcall := rText_ok n Hn wA
   have hlen := decI_le Hn
   have hl2 : (lineL wd names).size ≤ 20000 := Hps1
   have hbw : w.heap.size ≤ wA.heap.size := Below.size HB
   have Hcall := Lib.hid hcall
   obtain ⟨nt, hnt⟩ : ∃ nt, lineL wd (names ++ optN [110, 61] n) = nt := ⟨_, rfl⟩
   rw [hnt] at he ⊢
   obtain ⟨t, ht⟩ : ∃ t, lineL wd names = t := ⟨_, rfl⟩
   rw [ht] at he hl2 ⊢
   obtain ⟨X, hX⟩ : ∃ X, (decI n) = X := ⟨_, rfl⟩
   rw [hX] at he Hcall hlen
   have He := Lib.hid he
   have hs1 : ¬ 9223372036854775807 < t.size + 3 := by omega
   have hs2 : ¬ 9223372036854775807 < t.size + 3 + X.length := by omega
   have hex : (t ++ ⟨#[32, 110, 61]⟩).size = t.size + 3 := by rw [ByteArray.size_append]; rfl
   clear hcall hlen hnt ht hX he
   go_wp2_with fail
   refine Calls.mono Hcall ?_
   rintro e w5 ⟨rfl, hb5⟩
   have HW5 := Lib.hid (Whole.on HW hb5)
   have HB5 := Lib.hid ((HB : Below w.heap.size w wA).trans (hb5.mono hbw))
   clear hb5
   go_wp2_with fail
   exact ⟨_, _, _, _, _, _, _, _, _, _, _, _, _, _, _, _, _, _, _, _, _, _, _, _, _, _, _, _, _, _, _, _, _, _, _, _, _, _, _, _, _, _, _, _, _, _, _, _, _, _, _, _, _, _, _, _, _, _, _, _, by rw [(He : _ = _)]; rfl, HW5, HB5⟩
 rintro _ wA ⟨u4, u5, u6, u7, u8, u9, u10, u11, u12, u13, u14, u15, u16, u17, u18, u19, u20, u21, u22, u23, u24, u25, u26, u27, u28, u29, u30, u31, u32, u33, u34, u35, u36, u37, u38, u39, u40, u41, u42, u43, u44, u45, u46, u47, u48, u49, u50, u51, u52, u53, u54, u55, u56, u57, u58, u59, u60, u61, u62, u63, rfl, hW, hB⟩
 refine wp_cut (RI cs w (lineL wd ((names ++ optN [110, 61] n) ++ optN [99, 61] cn))) ?_ ?_
 ·have hcell : wA.cell? ⟨w.heap.size, 4, none⟩ = some (.int .i64 cn) := (hW.cell 4).trans K4
  have HW := Lib.hid hW
  have HB := Lib.hid hB
  clear hW hB
  by_cases hz : cn = 0
  ·have he : ((names ++ optN [110, 61] n) ++ optN [99, 61] cn) = (names ++ optN [110, 61] n) := by rw [hz]; show (names ++ optN [110, 61] n) ++ [] = _; rw [List.append_nil]
   rw [he]
   rw [hz] at hcell
   obtain ⟨t, ht⟩ : ∃ t, lineL wd (names ++ optN [110, 61] n) = t := ⟨_, rfl⟩
   rw [ht]
   clear he ht
   go_wp2_with fail
   exact ⟨_, _, _, _, _, _, _, _, _, _, _, _, _, _, _, _, _, _, _, _, _, _, _, _, _, _, _, _, _, _, _, _, _, _, _, _, _, _, _, _, _, _, _, _, _, _, _, _, _, _, _, _, _, _, _, _, _, _, _, _, rfl, HW, HB⟩
  ·have he : lineL wd ((names ++ optN [110, 61] n) ++ optN [99, 61] cn) = lineL wd (names ++ optN [110, 61] n) ++ (⟨#[32]⟩ ++ ⟨#[99, 61]⟩) ++ ⟨(decI cn).toArray⟩ := by
    rw [← lineL_app]
    unfold optN
    rw [if_neg hz]
   have hcall := rText_ok cn Hcn wA
   have hlen := decI_le Hcn
   have hl2 : (lineL wd (names ++ optN [110, 61] n)).size ≤ 20000 := Hps2
   have hbw : w.heap.size ≤ wA.heap.size := Below.size HB
   have Hcall := Lib.hid hcall
   obtain ⟨nt, hnt⟩ : ∃ nt, lineL wd ((names ++ optN [110, 61] n) ++ optN [99, 61] cn) = nt := ⟨_, rfl⟩
   rw [hnt] at he ⊢
   obtain ⟨t, ht⟩ : ∃ t, lineL wd (names ++ optN [110, 61] n) = t := ⟨_, rfl⟩
   rw [ht] at he hl2 ⊢
   obtain ⟨X, hX⟩ : ∃ X, (decI cn) = X := ⟨_, rfl⟩
   rw [hX] at he Hcall hlen
   have He := Lib.hid he
   have hs1 : ¬ 9223372036854775807 < t.size + 3 := by omega
   have hs2 : ¬ 9223372036854775807 < t.size + 3 + X.length := by omega
   have hex : (t ++ ⟨#[32, 99, 61]⟩).size = t.size + 3 := by rw [ByteArray.size_append]; rfl
   clear hcall hlen hnt ht hX he
   go_wp2_with fail
   refine Calls.mono Hcall ?_
   rintro e w5 ⟨rfl, hb5⟩
   have HW5 := Lib.hid (Whole.on HW hb5)
   have HB5 := Lib.hid ((HB : Below w.heap.size w wA).trans (hb5.mono hbw))
   clear hb5
   go_wp2_with fail
   exact ⟨_, _, _, _, _, _, _, _, _, _, _, _, _, _, _, _, _, _, _, _, _, _, _, _, _, _, _, _, _, _, _, _, _, _, _, _, _, _, _, _, _, _, _, _, _, _, _, _, _, _, _, _, _, _, _, _, _, _, _, _, by rw [(He : _ = _)]; rfl, HW5, HB5⟩
 rintro _ wA ⟨u4, u5, u6, u7, u8, u9, u10, u11, u12, u13, u14, u15, u16, u17, u18, u19, u20, u21, u22, u23, u24, u25, u26, u27, u28, u29, u30, u31, u32, u33, u34, u35, u36, u37, u38, u39, u40, u41, u42, u43, u44, u45, u46, u47, u48, u49, u50, u51, u52, u53, u54, u55, u56, u57, u58, u59, u60, u61, u62, u63, rfl, hW, hB⟩
 refine wp_cut (RI cs w (lineL wd (((names ++ optN [110, 61] n) ++ optN [99, 61] cn) ++ optH tg))) ?_ ?_
 ·have hcell : wA.cell? ⟨w.heap.size, 5, none⟩ = some (.int .i64 tg) := (hW.cell 5).trans K5
  have HW := Lib.hid hW
  have HB := Lib.hid hB
  clear hW hB
  by_cases hz : tg = 0
  ·have he : (((names ++ optN [110, 61] n) ++ optN [99, 61] cn) ++ optH tg) = ((names ++ optN [110, 61] n) ++ optN [99, 61] cn) := by rw [hz]; show ((names ++ optN [110, 61] n) ++ optN [99, 61] cn) ++ [] = _; rw [List.append_nil]
   rw [he]
   rw [hz] at hcell
   obtain ⟨t, ht⟩ : ∃ t, lineL wd ((names ++ optN [110, 61] n) ++ optN [99, 61] cn) = t := ⟨_, rfl⟩
   rw [ht]
   clear he ht
   go_wp2_with fail
   exact ⟨_, _, _, _, _, _, _, _, _, _, _, _, _, _, _, _, _, _, _, _, _, _, _, _, _, _, _, _, _, _, _, _, _, _, _, _, _, _, _, _, _, _, _, _, _, _, _, _, _, _, _, _, _, _, _, _, _, _, _, _, rfl, HW, HB⟩
  ·have he : lineL wd (((names ++ optN [110, 61] n) ++ optN [99, 61] cn) ++ optH tg) = lineL wd ((names ++ optN [110, 61] n) ++ optN [99, 61] cn) ++ (⟨#[32]⟩ ++ ⟨#[116, 111, 61]⟩) ++ ⟨(hexL (m62 tg)).toArray⟩ := by
    rw [← lineL_app]
    unfold optH
    rw [if_neg hz]
   have hcall := rhex_ok tg wA
   have hlen := hexL_len (m62 tg)
   have hl2 : (lineL wd ((names ++ optN [110, 61] n) ++ optN [99, 61] cn)).size ≤ 20000 := Hps3
   have hbw : w.heap.size ≤ wA.heap.size := Below.size HB
   have Hcall := Lib.hid hcall
   obtain ⟨nt, hnt⟩ : ∃ nt, lineL wd (((names ++ optN [110, 61] n) ++ optN [99, 61] cn) ++ optH tg) = nt := ⟨_, rfl⟩
   rw [hnt] at he ⊢
   obtain ⟨t, ht⟩ : ∃ t, lineL wd ((names ++ optN [110, 61] n) ++ optN [99, 61] cn) = t := ⟨_, rfl⟩
   rw [ht] at he hl2 ⊢
   obtain ⟨X, hX⟩ : ∃ X, (hexL (m62 tg)) = X := ⟨_, rfl⟩
   rw [hX] at he Hcall hlen
   have He := Lib.hid he
   have hs1 : ¬ 9223372036854775807 < t.size + 4 := by omega
   have hs2 : ¬ 9223372036854775807 < t.size + 4 + X.length := by omega
   have hex : (t ++ ⟨#[32, 116, 111, 61]⟩).size = t.size + 4 := by rw [ByteArray.size_append]; rfl
   clear hcall hlen hnt ht hX he
   go_wp2_with fail
   refine Calls.mono Hcall ?_
   rintro e w5 ⟨rfl, hb5⟩
   have HW5 := Lib.hid (Whole.on HW hb5)
   have HB5 := Lib.hid ((HB : Below w.heap.size w wA).trans (hb5.mono hbw))
   clear hb5
   go_wp2_with fail
   exact ⟨_, _, _, _, _, _, _, _, _, _, _, _, _, _, _, _, _, _, _, _, _, _, _, _, _, _, _, _, _, _, _, _, _, _, _, _, _, _, _, _, _, _, _, _, _, _, _, _, _, _, _, _, _, _, _, _, _, _, _, _, by rw [(He : _ = _)]; rfl, HW5, HB5⟩
 rintro _ wA ⟨u4, u5, u6, u7, u8, u9, u10, u11, u12, u13, u14, u15, u16, u17, u18, u19, u20, u21, u22, u23, u24, u25, u26, u27, u28, u29, u30, u31, u32, u33, u34, u35, u36, u37, u38, u39, u40, u41, u42, u43, u44, u45, u46, u47, u48, u49, u50, u51, u52, u53, u54, u55, u56, u57, u58, u59, u60, u61, u62, u63, rfl, hW, hB⟩
 refine wp_cut (RI cs w (lineB wd names n cn tg tx)) ?_ ?_
 ·have hcell : wA.cell? ⟨w.heap.size, 3, none⟩ = some (.string tx) := (hW.cell 3).trans K3
  have HW := Lib.hid hW
  have HB := Lib.hid hB
  clear hW hB
  have he0 : lineB wd names n cn tg tx = lineL wd ((((names ++ optN [110, 61] n) ++ optN [99, 61] cn) ++ optH tg) ++ optT tx) := rfl
  by_cases hz : tx = ⟨#[]⟩
  ·have he : lineB wd names n cn tg tx = lineL wd (((names ++ optN [110, 61] n) ++ optN [99, 61] cn) ++ optH tg) := by rw [he0, hz]; show lineL wd ((((names ++ optN [110, 61] n) ++ optN [99, 61] cn) ++ optH tg) ++ []) = _; rw [List.append_nil]
   rw [he]
   rw [hz] at hcell
   obtain ⟨t, ht⟩ : ∃ t, lineL wd (((names ++ optN [110, 61] n) ++ optN [99, 61] cn) ++ optH tg) = t := ⟨_, rfl⟩
   rw [ht]
   clear he ht he0
   go_wp2_with fail
   exact ⟨_, _, _, _, _, _, _, _, _, _, _, _, _, _, _, _, _, _, _, _, _, _, _, _, _, _, _, _, _, _, _, _, _, _, _, _, _, _, _, _, _, _, _, _, _, _, _, _, _, _, _, _, _, _, _, _, _, _, _, _, rfl, HW, HB⟩
  ·have he : lineB wd names n cn tg tx = lineL wd (((names ++ optN [110, 61] n) ++ optN [99, 61] cn) ++ optH tg) ++ (⟨#[32]⟩ ++ ⟨#[116, 101, 120, 116, 61]⟩) ++ tx := by
    rw [he0, ← lineL_app]
    unfold optT
    rw [if_neg hz]
   have hne0 := isEmpty_no hz
   have hl2 : (lineL wd (((names ++ optN [110, 61] n) ++ optN [99, 61] cn) ++ optH tg)).size ≤ 20000 := Hps4
   obtain ⟨nt, hnt⟩ : ∃ nt, lineB wd names n cn tg tx = nt := ⟨_, rfl⟩
   rw [hnt] at he ⊢
   obtain ⟨t, ht⟩ : ∃ t, lineL wd (((names ++ optN [110, 61] n) ++ optN [99, 61] cn) ++ optH tg) = t := ⟨_, rfl⟩
   rw [ht] at he hl2 ⊢
   have He := Lib.hid he
   have hs1 : ¬ 9223372036854775807 < t.size + 6 := by omega
   have hs2 : ¬ 9223372036854775807 < t.size + 6 + tx.size := by omega
   have hex : (t ++ ⟨#[32, 116, 101, 120, 116, 61]⟩).size = t.size + 6 := by rw [ByteArray.size_append]; rfl
   clear hnt ht he he0
   go_wp2_with fail
   exact ⟨_, _, _, _, _, _, _, _, _, _, _, _, _, _, _, _, _, _, _, _, _, _, _, _, _, _, _, _, _, _, _, _, _, _, _, _, _, _, _, _, _, _, _, _, _, _, _, _, _, _, _, _, _, _, _, _, _, _, _, _, by rw [(He : _ = _)]; rfl, HW, HB⟩
 rintro _ wA ⟨u4, u5, u6, u7, u8, u9, u10, u11, u12, u13, u14, u15, u16, u17, u18, u19, u20, u21, u22, u23, u24, u25, u26, u27, u28, u29, u30, u31, u32, u33, u34, u35, u36, u37, u38, u39, u40, u41, u42, u43, u44, u45, u46, u47, u48, u49, u50, u51, u52, u53, u54, u55, u56, u57, u58, u59, u60, u61, u62, u63, rfl, hW, hB⟩
 have HB := Lib.hid hB
 obtain ⟨t, ht⟩ : ∃ t, lineB wd names n cn tg tx = t := ⟨_, rfl⟩
 rw [ht]
 clear hW hB ht
 go_wp2_with fail
 go_ret
 exact ⟨rfl, HB⟩
end Go.Proofs.R50
end
