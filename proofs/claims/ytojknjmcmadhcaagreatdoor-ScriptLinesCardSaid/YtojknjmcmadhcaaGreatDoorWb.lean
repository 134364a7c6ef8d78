/- script.Line. -/
import Derived.Test.YtojknjmcmadhcaaGreatDoorWa

section
namespace Go.Proofs.R50
open Go.ChangeShapes Go.WideShapes Go.ChangeAt Go.RowKit

/-- The cells of an act. -/
def actG (wd : ByteArray) (nv : Value) (n : Int) (tx : ByteArray) (cn tg : Int) (th : Bool) (via : ByteArray) (al dn us kd : Value) (i1 i2 i3 i4 i5 i6 i7 : Int) : Array Value := #[.string wd, nv, .int .i64 n, .string tx, .int .i64 cn, .int .i64 tg, .bool th, .string via, al, dn, us, kd, .int .i64 i1, .int .i64 i2, .int .i64 i3, .int .i64 i4, .int .i64 i5, .int .i64 i6, .int .i64 i7]
/-- The frame of script.Line between two fields: the parts so far. -/
def LI (cs : Array Value) (w : World) (ps : List ByteArray) (a : Act) (w' : World) : Prop :=
 ∃ g cap u4 u5 u6 u7 u8 u9 u10 u11 u12 u13 u14 u15 u16 u17 u18 u19 u20 u21 u22 u23 u24 u25 u26 u27 u28 u29 u30 u31 u32 u33 u34 u35 u36 u37 u38 u39 u40 u41 u42 u43 u44 u45 u46 u47 u48 u49 u50 u51 u52 u53 u54 u55 u56, a = ⟨#[.agg cs, .pointer (some ⟨w.heap.size, 0, none⟩), .string ⟨#[]⟩, .slice (some ⟨g, 0, none⟩) ps.length cap, u4, u5, u6, u7, u8, u9, u10, u11, u12, u13, u14, u15, u16, u17, u18, u19, u20, u21, u22, u23, u24, u25, u26, u27, u28, u29, u30, u31, u32, u33, u34, u35, u36, u37, u38, u39, u40, u41, u42, u43, u44, u45, u46, u47, u48, u49, u50, u51, u52, u53, u54, u55, u56], []⟩ ∧ Whole w' w.heap.size 37 cs ∧ Below w.heap.size w w' ∧ w'.ownsRow w.heap.size 9 1 (.slice (some ⟨g, 0, none⟩) ps.length cap) ps.length (ps.map Value.string)

set_option maxRecDepth 100000 in
set_option maxHeartbeats 4000000 in
theorem line_ok (wd : ByteArray) (nv : Value) (n : Int) (tx : ByteArray) (cn tg : Int) (th : Bool) (via : ByteArray) (al dn us kd : Value) (i1 i2 i3 i4 i5 i6 i7 : Int) (names : List ByteArray) (w : World) (hS : Strs w nv names) (hn8 : names.length ≤ 8) (hn200 : ∀ z ∈ names, z.size ≤ 200) (hwd : wd.size ≤ 200) (htx : tx.size ≤ 1000)
  (hn : -9223372036854775808 ≤ n ∧ n ≤ 9223372036854775807) (hcn : -9223372036854775808 ≤ cn ∧ cn ≤ 9223372036854775807) :
  Calls Tryz.prog 11 #[.agg (actG wd nv n tx cn tg th via al dn us kd i1 i2 i3 i4 i5 i6 i7)] w fun e w' => e = .returned (.string (lineB wd names n cn tg tx)) ∧ Below w.heap.size w w' := by
 have HS := Lib.hid hS
 obtain ⟨na, nc, rfl, -, -⟩ := hS.form
 have Hn2 := Lib.hid hn200
 have Hsz : Hid ((lineB wd names n cn tg tx).size ≤ 1000000) := by
  have h1 := optN_le (m := [110, 61]) (by decide) hn
  have h2 := optN_le (m := [99, 61]) (by decide) hcn
  have h3 := optH_le (n := tg)
  have h4 := optT_le htx
  have h5 := lineL_size 1100 wd (restB names n cn tg tx) (fun p hp => by
   unfold restB at hp
   simp only [List.mem_append] at hp
   rcases hp with (((hp | hp) | hp) | hp) | hp
   ·have := hn200 p hp; omega
   ·exact h1.2 p hp
   ·exact h2.2 p hp
   ·exact h3.2 p hp
   ·exact h4.2 p hp)
  have h6 : (restB names n cn tg tx).length ≤ 12 := by
   unfold restB
   simp only [List.length_append]
   omega
  have h7 : (restB names n cn tg tx).length * 1101 ≤ 12 * 1101 := Nat.mul_le_mul_right _ h6
  show (lineL wd (restB names n cn tg tx)).size ≤ _
  omega
 clear hS hn200
 have Hn := Lib.hid hn
 have Hcn := Lib.hid hcn
 clear hn hcn
 go_enter Tryz.func11, Tryz.ntmps11
 obtain ⟨cs, hcs⟩ : ∃ cs, actG wd (.slice na names.length nc) n tx cn tg th via al dn us kd i1 i2 i3 i4 i5 i6 i7 = cs := ⟨_, rfl⟩
 rw [hcs]
 have HW0 := Lib.hid (Whole.new w 37 cs)
 have Hcs := Lib.hid hcs
 have k0 : cs[0]? = some (.string wd) := by rw [← hcs]; rfl
 have k1 : cs[1]? = some (.slice na names.length nc) := by rw [← hcs]; rfl
 have k2 : cs[2]? = some (.int .i64 n) := by rw [← hcs]; rfl
 have k3 : cs[3]? = some (.string tx) := by rw [← hcs]; rfl
 have k4 : cs[4]? = some (.int .i64 cn) := by rw [← hcs]; rfl
 have k5 : cs[5]? = some (.int .i64 tg) := by rw [← hcs]; rfl
 have K0 := Lib.hid k0
 have K1 := Lib.hid k1
 have K2 := Lib.hid k2
 have K3 := Lib.hid k3
 have K4 := Lib.hid k4
 have K5 := Lib.hid k5
 clear hcs k0 k1 k2 k3 k4 k5
 refine wp_cut (fun a w' => a = ⟨#[.agg cs, .pointer (some ⟨w.heap.size, 0, none⟩), .string ⟨#[]⟩, undef, undef, undef, undef, undef, undef, undef, undef, undef, undef, undef, undef, undef, undef, undef, undef, undef, undef, undef, undef, undef, undef, undef, undef, undef, undef, undef, undef, undef, undef, undef, undef, undef, undef, undef, undef, undef, undef, undef, undef, undef, undef, undef, undef, undef, undef, undef, undef, undef, undef, undef, undef, undef, undef], []⟩ ∧ w' = w.alloc (.cells cs 37)) ?_ ?_
 ·have hbox : (Instr.box 37 (.agg cs)).run Tryz.prog w = .ok (.pointer (some ⟨w.heap.size, 0, none⟩)) (w.alloc (.cells cs 37)) := by
   rw [← (Hcs : _ = cs)]
   kernel_rfl
  go_wp2_with fail
 rintro _ _ ⟨rfl, rfl⟩
 refine wp_cut (LI cs w (wd :: names)) ?_ ?_
 ·have hba := (Below.refl (w.alloc (.cells cs 37)).heap.size (w.alloc (.cells cs 37))).alloc (Nat.le_refl _) (.cells #[.string wd] 9)
  have h0 : (w.alloc (.cells cs 37)).cell? ⟨w.heap.size, 0, none⟩ = some (.string wd) := (Whole.cell HW0 0).trans K0
  have hW2 := Whole.on HW0 hba
  have h1 : ((w.alloc (.cells cs 37)).alloc (.cells #[.string wd] 9)).cell? ⟨w.heap.size, 1, none⟩ = some (.slice na names.length nc) := (hW2.cell 1).trans K1
  have hnw := Whole.new (w.alloc (.cells cs 37)) 9 #[.string wd]
  rw [World.size_alloc] at hnw
  have hown : ((w.alloc (.cells cs 37)).alloc (.cells #[.string wd] 9)).ownsRow w.heap.size 9 1 (.slice (some ⟨w.heap.size + 1, 0, none⟩) ([wd] : List ByteArray).length 1) ([wd] : List ByteArray).length (([wd] : List ByteArray).map Value.string) :=
   ⟨rfl, .inr ⟨w.heap.size + 1, 1, #[.string wd], rfl, by omega, hnw, Nat.le_refl _, by unfold maxLen; omega, rfl, rfl⟩⟩
  have hb1 : Below w.heap.size w ((w.alloc (.cells cs 37)).alloc (.cells #[.string wd] 9)) := ((Below.refl w.heap.size w).alloc (Nat.le_refl _) _).alloc (by rw [World.size_alloc]; omega) _
  have Hown := Lib.hid hown
  have HW2 := Lib.hid hW2
  have Hb1 := Lib.hid hb1
  have HS2 := Lib.hid (Strs.on HS (((Below.refl w.heap.size w).alloc (Nat.le_refl _) (.cells cs 37)).alloc (by rw [World.size_alloc]; omega) (.cells #[.string wd] 9)))
  have Huu : Hid (wd :: names = [wd] ++ names) := rfl
  have Hne : Hid (wd :: names ≠ []) := by show _ ≠ _; simp
  have hlm : (wd :: names).length ≤ 1000000 := by rw [List.length_cons]; omega
  have hbs : w.heap.size ≤ ((w.alloc (.cells cs 37)).alloc (.cells #[.string wd] 9)).heap.size := hb1.size
  obtain ⟨PS, hPS⟩ : ∃ PS, wd :: names = PS := ⟨_, rfl⟩
  rw [hPS] at Huu Hne hlm ⊢
  clear hba hnw hown hb1 hW2
  go_wp2_with (at_builtin; go_loud (refine list_appendS rfl _ _ rfl w.heap.size _ [wd] names PS rfl Hown _ rfl HS2 Huu Hne hlm hbs ?_))
  intro g cap w3 hown3 hg3
  have hne := own_ne Hown HW2 (by decide)
  have HW3 := Lib.hid (Whole.off HW2 hg3 hne)
  have HB3 := Lib.hid (below_append Hb1 hbs Hown hg3)
  have HO3 := Lib.hid hown3
  clear hown3 hg3 hne
  go_wp2_with fail
  exact ⟨g, cap, _, _, _, _, _, _, _, _, _, _, _, _, _, _, _, _, _, _, _, _, _, _, _, _, _, _, _, _, _, _, _, _, _, _, _, _, _, _, _, _, _, _, _, _, _, _, _, _, _, _, _, _, _, rfl, HW3, HB3, HO3⟩
 rintro _ w_ ⟨g, cap, u4, u5, u6, u7, u8, u9, u10, u11, u12, u13, u14, u15, u16, u17, u18, u19, u20, u21, u22, u23, u24, u25, u26, u27, u28, u29, u30, u31, u32, u33, u34, u35, u36, u37, u38, u39, u40, u41, u42, u43, u44, u45, u46, u47, u48, u49, u50, u51, u52, u53, u54, u55, u56, rfl, hW, hB, hO⟩
 refine wp_cut (LI cs w ((wd :: names) ++ optN [110, 61] n)) ?_ ?_
 ·have hcell : w_.cell? ⟨w.heap.size, 2, none⟩ = some (.int .i64 n) := (hW.cell 2).trans K2
  have HW := Lib.hid hW
  have HB := Lib.hid hB
  have HO := Lib.hid hO
  clear hW hB hO
  by_cases hz : n = 0
  ·have he : ((wd :: names) ++ optN [110, 61] n) = (wd :: names) := by rw [hz]; show (wd :: names) ++ [] = _; rw [List.append_nil]
   rw [he]
   have hzi : (n : Int) = 0 := hz
   rw [hz] at hcell
   obtain ⟨PS, hPS⟩ : ∃ PS, (wd :: names) = PS := ⟨_, rfl⟩
   rw [hPS] at HO ⊢
   clear he hPS
   go_wp2_with fail
   exact ⟨g, cap, _, _, _, _, _, _, _, _, _, _, _, _, _, _, _, _, _, _, _, _, _, _, _, _, _, _, _, _, _, _, _, _, _, _, _, _, _, _, _, _, _, _, _, _, _, _, _, _, _, _, _, _, _, rfl, HW, HB, HO⟩
  ·have he : ((wd :: names) ++ optN [110, 61] n) = (wd :: names) ++ [⟨#[110, 61]⟩ ++ ⟨(decI n).toArray⟩] := by unfold optN; rw [if_neg hz]
   have hcall := text_ok n Hn w_
   have hlen := decI_le Hn
   have hsz : ¬ 9223372036854775807 < 2 + (decI n).length := by omega
   have hbw : w.heap.size ≤ w_.heap.size := Below.size HB
   have hlm : (wd :: names).length ≤ 1000000 := by
    have h1 := (optN_le (m := [110, 61]) (by decide) Hn).1
    have h2 := (optN_le (m := [99, 61]) (by decide) Hcn).1
    simp only [List.length_cons]
    omega
   have Hcall := Lib.hid hcall
   obtain ⟨NP, hNP⟩ : ∃ NP, ((wd :: names) ++ optN [110, 61] n) = NP := ⟨_, rfl⟩
   rw [hNP] at he ⊢
   obtain ⟨PS, hPS⟩ : ∃ PS, (wd :: names) = PS := ⟨_, rfl⟩
   rw [hPS] at he HO hlm ⊢
   obtain ⟨X, hX⟩ : ∃ X, (decI n) = X := ⟨_, rfl⟩
   rw [hX] at he Hcall hsz
   have He := Lib.hid he
   clear hcall hlen hNP hPS hX he
   go_wp2_with fail
   refine Calls.mono Hcall ?_
   rintro e w5 ⟨rfl, hb5⟩
   have hO5 := own_on HO hb5
   have hW5 := Whole.on HW hb5
   have hB5 := (HB : Below w.heap.size w w_).trans (hb5.mono hbw)
   have hs5 : w.heap.size ≤ w5.heap.size := hB5.size
   have hba := (Below.refl w5.heap.size w5).alloc (Nat.le_refl _) (.cells #[.string (⟨#[110, 61]⟩ ++ ⟨X.toArray⟩)] 9)
   have HO5 := Lib.hid (own_on hO5 hba)
   have HW5 := Lib.hid (Whole.on hW5 hba)
   have HB5 := Lib.hid (hB5.trans (hba.mono hs5))
   have HN5 := Lib.hid (Whole.new w5 9 #[.string (⟨#[110, 61]⟩ ++ ⟨X.toArray⟩)])
   have hs6 : w.heap.size ≤ (w5.alloc (.cells #[.string (⟨#[110, 61]⟩ ++ ⟨X.toArray⟩)] 9)).heap.size := Below.size HB5
   clear hb5 hO5 hW5 hB5 hba HO HW HB
   go_wp2_with (at_builtin; go_loud (refine list_pushS rfl _ _ rfl w.heap.size _ PS NP rfl HO5 w5.heap.size 1 (⟨#[110, 61]⟩ ++ ⟨X.toArray⟩) rfl HN5 He hlm hs6 ?_))
   intro g7 cap7 w7 hown7 hg7
   have hne := own_ne HO5 HW5 (by decide)
   have HW7 := Lib.hid (Whole.off HW5 hg7 hne)
   have HB7 := Lib.hid (below_append HB5 hs6 HO5 hg7)
   have HO7 := Lib.hid hown7
   clear hown7 hg7 hne
   go_wp2_with fail
   exact ⟨g7, cap7, _, _, _, _, _, _, _, _, _, _, _, _, _, _, _, _, _, _, _, _, _, _, _, _, _, _, _, _, _, _, _, _, _, _, _, _, _, _, _, _, _, _, _, _, _, _, _, _, _, _, _, _, _, rfl, HW7, HB7, HO7⟩
 rintro _ w_ ⟨g, cap, u4, u5, u6, u7, u8, u9, u10, u11, u12, u13, u14, u15, u16, u17, u18, u19, u20, u21, u22, u23, u24, u25, u26, u27, u28, u29, u30, u31, u32, u33, u34, u35, u36, u37, u38, u39, u40, u41, u42, u43, u44, u45, u46, u47, u48, u49, u50, u51, u52, u53, u54, u55, u56, rfl, hW, hB, hO⟩
 refine wp_cut (LI cs w (((wd :: names) ++ optN [110, 61] n) ++ optN [99, 61] cn)) ?_ ?_
 ·have hcell : w_.cell? ⟨w.heap.size, 4, none⟩ = some (.int .i64 cn) := (hW.cell 4).trans K4
  have HW := Lib.hid hW
  have HB := Lib.hid hB
  have HO := Lib.hid hO
  clear hW hB hO
  by_cases hz : cn = 0
  ·have he : (((wd :: names) ++ optN [110, 61] n) ++ optN [99, 61] cn) = ((wd :: names) ++ optN [110, 61] n) := by rw [hz]; show ((wd :: names) ++ optN [110, 61] n) ++ [] = _; rw [List.append_nil]
   rw [he]
   have hzi : (cn : Int) = 0 := hz
   rw [hz] at hcell
   obtain ⟨PS, hPS⟩ : ∃ PS, ((wd :: names) ++ optN [110, 61] n) = PS := ⟨_, rfl⟩
   rw [hPS] at HO ⊢
   clear he hPS
   go_wp2_with fail
   exact ⟨g, cap, _, _, _, _, _, _, _, _, _, _, _, _, _, _, _, _, _, _, _, _, _, _, _, _, _, _, _, _, _, _, _, _, _, _, _, _, _, _, _, _, _, _, _, _, _, _, _, _, _, _, _, _, _, rfl, HW, HB, HO⟩
  ·have he : (((wd :: names) ++ optN [110, 61] n) ++ optN [99, 61] cn) = ((wd :: names) ++ optN [110, 61] n) ++ [⟨#[99, 61]⟩ ++ ⟨(decI cn).toArray⟩] := by unfold optN; rw [if_neg hz]
   have hcall := text_ok cn Hcn w_
   have hlen := decI_le Hcn
   have hsz : ¬ 9223372036854775807 < 2 + (decI cn).length := by omega
   have hbw : w.heap.size ≤ w_.heap.size := Below.size HB
   have hlm : ((wd :: names) ++ optN [110, 61] n).length ≤ 1000000 := by
    have h1 := (optN_le (m := [110, 61]) (by decide) Hn).1
    have h2 := (optN_le (m := [99, 61]) (by decide) Hcn).1
    simp only [List.length_append, List.length_cons]
    omega
   have Hcall := Lib.hid hcall
   obtain ⟨NP, hNP⟩ : ∃ NP, (((wd :: names) ++ optN [110, 61] n) ++ optN [99, 61] cn) = NP := ⟨_, rfl⟩
   rw [hNP] at he ⊢
   obtain ⟨PS, hPS⟩ : ∃ PS, ((wd :: names) ++ optN [110, 61] n) = PS := ⟨_, rfl⟩
   rw [hPS] at he HO hlm ⊢
   obtain ⟨X, hX⟩ : ∃ X, (decI cn) = X := ⟨_, rfl⟩
   rw [hX] at he Hcall hsz
   have He := Lib.hid he
   clear hcall hlen hNP hPS hX he
   go_wp2_with fail
   refine Calls.mono Hcall ?_
   rintro e w5 ⟨rfl, hb5⟩
   have hO5 := own_on HO hb5
   have hW5 := Whole.on HW hb5
   have hB5 := (HB : Below w.heap.size w w_).trans (hb5.mono hbw)
   have hs5 : w.heap.size ≤ w5.heap.size := hB5.size
   have hba := (Below.refl w5.heap.size w5).alloc (Nat.le_refl _) (.cells #[.string (⟨#[99, 61]⟩ ++ ⟨X.toArray⟩)] 9)
   have HO5 := Lib.hid (own_on hO5 hba)
   have HW5 := Lib.hid (Whole.on hW5 hba)
   have HB5 := Lib.hid (hB5.trans (hba.mono hs5))
   have HN5 := Lib.hid (Whole.new w5 9 #[.string (⟨#[99, 61]⟩ ++ ⟨X.toArray⟩)])
   have hs6 : w.heap.size ≤ (w5.alloc (.cells #[.string (⟨#[99, 61]⟩ ++ ⟨X.toArray⟩)] 9)).heap.size := Below.size HB5
   clear hb5 hO5 hW5 hB5 hba HO HW HB
   go_wp2_with (at_builtin; go_loud (refine list_pushS rfl _ _ rfl w.heap.size _ PS NP rfl HO5 w5.heap.size 1 (⟨#[99, 61]⟩ ++ ⟨X.toArray⟩) rfl HN5 He hlm hs6 ?_))
   intro g7 cap7 w7 hown7 hg7
   have hne := own_ne HO5 HW5 (by decide)
   have HW7 := Lib.hid (Whole.off HW5 hg7 hne)
   have HB7 := Lib.hid (below_append HB5 hs6 HO5 hg7)
   have HO7 := Lib.hid hown7
   clear hown7 hg7 hne
   go_wp2_with fail
   exact ⟨g7, cap7, _, _, _, _, _, _, _, _, _, _, _, _, _, _, _, _, _, _, _, _, _, _, _, _, _, _, _, _, _, _, _, _, _, _, _, _, _, _, _, _, _, _, _, _, _, _, _, _, _, _, _, _, _, rfl, HW7, HB7, HO7⟩
 rintro _ w_ ⟨g, cap, u4, u5, u6, u7, u8, u9, u10, u11, u12, u13, u14, u15, u16, u17, u18, u19, u20, u21, u22, u23, u24, u25, u26, u27, u28, u29, u30, u31, u32, u33, u34, u35, u36, u37, u38, u39, u40, u41, u42, u43, u44, u45, u46, u47, u48, u49, u50, u51, u52, u53, u54, u55, u56, rfl, hW, hB, hO⟩
 refine wp_cut (LI cs w ((((wd :: names) ++ optN [110, 61] n) ++ optN [99, 61] cn) ++ optH tg)) ?_ ?_
 ·have hcell : w_.cell? ⟨w.heap.size, 5, none⟩ = some (.int .i64 tg) := (hW.cell 5).trans K5
  have HW := Lib.hid hW
  have HB := Lib.hid hB
  have HO := Lib.hid hO
  clear hW hB hO
  by_cases hz : tg = 0
  ·have he : ((((wd :: names) ++ optN [110, 61] n) ++ optN [99, 61] cn) ++ optH tg) = (((wd :: names) ++ optN [110, 61] n) ++ optN [99, 61] cn) := by rw [hz]; show (((wd :: names) ++ optN [110, 61] n) ++ optN [99, 61] cn) ++ [] = _; rw [List.append_nil]
   rw [he]
   have hzi : (tg : Int) = 0 := hz
   rw [hz] at hcell
   obtain ⟨PS, hPS⟩ : ∃ PS, (((wd :: names) ++ optN [110, 61] n) ++ optN [99, 61] cn) = PS := ⟨_, rfl⟩
   rw [hPS] at HO ⊢
   clear he hPS
   go_wp2_with fail
   exact ⟨g, cap, _, _, _, _, _, _, _, _, _, _, _, _, _, _, _, _, _, _, _, _, _, _, _, _, _, _, _, _, _, _, _, _, _, _, _, _, _, _, _, _, _, _, _, _, _, _, _, _, _, _, _, _, _, rfl, HW, HB, HO⟩
  ·have he : ((((wd :: names) ++ optN [110, 61] n) ++ optN [99, 61] cn) ++ optH tg) = (((wd :: names) ++ optN [110, 61] n) ++ optN [99, 61] cn) ++ [⟨#[116, 111, 61]⟩ ++ ⟨(hexL (m62 tg)).toArray⟩] := by unfold optH; rw [if_neg hz]
   have hcall := hex_ok tg w_
   have hlen := hexL_len (m62 tg)
   have hsz : ¬ 9223372036854775807 < 3 + (hexL (m62 tg)).length := by omega
   have hbw : w.heap.size ≤ w_.heap.size := Below.size HB
   have hlm : (((wd :: names) ++ optN [110, 61] n) ++ optN [99, 61] cn).length ≤ 1000000 := by
    have h1 := (optN_le (m := [110, 61]) (by decide) Hn).1
    have h2 := (optN_le (m := [99, 61]) (by decide) Hcn).1
    simp only [List.length_append, List.length_cons]
    omega
   have Hcall := Lib.hid hcall
   obtain ⟨NP, hNP⟩ : ∃ NP, ((((wd :: names) ++ optN [110, 61] n) ++ optN [99, 61] cn) ++ optH tg) = NP := ⟨_, rfl⟩
   rw [hNP] at he ⊢
   obtain ⟨PS, hPS⟩ : ∃ PS, (((wd :: names) ++ optN [110, 61] n) ++ optN [99, 61] cn) = PS := ⟨_, rfl⟩
   rw [hPS] at he HO hlm ⊢
   obtain ⟨X, hX⟩ : ∃ X, (hexL (m62 tg)) = X := ⟨_, rfl⟩
   rw [hX] at he Hcall hsz
   have He := Lib.hid he
   clear hcall hlen hNP hPS hX he
   go_wp2_with fail
   refine Calls.mono Hcall ?_
   rintro e w5 ⟨rfl, hb5⟩
   have hO5 := own_on HO hb5
   have hW5 := Whole.on HW hb5
   have hB5 := (HB : Below w.heap.size w w_).trans (hb5.mono hbw)
   have hs5 : w.heap.size ≤ w5.heap.size := hB5.size
   have hba := (Below.refl w5.heap.size w5).alloc (Nat.le_refl _) (.cells #[.string (⟨#[116, 111, 61]⟩ ++ ⟨X.toArray⟩)] 9)
   have HO5 := Lib.hid (own_on hO5 hba)
   have HW5 := Lib.hid (Whole.on hW5 hba)
   have HB5 := Lib.hid (hB5.trans (hba.mono hs5))
   have HN5 := Lib.hid (Whole.new w5 9 #[.string (⟨#[116, 111, 61]⟩ ++ ⟨X.toArray⟩)])
   have hs6 : w.heap.size ≤ (w5.alloc (.cells #[.string (⟨#[116, 111, 61]⟩ ++ ⟨X.toArray⟩)] 9)).heap.size := Below.size HB5
   clear hb5 hO5 hW5 hB5 hba HO HW HB
   go_wp2_with (at_builtin; go_loud (refine list_pushS rfl _ _ rfl w.heap.size _ PS NP rfl HO5 w5.heap.size 1 (⟨#[116, 111, 61]⟩ ++ ⟨X.toArray⟩) rfl HN5 He hlm hs6 ?_))
   intro g7 cap7 w7 hown7 hg7
   have hne := own_ne HO5 HW5 (by decide)
   have HW7 := Lib.hid (Whole.off HW5 hg7 hne)
   have HB7 := Lib.hid (below_append HB5 hs6 HO5 hg7)
   have HO7 := Lib.hid hown7
   clear hown7 hg7 hne
   go_wp2_with fail
   exact ⟨g7, cap7, _, _, _, _, _, _, _, _, _, _, _, _, _, _, _, _, _, _, _, _, _, _, _, _, _, _, _, _, _, _, _, _, _, _, _, _, _, _, _, _, _, _, _, _, _, _, _, _, _, _, _, _, _, rfl, HW7, HB7, HO7⟩
 rintro _ w_ ⟨g, cap, u4, u5, u6, u7, u8, u9, u10, u11, u12, u13, u14, u15, u16, u17, u18, u19, u20, u21, u22, u23, u24, u25, u26, u27, u28, u29, u30, u31, u32, u33, u34, u35, u36, u37, u38, u39, u40, u41, u42, u43, u44, u45, u46, u47, u48, u49, u50, u51, u52, u53, u54, u55, u56, rfl, hW, hB, hO⟩
 refine wp_cut (LI cs w (wd :: restB names n cn tg tx)) ?_ ?_
 ·have hcell : w_.cell? ⟨w.heap.size, 3, none⟩ = some (.string tx) := (hW.cell 3).trans K3
  have HW := Lib.hid hW
  have HB := Lib.hid hB
  have HO := Lib.hid hO
  have he0 : wd :: restB names n cn tg tx = ((((wd :: names) ++ optN [110, 61] n) ++ optN [99, 61] cn) ++ optH tg) ++ optT tx := by unfold restB; simp
  clear hW hB hO
  by_cases hz : tx = ⟨#[]⟩
  ·have he : wd :: restB names n cn tg tx = ((((wd :: names) ++ optN [110, 61] n) ++ optN [99, 61] cn) ++ optH tg) := by rw [he0, hz]; show _ ++ [] = _; rw [List.append_nil]
   rw [he]
   rw [hz] at hcell
   obtain ⟨PS, hPS⟩ : ∃ PS, ((((wd :: names) ++ optN [110, 61] n) ++ optN [99, 61] cn) ++ optH tg) = PS := ⟨_, rfl⟩
   rw [hPS] at HO ⊢
   clear he he0 hPS
   go_wp2_with fail
   exact ⟨g, cap, _, _, _, _, _, _, _, _, _, _, _, _, _, _, _, _, _, _, _, _, _, _, _, _, _, _, _, _, _, _, _, _, _, _, _, _, _, _, _, _, _, _, _, _, _, _, _, _, _, _, _, _, _, rfl, HW, HB, HO⟩
  ·have he : wd :: restB names n cn tg tx = ((((wd :: names) ++ optN [110, 61] n) ++ optN [99, 61] cn) ++ optH tg) ++ [⟨#[116, 101, 120, 116, 61]⟩ ++ tx] := by rw [he0]; unfold optT; rw [if_neg hz]
   have hne0 := isEmpty_no hz
   have hsz : ¬ 9223372036854775807 < 5 + tx.size := by omega
   have hbw : w.heap.size ≤ w_.heap.size := Below.size HB
   have hlm : ((((wd :: names) ++ optN [110, 61] n) ++ optN [99, 61] cn) ++ optH tg).length ≤ 1000000 := by
    have h1 := (optN_le (m := [110, 61]) (by decide) Hn).1
    have h2 := (optN_le (m := [99, 61]) (by decide) Hcn).1
    have h3 := (optH_le (n := tg)).1
    simp only [List.length_append, List.length_cons]
    omega
   obtain ⟨NP, hNP⟩ : ∃ NP, wd :: restB names n cn tg tx = NP := ⟨_, rfl⟩
   rw [hNP] at he ⊢
   obtain ⟨PS, hPS⟩ : ∃ PS, ((((wd :: names) ++ optN [110, 61] n) ++ optN [99, 61] cn) ++ optH tg) = PS := ⟨_, rfl⟩
   rw [hPS] at he HO hlm ⊢
   have He := Lib.hid he
   have hba := (Below.refl w_.heap.size w_).alloc (Nat.le_refl _) (.cells #[.string (⟨#[116, 101, 120, 116, 61]⟩ ++ tx)] 9)
   have HO5 := Lib.hid (own_on HO hba)
   have HW5 := Lib.hid (Whole.on HW hba)
   have HB5 := Lib.hid ((HB : Below w.heap.size w w_).trans (hba.mono hbw))
   have HN5 := Lib.hid (Whole.new w_ 9 #[.string (⟨#[116, 101, 120, 116, 61]⟩ ++ tx)])
   have hs6 : w.heap.size ≤ (w_.alloc (.cells #[.string (⟨#[116, 101, 120, 116, 61]⟩ ++ tx)] 9)).heap.size := Below.size HB5
   clear hba HO HW HB hNP hPS he he0
   go_wp2_with (at_builtin; go_loud (refine list_pushS rfl _ _ rfl w.heap.size _ PS NP rfl HO5 w_.heap.size 1 (⟨#[116, 101, 120, 116, 61]⟩ ++ tx) rfl HN5 He hlm hs6 ?_))
   intro g7 cap7 w7 hown7 hg7
   have hne := own_ne HO5 HW5 (by decide)
   have HW7 := Lib.hid (Whole.off HW5 hg7 hne)
   have HB7 := Lib.hid (below_append HB5 hs6 HO5 hg7)
   have HO7 := Lib.hid hown7
   clear hown7 hg7 hne
   go_wp2_with fail
   exact ⟨g7, cap7, _, _, _, _, _, _, _, _, _, _, _, _, _, _, _, _, _, _, _, _, _, _, _, _, _, _, _, _, _, _, _, _, _, _, _, _, _, _, _, _, _, _, _, _, _, _, _, _, _, _, _, _, _, rfl, HW7, HB7, HO7⟩
 rintro _ w_ ⟨g, cap, u4, u5, u6, u7, u8, u9, u10, u11, u12, u13, u14, u15, u16, u17, u18, u19, u20, u21, u22, u23, u24, u25, u26, u27, u28, u29, u30, u31, u32, u33, u34, u35, u36, u37, u38, u39, u40, u41, u42, u43, u44, u45, u46, u47, u48, u49, u50, u51, u52, u53, u54, u55, u56, rfl, hW, hB, hO⟩
 have hlr : (restB names n cn tg tx).length ≤ 1000000 := by
  have h1 := (optN_le (m := [110, 61]) (by decide) Hn).1
  have h2 := (optN_le (m := [99, 61]) (by decide) Hcn).1
  have h3 := (optH_le (n := tg)).1
  have h4 := (optT_le htx).1
  unfold restB
  simp only [List.length_append]
  omega
 have hj := join_ok g cap wd (restB names n cn tg tx) w_ (Strs.of_own hO) Hsz hlr
 have Hj := Lib.hid hj
 have HB := Lib.hid hB
 clear hj hW hB hO hlr
 go_wp2_with fail
 refine Calls.mono Hj ?_
 rintro e w8 ⟨rfl, hb8⟩
 have Hb8 := Lib.hid ((HB : Below w.heap.size w w_).trans (hb8.mono (Below.size HB)))
 clear hb8
 go_wp2_with fail
 go_ret
 exact ⟨rfl, Hb8⟩
end Go.Proofs.R50
end
