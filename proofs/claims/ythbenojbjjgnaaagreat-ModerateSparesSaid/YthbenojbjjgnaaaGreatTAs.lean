/- How the law's arguments read. -/
import Derived.Test.YthbenojbjjgnaaaGreatTBm
import Derived.Test.YthbenojbjjgnaaaGreatTAr
import Derived.Test.YthbenojbjjgnaaaGreatTBx
import Derived.Test.YthbenojbjjgnaaaGreatTAm
set_option linter.unusedVariables false
set_option linter.unusedSimpArgs false
set_option linter.unusedSectionVars false
section
namespace Go.Abs.RM
open Go.Proofs
set_option maxRecDepth 100000
set_option maxHeartbeats 4000000
theorem w18 (a0 : S30) (hr : RawR a0) : WQv 18 [.agg (S30.c a0)] (fun r : Bool => .sc (.bool r)) (fun r => r = true → RmOK a0) := by
 obtain ⟨g0, g1, g2, g3, g4⟩ := hr
 refine go Tryz.func18 (by kernel_rfl) ?_
 repeat' first
  | omega
  | assumption
  | (conv => whnf); first
    | refine bD (fun h => ?_) fun h => ?_
    | refine ⟨_, List.length_map .., ?_⟩
    | refine wC (w9 _ ?_ ?_ ?_ ?_ ?_ ?_ ?_) fun z9 h9 => ?_
    | refine ⟨by kernel_rfl, ?_⟩
    | refine ⟨_, rfl, ?_⟩
  | exact fun e => ⟨by omega, (h9 (eq_of_beq e)).2.1, (h9 (eq_of_beq e)).2.2.2.2.2⟩
  | (intro h; contradiction)
theorem m20 : WValid P 20 [] (fun z => z = .sc (.bool true)) := fun xs hx => by
  cases hx
  exact ⟨.sc (.bool true), _, .sc, rfl, RL.m89⟩
theorem w6' (fuel : Nat) (a0 : S30) (a1 : ByteArray) (a2 : List S103) (r : Bool) (hr : RawR a0) (hI : ∀ z1, (z1 = true → RmOK a0) → d6 fuel z1 a0 a1 a2 = some r) : WValid P 6 [.agg (S30.c a0), .sc (.string a1), .lst (a2.map S103.c)] (fun z => z = .sc (.bool r)) := by
 refine go Tryz.func6 (by kernel_rfl) ?_
 conv => whnf
 refine wC (w18 _ hr) fun z1 h1 => ?_
 replace hI := hI z1 h1
 rw [d6] at hI
 conv => whnf
 refine B hI (fun hI => ?_) fun hI => ?_
 rotate_left
 conv => whnf
 refine B hI (fun hI => ?_) fun hI => ?_
 rotate_left
 conv => whnf
 refine cI hI (d19_ok fuel _) fun z4 hI => ?_
 conv => whnf
 refine B hI (fun hI => ?_) fun hI => ?_
 rotate_left
 conv => whnf
 refine cI hI (d21_ok fuel _ _ _) fun z6 hI => ?_
 conv => whnf
 refine cI hI (d27_ok fuel _) fun z7 hI => ?_
 conv => whnf
 refine cI hI (d26_ok fuel _) fun z8 hI => ?_
 conv => whnf
 refine L2 (fun o9 s10 => [(1, .sc (.string a1)), (3, .box 0 0), (7, .lst (List.map S65.c z6)), (9, .lst (List.map cStr z8.2)), (10, .row 1), (11, .sc (.int .i64 s10))]) (fun o9 s10 => ⟨[(0, .box (S30.c a0) false), (1, .row (List.map cStr o9) 1 false 1)], 2⟩) hI (ft [(0, some 0), (1, some 1)] rfl rfl rfl ⟨fB rfl rfl rfl, fR rfl rfl fun _ => rfl, trivial⟩) (fun _ _ => rfl) ?_
 rintro n0 o9 s10 hI; rw [d6_0] at hI
 conv => whnf
 refine ⟨_, List.length_map .., ?_⟩
 conv => whnf
 refine B hI (fun hI => ?_) fun hI => ?_
 conv => whnf
 refine cL hI (fun _ => rfl) fun x11 hI => ?_
 conv => whnf
 refine B hI (fun hI => ?_) fun hI => ?_
 conv => whnf
 refine B hI (fun hI => ?_) fun hI => ?_
 rotate_left
 conv => whnf
 refine cI hI (d28_ok fuel _) fun z12 hI => ?_
 conv => whnf
 refine B hI (fun hI => ?_) fun hI => ?_
 rotate_left
 conv => whnf
 refine ⟨_, _, deep0 (leafs_map (f := cStr) (fun _ => rfl) _), ?_⟩
 conv => whnf
 refine cI hI (d29_ok fuel _ _) fun z13 hI => ?_
 conv => whnf
 refine B hI (fun hI => ?_) fun hI => ?_
 rotate_left
 conv => whnf
 refine aM (f := cStr) hI rfl (fun _ => ⟨rfl, rfl⟩) fun hI => ?_
 conv => whnf
 refine L1 (fun s14 => [(1, .sc (.string a1)), (3, .box 0 0), (7, .lst (List.map S65.c z6)), (9, .lst (List.map cStr z8.2)), (10, .row 1), (11, .sc (.int .i64 s10)), (12, .box 2 0), (13, .sc (.int .i64 s14)), (53, .box 2 10), (54, .box 2 11), (55, .sc (.int .i64 x11.f10.f1)), (56, .sc (.bool (!(x11.f10.f1 == (4 : Int))))), (57, .sc (.bool false)), (58, .box 2 5), (59, .sc (.string x11.f5)), (60, .sc (.string z12)), (61, .sc (.string a1)), (62, .sc (.bool (z12.toList == a1.toList))), (63, .sc (.bool (z12.toList == a1.toList))), (64, .sc (.bool false)), (66, .box 2 5), (67, .sc (.string x11.f5)), (68, .sc (.bool z13)), (69, .sc (.bool z13))]) (fun _ => ⟨[(0, .box (S30.c a0) false), (1, .row (List.map cStr (o9 ++ [x11.f5])) 1 false 1), (2, .box (S65.c x11) false)], 3⟩) hI (ft [(0, some 0), (1, some 4), (2, some 2)] rfl rfl rfl ⟨fB rfl rfl rfl, fR rfl rfl fun _ => rfl, fB rfl rfl rfl, trivial⟩) (fun _ => rfl) ?_
 rintro n1 s14 hI; rw [d6_1] at hI
 rotate_left
 conv => whnf
 refine aM (f := cStr) hI rfl (fun _ => ⟨rfl, rfl⟩) fun hI => ?_
 conv => whnf
 refine L1 (fun s19 => [(1, .sc (.string a1)), (3, .box 0 0), (7, .lst (List.map S65.c z6)), (9, .lst (List.map cStr z8.2)), (10, .row 1), (11, .sc (.int .i64 s10)), (12, .box 2 0), (13, .sc (.int .i64 s19))]) (fun _ => ⟨[(0, .box (S30.c a0) false), (1, .row (List.map cStr (o9 ++ [x11.f5])) 1 false 1), (2, .box (S65.c x11) false)], 3⟩) hI (ft [(0, some 0), (1, some 4), (2, some 2)] rfl rfl rfl ⟨fB rfl rfl rfl, fR rfl rfl fun _ => rfl, fB rfl rfl rfl, trivial⟩) (fun _ => rfl) ?_
 rintro n2 s19 hI; rw [d6_2] at hI
 rotate_left
 all_goals repeat' ((conv => whnf); first
  | refine B hI (fun hI => ?_) fun hI => ?_
  | (cases hI; refine .inl ⟨_, m20, ?_⟩; rintro _ rfl)
  | refine ⟨_, List.length_map .., ?_⟩
  | refine cL hI (fun _ => rfl) fun x hI => ?_
  | refine cI hI (d30_ok fuel _ _) fun x hI => ?_
  | refine cI hI (d29_ok fuel _ _) fun x hI => ?_
  | exact ⟨⟨_, _⟩, hI, Nat.lt_succ_self _, (ft [(0, some 0), (1, some 1), (2, some 2)] rfl rfl rfl ⟨fB rfl rfl rfl, fR rfl rfl fun _ => rfl, fB rfl rfl rfl, trivial⟩)⟩
  | exact ⟨⟨_, _, _⟩, hI, Nat.lt_succ_self _, (ft [(0, some 0), (1, some 1)] rfl rfl rfl ⟨fB rfl rfl rfl, fR rfl rfl fun _ => rfl, trivial⟩)⟩
  | (cases hI; rfl)
  | rfl)
theorem w6 (a0 : S30) (a1 : ByteArray) (a2 : List S103) (hr : RawR a0) : WValid P 6 [.agg (S30.c a0), .sc (.string a1), .lst (a2.map S103.c)] (fun z => z = .sc (.bool true)) :=
  w6' 18446744073709551616 a0 a1 a2 true hr fun z1 h => spares _ (Nat.le_refl _) a0 a1 a2 z1 h
end Go.Abs.RM
end
section
namespace Go.Abs.RM
open Go.Proofs
set_option maxRecDepth 100000
section
variable {H : Type} {enc : TypeId × Value → H} {W : World} {base : Nat} {held : Bool}
theorem rd75 : Rd enc W base held 75 S75.c (fun _ => True) := rd_struct (N := 2) Tryz.underlying75 (by kernel_rfl) (rdf_cons (k := 1) (rd_str Tryz.underlying9) rfl (by kernel_rfl) (rdf_cons (k := 1) (rd_int Tryz.underlying3) rfl (by kernel_rfl) rdf_nil)) (fun a => ⟨a.1, a.2.1⟩) (fun _ => rfl) (fun _ _ => trivial)
theorem rd73 : Rd enc W base held 73 S73.c (fun _ => True) := rd_struct (N := 4) Tryz.underlying73 (by kernel_rfl) (rdf_cons (k := 1) (rd_str Tryz.underlying9) rfl (by kernel_rfl) (rdf_cons (k := 1) (rd_int Tryz.underlying3) rfl (by kernel_rfl) (rdf_cons (k := 1) (rd_int Tryz.underlying3) rfl (by kernel_rfl) (rdf_cons (k := 1) (rd_int Tryz.underlying3) rfl (by kernel_rfl) rdf_nil)))) (fun a => ⟨a.1, a.2.1, a.2.2.1, a.2.2.2.1⟩) (fun _ => rfl) (fun _ _ => trivial)
theorem rd71 : Rd enc W base held 71 S71.c (fun _ => True) := rd_struct (N := 3) Tryz.underlying71 (by kernel_rfl) (rdf_cons (k := 1) (rd_int Tryz.underlying55) rfl (by kernel_rfl) (rdf_cons (k := 1) (rd_str Tryz.underlying9) rfl (by kernel_rfl) (rdf_cons (k := 1) (rd_int Tryz.underlying3) rfl (by kernel_rfl) rdf_nil))) (fun a => ⟨a.1, a.2.1, a.2.2.1⟩) (fun _ => rfl) (fun _ _ => trivial)
theorem rd63 : Rd enc W base held 63 S63.c (fun e => e.f0.size ≤ 9223372036854775807) := rd_struct (N := 2) Tryz.underlying63 (by kernel_rfl) (rdf_cons (k := 1) (rd_str Tryz.underlying9) rfl (by kernel_rfl) (rdf_cons (k := 1) (rd_int Tryz.underlying3) rfl (by kernel_rfl) rdf_nil)) (fun a => ⟨a.1, a.2.1⟩) (fun _ => rfl) (fun _ h => h.1)
theorem rd215 : Rd enc W base held 215 S215.c (fun _ => True) := rd_struct (N := 2) Tryz.underlying215 (by kernel_rfl) (rdf_cons (k := 1) (rd_int Tryz.underlying55) rfl (by kernel_rfl) (rdf_cons (k := 1) (rd_int Tryz.underlying3) rfl (by kernel_rfl) rdf_nil)) (fun a => ⟨a.1, a.2.1⟩) (fun _ => rfl) (fun _ _ => trivial)
theorem rd179 : Rd enc W base held 179 S179.c (fun e => e.f0.size ≤ 9223372036854775807) := rd_struct (N := 2) Tryz.underlying179 (by kernel_rfl) (rdf_cons (k := 1) (rd_str Tryz.underlying9) rfl (by kernel_rfl) (rdf_cons (k := 1) (rd_int Tryz.underlying3) rfl (by kernel_rfl) rdf_nil)) (fun a => ⟨a.1, a.2.1⟩) (fun _ => rfl) (fun _ h => h.1)
theorem rd59 : Rd enc W base held 59 S59.c (fun e => e.f0.length ≤ 9223372036854775807 ∧ e.f1.length ≤ 9223372036854775807 ∧ ∀ x ∈ e.f0, x.f0.size ≤ 9223372036854775807) := rd_struct (N := 9) Tryz.underlying59 (by kernel_rfl) (rdf_cons (k := 1) (rd_slice (s := 2) Tryz.underlying56 (by kernel_rfl) (fun _ => rfl) rd179) rfl (by kernel_rfl) (rdf_cons (k := 1) (rd_slice (s := 2) Tryz.underlying57 (by kernel_rfl) (fun _ => rfl) rd215) rfl (by kernel_rfl) (rdf_cons (k := 1) (rd_int Tryz.underlying3) rfl (by kernel_rfl) (rdf_cons (k := 1) (rd_int Tryz.underlying3) rfl (by kernel_rfl) (rdf_cons (k := 1) (rd_int Tryz.underlying3) rfl (by kernel_rfl) (rdf_cons (k := 1) (rd_int Tryz.underlying3) rfl (by kernel_rfl) (rdf_cons (k := 1) (rd_int Tryz.underlying3) rfl (by kernel_rfl) (rdf_cons (k := 1) (rd_int Tryz.underlying3) rfl (by kernel_rfl) (rdf_cons (k := 1) (rd_int Tryz.underlying3) rfl (by kernel_rfl) rdf_nil))))))))) (fun a => ⟨a.1, a.2.1, a.2.2.1, a.2.2.2.1, a.2.2.2.2.1, a.2.2.2.2.2.1, a.2.2.2.2.2.2.1, a.2.2.2.2.2.2.2.1, a.2.2.2.2.2.2.2.2.1⟩) (fun _ => rfl) (fun _ h => ⟨h.1.2, h.2.1.2, h.1.1⟩)
theorem rd61 : Rd enc W base held 61 S61.c (fun e => CB e 9223372036854775807 9223372036854775807) := rd_struct (N := 16) Tryz.underlying61 (by kernel_rfl) (rdf_cons (k := 1) (rd_str Tryz.underlying9) rfl (by kernel_rfl) (rdf_cons (k := 1) (rd_int Tryz.underlying3) rfl (by kernel_rfl) (rdf_cons (k := 1) (rd_int Tryz.underlying3) rfl (by kernel_rfl) (rdf_cons (k := 1) (rd_bool Tryz.underlying4) rfl (by kernel_rfl) (rdf_cons (k := 1) (rd_str Tryz.underlying9) rfl (by kernel_rfl) (rdf_cons (k := 1) (rd_slice (s := 1) Tryz.underlying49 (by kernel_rfl) (fun _ => rfl) (rd_str Tryz.underlying9)) rfl (by kernel_rfl) (rdf_cons (k := 1) (rd_slice (s := 1) Tryz.underlying49 (by kernel_rfl) (fun _ => rfl) (rd_str Tryz.underlying9)) rfl (by kernel_rfl) (rdf_cons (k := 9) rd59 rfl (by kernel_rfl) rdf_nil)))))))) (fun a => ⟨a.1, a.2.1, a.2.2.1, a.2.2.2.1, a.2.2.2.2.1, a.2.2.2.2.2.1, a.2.2.2.2.2.2.1, a.2.2.2.2.2.2.2.1⟩) (fun _ => rfl) (fun _ ⟨h0, _, _, _, h4, h5, h6, h7, _⟩ => ⟨h0, h4, h5.2, h6.2, h7.1, h7.2.1, h5.1, h6.1, h7.2.2⟩)
theorem rd65 : Rd enc W base held 65 S65.c EM := rd_struct (N := 29) Tryz.underlying65 (by kernel_rfl) (rdf_cons (k := 1) (rd_int Tryz.underlying3) rfl (by kernel_rfl) (rdf_cons (k := 1) (rd_str Tryz.underlying9) rfl (by kernel_rfl) (rdf_cons (k := 1) (rd_str Tryz.underlying9) rfl (by kernel_rfl) (rdf_cons (k := 1) (rd_int Tryz.underlying55) rfl (by kernel_rfl) (rdf_cons (k := 1) (rd_bool Tryz.underlying4) rfl (by kernel_rfl) (rdf_cons (k := 1) (rd_str Tryz.underlying9) rfl (by kernel_rfl) (rdf_cons (k := 1) (rd_int Tryz.underlying3) rfl (by kernel_rfl) (rdf_cons (k := 1) (rd_int Tryz.underlying3) rfl (by kernel_rfl) (rdf_cons (k := 1) (rd_slice (s := 1) Tryz.underlying24 (by kernel_rfl) (fun _ => rfl) (rd_int Tryz.underlying3)) rfl (by kernel_rfl) (rdf_cons (k := 1) (rd_slice (s := 1) Tryz.underlying24 (by kernel_rfl) (fun _ => rfl) (rd_int Tryz.underlying3)) rfl (by kernel_rfl) (rdf_cons (k := 16) rd61 rfl (by kernel_rfl) (rdf_cons (k := 1) (rd_int Tryz.underlying3) rfl (by kernel_rfl) (rdf_cons (k := 2) rd63 rfl (by kernel_rfl) rdf_nil))))))))))))) (fun a => ⟨a.1, a.2.1, a.2.2.1, a.2.2.2.1, a.2.2.2.2.1, a.2.2.2.2.2.1, a.2.2.2.2.2.2.1, a.2.2.2.2.2.2.2.1, a.2.2.2.2.2.2.2.2.1, a.2.2.2.2.2.2.2.2.2.1, a.2.2.2.2.2.2.2.2.2.2.1, a.2.2.2.2.2.2.2.2.2.2.2.1, a.2.2.2.2.2.2.2.2.2.2.2.2.1⟩) (fun _ => rfl) (fun _ ⟨_, h1, h2, _, _, h5, _, _, h8, h9, h10, _, h12, _⟩ => ⟨h1, h2, h5, h8.2, h9.2, h10, h12⟩)
theorem rd135 : Rd enc W base held 135 S135.c (fun _ => True) := rd_struct (N := 4) Tryz.underlying135 (by kernel_rfl) (rdf_cons (k := 1) (rd_int Tryz.underlying3) rfl (by kernel_rfl) (rdf_cons (k := 1) (rd_int Tryz.underlying3) rfl (by kernel_rfl) (rdf_cons (k := 1) (rd_int Tryz.underlying133) rfl (by kernel_rfl) (rdf_cons (k := 1) (rd_bool Tryz.underlying4) rfl (by kernel_rfl) rdf_nil)))) (fun a => ⟨a.1, a.2.1, a.2.2.1, a.2.2.2.1⟩) (fun _ => rfl) (fun _ _ => trivial)
theorem rd30 : Rd enc W base held 30 S30.c RawR := rd_struct (N := 9) Tryz.underlying30 (by kernel_rfl) (rdf_cons (k := 1) (rd_str Tryz.underlying9) rfl (by kernel_rfl) (rdf_cons (k := 1) (rd_slice (s := 29) Tryz.underlying22 (by kernel_rfl) (fun _ => rfl) rd65) rfl (by kernel_rfl) (rdf_cons (k := 1) (rd_slice (s := 4) Tryz.underlying23 (by kernel_rfl) (fun _ => rfl) rd135) rfl (by kernel_rfl) (rdf_cons (k := 1) (rd_slice (s := 29) Tryz.underlying22 (by kernel_rfl) (fun _ => rfl) rd65) rfl (by kernel_rfl) (rdf_cons (k := 1) (rd_slice (s := 1) Tryz.underlying24 (by kernel_rfl) (fun _ => rfl) (rd_int Tryz.underlying3)) rfl (by kernel_rfl) (rdf_cons (k := 1) (rd_slice (s := 3) Tryz.underlying26 (by kernel_rfl) (fun _ => rfl) rd71) rfl (by kernel_rfl) (rdf_cons (k := 1) (rd_int Tryz.underlying3) rfl (by kernel_rfl) (rdf_cons (k := 1) (rd_slice (s := 4) Tryz.underlying27 (by kernel_rfl) (fun _ => rfl) rd73) rfl (by kernel_rfl) (rdf_cons (k := 1) (rd_slice (s := 2) Tryz.underlying28 (by kernel_rfl) (fun _ => rfl) rd75) rfl (by kernel_rfl) rdf_nil))))))))) (fun a => ⟨a.1, a.2.1, a.2.2.1, a.2.2.2.1, a.2.2.2.2.1, a.2.2.2.2.2.1, a.2.2.2.2.2.2.1, a.2.2.2.2.2.2.2.1, a.2.2.2.2.2.2.2.2.1⟩) (fun _ => rfl) (fun _ ⟨h0, h1, _, h3, h4, h5, _⟩ => ⟨h0, h1.1, h3.1, h4.2, h5.2⟩)
theorem rd103 : Rd enc W base held 103 S103.c (fun _ => True) := rd_struct (N := 3) Tryz.underlying103 (by kernel_rfl) (rdf_cons (k := 1) (rd_int Tryz.underlying55) rfl (by kernel_rfl) (rdf_cons (k := 1) (rd_str Tryz.underlying9) rfl (by kernel_rfl) (rdf_cons (k := 1) (rd_str Tryz.underlying9) rfl (by kernel_rfl) rdf_nil))) (fun a => ⟨a.1, a.2.1, a.2.2.1⟩) (fun _ => rfl) (fun _ _ => trivial)
theorem rd44 : Rd enc W base held 44 (fun l : List S103 => [.lst (l.map S103.c)]) (fun l => (∀ x ∈ l, True) ∧ l.length ≤ 9223372036854775807) := (rd_slice (s := 3) Tryz.underlying44 (by kernel_rfl) (fun _ => rfl) rd103)
end
end Go.Abs.RM
end
