/- How the law's arguments read. -/
import Derived.Test.YthbenojbjjgnaaaGreatUBn
import Derived.Test.YthbenojbjjgnaaaGreatUAr
import Derived.Test.YthbenojbjjgnaaaGreatUAs
import Derived.Test.YthbenojbjjgnaaaGreatUBy
import Derived.Test.YthbenojbjjgnaaaGreatUAm
set_option linter.unusedVariables false
set_option linter.unusedSimpArgs false
set_option linter.unusedSectionVars false
section
namespace Go.Abs.RM
open Go.Proofs
set_option maxRecDepth 100000
set_option maxHeartbeats 4000000
theorem w18 (a0 : S30) (hr : RawR a0) : WQv 18 [.agg (S30.c a0)] (fun r : Bool => .sc (.bool r)) (fun r => r = true → RmOK a0) := by
 obtain ⟨g0,g1,g2,g3,g4⟩ := hr
 refine go Tryz.func18 (by kernel_rfl) ?_
 repeat' first
  | omega
  | assumption
  | (conv => whnf); first
    | refine bD (fun h => ?_) fun h => ?_
    | refine ⟨_,List.length_map ..,?_⟩
    | refine wC (w9 _ ?_ ?_ ?_ ?_ ?_ ?_ ?_) fun z9 h9 => ?_
    | refine ⟨by kernel_rfl,?_⟩
    | refine ⟨_,rfl,?_⟩
  | exact fun e => ⟨by omega,(h9 (eq_of_beq e)).2.1,(h9 (eq_of_beq e)).2.2.2.2.2⟩
  | (intro h; contradiction)
theorem w1019 (a0 : List S103) : WQv 19 [.lst (a0.map S103.c)] (fun r : Bool => .sc (.bool r)) (fun r => r = true → PolB a0) := ofE (t19 FU fu a0) (d19_ok FU a0)
theorem w1020 : WQv 20 [] (fun r : Bool => .sc (.bool r)) (fun r => r = true) := fun xs hx => by
  cases hx
  exact ⟨.sc (.bool true),_,.sc,⟨true,rfl,rfl⟩,RL.m89⟩
theorem w5 (a0 : S30) (a1 : ByteArray) (a2 : List S103) (hr : RawR a0) : WQv 5 [.agg (S30.c a0),.sc (.string a1),.lst (a2.map S103.c)] (fun r : Bool => .sc (.bool r)) (fun r => r = true) := by
 refine go Tryz.func5 (by kernel_rfl) ?_
 repeat' first
  | with_reducible assumption
  | (conv => whnf); first
    | refine bD (fun h => ?_) fun h => ?_
    | refine bN (fun h => ?_) fun h => ?_
    | refine br (fun h => ?_) fun h => ?_
    | refine wC (w18 _ ?_) fun z18 h18 => ?_
    | refine wC (w1019 _) fun z19 h19 => ?_
    | refine wC w1020 fun z20 h20 => ?_
    | refine wC (w1021 _ _ _ ?_ ?_ ?_) fun z21 h21 => ?_
    | refine wC (w1022 _ _ _ ?_ ?_ ?_) fun z22 h22 => ?_
    | (obtain rfl := plan_uniq h21 h22; refine wC (w1011 _ ?_ ?_) fun z11 h11 => ?_)
    | refine wC (w1024 _ ?_) fun z24 h24 => ?_
    | refine wC (w1025 _ ?_) fun z25 h25 => ?_
    | (obtain rfl := SetP.uniq h24 h25 fun _ => Iff.rfl; refine wC (w1023 _ ?_) fun z23 h23 => ?_)
    | refine ⟨_,List.length_map ..,?_⟩
    | refine ⟨by kernel_rfl,?_⟩
    | refine ⟨_,rfl,?_⟩
  | omega
  | exact h18 (by assumption)
  | exact h19 (by assumption)
  | (have := (plan_slim (h18 (by assumption)) h21).1; omega)
  | exact (plan_slim (h18 (by assumption)) h21).2
  | (have := SetP.len h24; have := stS_len (h18 (by assumption)); omega)
  | dsimp only
  | (subst_vars; contradiction)
  | grind
end Go.Abs.RM
end
section
namespace Go.Abs.RM
open Go.Proofs
set_option maxRecDepth 100000
section
variable {H : Type} {enc : TypeId × Value → H} {W : World} {base : Nat} {held : Bool}
theorem rd75 : Rd enc W base held 75 S75.c (fun _ => True) := rd_struct (N := 2) Tryz.underlying75 (by kernel_rfl) (rdf_cons (k := 1) (rd_str Tryz.underlying9) rfl (by kernel_rfl) (rdf_cons (k := 1) (rd_int Tryz.underlying3) rfl (by kernel_rfl) rdf_nil)) (fun a => ⟨a.1,a.2.1⟩) (fun _ => rfl) (fun _ _ => trivial)
theorem rd73 : Rd enc W base held 73 S73.c (fun _ => True) := rd_struct (N := 4) Tryz.underlying73 (by kernel_rfl) (rdf_cons (k := 1) (rd_str Tryz.underlying9) rfl (by kernel_rfl) (rdf_cons (k := 1) (rd_int Tryz.underlying3) rfl (by kernel_rfl) (rdf_cons (k := 1) (rd_int Tryz.underlying3) rfl (by kernel_rfl) (rdf_cons (k := 1) (rd_int Tryz.underlying3) rfl (by kernel_rfl) rdf_nil)))) (fun a => ⟨a.1,a.2.1,a.2.2.1,a.2.2.2.1⟩) (fun _ => rfl) (fun _ _ => trivial)
theorem rd71 : Rd enc W base held 71 S71.c (fun _ => True) := rd_struct (N := 3) Tryz.underlying71 (by kernel_rfl) (rdf_cons (k := 1) (rd_int Tryz.underlying55) rfl (by kernel_rfl) (rdf_cons (k := 1) (rd_str Tryz.underlying9) rfl (by kernel_rfl) (rdf_cons (k := 1) (rd_int Tryz.underlying3) rfl (by kernel_rfl) rdf_nil))) (fun a => ⟨a.1,a.2.1,a.2.2.1⟩) (fun _ => rfl) (fun _ _ => trivial)
theorem rd63 : Rd enc W base held 63 S63.c (fun e => e.f0.size ≤ 9223372036854775807) := rd_struct (N := 2) Tryz.underlying63 (by kernel_rfl) (rdf_cons (k := 1) (rd_str Tryz.underlying9) rfl (by kernel_rfl) (rdf_cons (k := 1) (rd_int Tryz.underlying3) rfl (by kernel_rfl) rdf_nil)) (fun a => ⟨a.1,a.2.1⟩) (fun _ => rfl) (fun _ h => h.1)
theorem rd215 : Rd enc W base held 215 S215.c (fun _ => True) := rd_struct (N := 2) Tryz.underlying215 (by kernel_rfl) (rdf_cons (k := 1) (rd_int Tryz.underlying55) rfl (by kernel_rfl) (rdf_cons (k := 1) (rd_int Tryz.underlying3) rfl (by kernel_rfl) rdf_nil)) (fun a => ⟨a.1,a.2.1⟩) (fun _ => rfl) (fun _ _ => trivial)
theorem rd179 : Rd enc W base held 179 S179.c (fun e => e.f0.size ≤ 9223372036854775807) := rd_struct (N := 2) Tryz.underlying179 (by kernel_rfl) (rdf_cons (k := 1) (rd_str Tryz.underlying9) rfl (by kernel_rfl) (rdf_cons (k := 1) (rd_int Tryz.underlying3) rfl (by kernel_rfl) rdf_nil)) (fun a => ⟨a.1,a.2.1⟩) (fun _ => rfl) (fun _ h => h.1)
theorem rd59 : Rd enc W base held 59 S59.c (fun e => e.f0.length ≤ 9223372036854775807 ∧ e.f1.length ≤ 9223372036854775807 ∧ ∀ x ∈ e.f0,x.f0.size ≤ 9223372036854775807) := rd_struct (N := 9) Tryz.underlying59 (by kernel_rfl) (rdf_cons (k := 1) (rd_slice (s := 2) Tryz.underlying56 (by kernel_rfl) (fun _ => rfl) rd179) rfl (by kernel_rfl) (rdf_cons (k := 1) (rd_slice (s := 2) Tryz.underlying57 (by kernel_rfl) (fun _ => rfl) rd215) rfl (by kernel_rfl) (rdf_cons (k := 1) (rd_int Tryz.underlying3) rfl (by kernel_rfl) (rdf_cons (k := 1) (rd_int Tryz.underlying3) rfl (by kernel_rfl) (rdf_cons (k := 1) (rd_int Tryz.underlying3) rfl (by kernel_rfl) (rdf_cons (k := 1) (rd_int Tryz.underlying3) rfl (by kernel_rfl) (rdf_cons (k := 1) (rd_int Tryz.underlying3) rfl (by kernel_rfl) (rdf_cons (k := 1) (rd_int Tryz.underlying3) rfl (by kernel_rfl) (rdf_cons (k := 1) (rd_int Tryz.underlying3) rfl (by kernel_rfl) rdf_nil))))))))) (fun a => ⟨a.1,a.2.1,a.2.2.1,a.2.2.2.1,a.2.2.2.2.1,a.2.2.2.2.2.1,a.2.2.2.2.2.2.1,a.2.2.2.2.2.2.2.1,a.2.2.2.2.2.2.2.2.1⟩) (fun _ => rfl) (fun _ h => ⟨h.1.2,h.2.1.2,h.1.1⟩)
theorem rd61 : Rd enc W base held 61 S61.c (fun e => CB e 9223372036854775807 9223372036854775807) := rd_struct (N := 16) Tryz.underlying61 (by kernel_rfl) (rdf_cons (k := 1) (rd_str Tryz.underlying9) rfl (by kernel_rfl) (rdf_cons (k := 1) (rd_int Tryz.underlying3) rfl (by kernel_rfl) (rdf_cons (k := 1) (rd_int Tryz.underlying3) rfl (by kernel_rfl) (rdf_cons (k := 1) (rd_bool Tryz.underlying4) rfl (by kernel_rfl) (rdf_cons (k := 1) (rd_str Tryz.underlying9) rfl (by kernel_rfl) (rdf_cons (k := 1) (rd_slice (s := 1) Tryz.underlying49 (by kernel_rfl) (fun _ => rfl) (rd_str Tryz.underlying9)) rfl (by kernel_rfl) (rdf_cons (k := 1) (rd_slice (s := 1) Tryz.underlying49 (by kernel_rfl) (fun _ => rfl) (rd_str Tryz.underlying9)) rfl (by kernel_rfl) (rdf_cons (k := 9) rd59 rfl (by kernel_rfl) rdf_nil)))))))) (fun a => ⟨a.1,a.2.1,a.2.2.1,a.2.2.2.1,a.2.2.2.2.1,a.2.2.2.2.2.1,a.2.2.2.2.2.2.1,a.2.2.2.2.2.2.2.1⟩) (fun _ => rfl) (fun _ ⟨h0,_,_,_,h4,h5,h6,h7,_⟩ => ⟨h0,h4,h5.2,h6.2,h7.1,h7.2.1,h5.1,h6.1,h7.2.2⟩)
theorem rd65 : Rd enc W base held 65 S65.c EM := rd_struct (N := 29) Tryz.underlying65 (by kernel_rfl) (rdf_cons (k := 1) (rd_int Tryz.underlying3) rfl (by kernel_rfl) (rdf_cons (k := 1) (rd_str Tryz.underlying9) rfl (by kernel_rfl) (rdf_cons (k := 1) (rd_str Tryz.underlying9) rfl (by kernel_rfl) (rdf_cons (k := 1) (rd_int Tryz.underlying55) rfl (by kernel_rfl) (rdf_cons (k := 1) (rd_bool Tryz.underlying4) rfl (by kernel_rfl) (rdf_cons (k := 1) (rd_str Tryz.underlying9) rfl (by kernel_rfl) (rdf_cons (k := 1) (rd_int Tryz.underlying3) rfl (by kernel_rfl) (rdf_cons (k := 1) (rd_int Tryz.underlying3) rfl (by kernel_rfl) (rdf_cons (k := 1) (rd_slice (s := 1) Tryz.underlying24 (by kernel_rfl) (fun _ => rfl) (rd_int Tryz.underlying3)) rfl (by kernel_rfl) (rdf_cons (k := 1) (rd_slice (s := 1) Tryz.underlying24 (by kernel_rfl) (fun _ => rfl) (rd_int Tryz.underlying3)) rfl (by kernel_rfl) (rdf_cons (k := 16) rd61 rfl (by kernel_rfl) (rdf_cons (k := 1) (rd_int Tryz.underlying3) rfl (by kernel_rfl) (rdf_cons (k := 2) rd63 rfl (by kernel_rfl) rdf_nil))))))))))))) (fun a => ⟨a.1,a.2.1,a.2.2.1,a.2.2.2.1,a.2.2.2.2.1,a.2.2.2.2.2.1,a.2.2.2.2.2.2.1,a.2.2.2.2.2.2.2.1,a.2.2.2.2.2.2.2.2.1,a.2.2.2.2.2.2.2.2.2.1,a.2.2.2.2.2.2.2.2.2.2.1,a.2.2.2.2.2.2.2.2.2.2.2.1,a.2.2.2.2.2.2.2.2.2.2.2.2.1⟩) (fun _ => rfl) (fun _ ⟨_,h1,h2,_,_,h5,_,_,h8,h9,h10,_,h12,_⟩ => ⟨h1,h2,h5,h8.2,h9.2,h10,h12⟩)
theorem rd135 : Rd enc W base held 135 S135.c (fun _ => True) := rd_struct (N := 4) Tryz.underlying135 (by kernel_rfl) (rdf_cons (k := 1) (rd_int Tryz.underlying3) rfl (by kernel_rfl) (rdf_cons (k := 1) (rd_int Tryz.underlying3) rfl (by kernel_rfl) (rdf_cons (k := 1) (rd_int Tryz.underlying133) rfl (by kernel_rfl) (rdf_cons (k := 1) (rd_bool Tryz.underlying4) rfl (by kernel_rfl) rdf_nil)))) (fun a => ⟨a.1,a.2.1,a.2.2.1,a.2.2.2.1⟩) (fun _ => rfl) (fun _ _ => trivial)
theorem rd30 : Rd enc W base held 30 S30.c RawR := rd_struct (N := 9) Tryz.underlying30 (by kernel_rfl) (rdf_cons (k := 1) (rd_str Tryz.underlying9) rfl (by kernel_rfl) (rdf_cons (k := 1) (rd_slice (s := 29) Tryz.underlying22 (by kernel_rfl) (fun _ => rfl) rd65) rfl (by kernel_rfl) (rdf_cons (k := 1) (rd_slice (s := 4) Tryz.underlying23 (by kernel_rfl) (fun _ => rfl) rd135) rfl (by kernel_rfl) (rdf_cons (k := 1) (rd_slice (s := 29) Tryz.underlying22 (by kernel_rfl) (fun _ => rfl) rd65) rfl (by kernel_rfl) (rdf_cons (k := 1) (rd_slice (s := 1) Tryz.underlying24 (by kernel_rfl) (fun _ => rfl) (rd_int Tryz.underlying3)) rfl (by kernel_rfl) (rdf_cons (k := 1) (rd_slice (s := 3) Tryz.underlying26 (by kernel_rfl) (fun _ => rfl) rd71) rfl (by kernel_rfl) (rdf_cons (k := 1) (rd_int Tryz.underlying3) rfl (by kernel_rfl) (rdf_cons (k := 1) (rd_slice (s := 4) Tryz.underlying27 (by kernel_rfl) (fun _ => rfl) rd73) rfl (by kernel_rfl) (rdf_cons (k := 1) (rd_slice (s := 2) Tryz.underlying28 (by kernel_rfl) (fun _ => rfl) rd75) rfl (by kernel_rfl) rdf_nil))))))))) (fun a => ⟨a.1,a.2.1,a.2.2.1,a.2.2.2.1,a.2.2.2.2.1,a.2.2.2.2.2.1,a.2.2.2.2.2.2.1,a.2.2.2.2.2.2.2.1,a.2.2.2.2.2.2.2.2.1⟩) (fun _ => rfl) (fun _ ⟨h0,h1,_,h3,h4,h5,_⟩ => ⟨h0,h1.1,h3.1,h4.2,h5.2⟩)
theorem rd103 : Rd enc W base held 103 S103.c (fun _ => True) := rd_struct (N := 3) Tryz.underlying103 (by kernel_rfl) (rdf_cons (k := 1) (rd_int Tryz.underlying55) rfl (by kernel_rfl) (rdf_cons (k := 1) (rd_str Tryz.underlying9) rfl (by kernel_rfl) (rdf_cons (k := 1) (rd_str Tryz.underlying9) rfl (by kernel_rfl) rdf_nil))) (fun a => ⟨a.1,a.2.1,a.2.2.1⟩) (fun _ => rfl) (fun _ _ => trivial)
theorem rd44 : Rd enc W base held 44 (fun l : List S103 => [.lst (l.map S103.c)]) (fun l => (∀ x ∈ l,True) ∧ l.length ≤ 9223372036854775807) := (rd_slice (s := 3) Tryz.underlying44 (by kernel_rfl) (fun _ => rfl) rd103)
end
end Go.Abs.RM
end
