/- Of ServerHides: walks. -/
import Derived.Test.YtlhdbnmgiaoeeaaGreatUBa
import Derived.Test.YtlhdbnmgiaoeeaaGreatUBe
import Derived.Test.YtlhdbnmgiaoeeaaGreatUBm
import Derived.Test.YtlhdbnmgiaoeeaaGreatUAl
set_option linter.all false
namespace Go.Abs.RM
open Go.Proofs Go.Proofs.RMH
set_option maxRecDepth 100000
set_option maxHeartbeats 40000000
theorem w2008:WQv 8 [] sB (λr=>r=true):=λxs hx=>by
 cases hx
 exact ⟨sB true,_,.sc,⟨true,rfl,rfl⟩,RL.m37⟩
theorem w2005 (a0:SP) (a1:S2037) (a2:Bool) (g0:RawS a0.d) (g1:PkM a1):WQv 5 [.agg a0.c,.agg (S2037.c a1),sB a2] sB (λr=>r=true):=by
 refine gO Tryz.func5 ?_
 obtain ⟨rb,hb,hW⟩:=w2019p a0 a1.f4 g0.2.1
 repeat' first
  |with_reducible assumption
  |(conv=>whnf);first
   |refine wE ‹_› ?_ (λ_=>rfl) ?_
   |apply bD<;>intro h
   |apply bJ<;>intro h
   |apply bN<;>intro h
   |apply br<;>intro h
   |refine ⟨(by kernel_rfl:drawW _ _ _=true),?_⟩
   |refine wC (unp (w2006 a0.d ?_) (unC (unA a0.un) unI)) λz2006 h6=>?_
   |refine wC (w2007 a1 ?_) λz2007 h7=>?_
   |refine wC w2008 λz2008 h8=>?_
   |(refine wC (w2010 a0 ({a1 with f2:=2}:S2037) rb hW ?_ ?_ ?_ ?_) λz2010 hq=>?_;rotate_left 4;obtain ⟨z1,zl⟩:=z2010;have e:a0=z1:=hq.1.symm;subst e;have hq1:zl.length<=1:=hq.2.1;have hq2:∀o∈zl,OutP rb a1.f0 o:=hq.2.2)
   |(refine wC (w2010 a0 ({a1 with f2:=3}:S2037) rb hW ?_ ?_ ?_ ?_) λz2010 hq=>?_;rotate_left 4;obtain ⟨z1,zl⟩:=z2010;have e:a0=z1:=hq.1.symm;subst e;have hq1:zl.length<=1:=hq.2.1;have hq2:∀o∈zl,OutP rb a1.f0 o:=hq.2.2)
   |(refine wC hW λz2019 hz=>?_;have e:=hz.symm;subst e)
   |refine wC (unp (w2018 a0.d ?_) (unC (unA a0.un) (unC (unA a0.un) unI))) λz2018 h18=>?_
   |refine wG (l:=zl) ?_ ?_ (λ_=>rfl) λo ho hmo=>?_
   |refine wG (l:=o.es) ?_ ?_ (λ_=>rfl) λp hp hmp=>?_
   |refine lM ?_
   |refine wC (out_may (hq2 _ hmo) ‹_›) λz2020 h20=>?_
   |refine w2021q (hq2 _ hmo) hmp λe he hoW=>?_
   |(refine wC hoW λz51 h51=>?_;have e51:=h51.symm;subst e51)
   |refine ⟨_,_,deep0 (leafs1 rfl),?_⟩
   |refine wC (unp (w2022 [p.d] ?_ ?_) (unC (unL (l:=[p]) (π:=EP.d) rfl EP.un') (unC (unL (l:=[p]) (π:=EP.d) rfl EP.un') unI))) λz2022 h22=>?_
   |refine V2 (λ(i:Int) (k:Int)=>0<=i/\i<=(zl.length:Int)) (λi k=>[(4,.box 0 0),(8,.lst (zl.map PP.c)),(9,.box 1 0),(11,sI i)]) (λi k=>⟨[(0,.box (S2037.c ({a1 with f2:=k}:S2037)) false),(1,.box rb.1.c false)],2⟩) (λi k=>((zl.length:Int)-i).toNat) (0:Int) (2:Int) ?_ (ft [(0,some 1),(1,some 3)] rfl rfl rfl ⟨fB rfl rfl rfl,fB rfl rfl rfl,trivial⟩) λi k ⟨i0,i1⟩=>?_
   |refine V2 (λ(i:Int) (k:Int)=>0<=i/\i<=(zl.length:Int)) (λi k=>[(4,.box 0 0),(8,.lst (zl.map PP.c)),(9,.box 1 0),(11,sI i)]) (λi k=>⟨[(0,.box (S2037.c ({a1 with f2:=k}:S2037)) false),(1,.box rb.1.c false)],2⟩) (λi k=>((zl.length:Int)-i).toNat) (0:Int) (3:Int) ?_ (ft [(0,some 1),(1,some 3)] rfl rfl rfl ⟨fB rfl rfl rfl,fB rfl rfl rfl,trivial⟩) λi k ⟨i0,i1⟩=>?_
   |refine V2 (λ(j:Int) (k2:Int)=>0<=j/\j<=(o.es.length:Int)) (λj k2=>[(4,.box 0 0),(8,.lst (zl.map PP.c)),(9,.box 1 0),(11,sI i),(12,sI j)]) (λj k2=>⟨[(0,.box (S2037.c ({a1 with f2:=k2}:S2037)) false),(1,.box rb.1.c false)],2⟩) (λj k2=>((o.es.length:Int)-j).toNat) (0:Int) k ?_ (ft [(0,some 0),(1,some 1)] rfl rfl rfl ⟨fB rfl rfl rfl,fB rfl rfl rfl,trivial⟩) λj k2 ⟨j0,j1⟩=>?_
   |refine ⟨⟨nx _,_⟩,?_,?_,(ft [(0,some 0),(1,some 1)] rfl rfl rfl ⟨fB rfl rfl rfl,fB rfl rfl rfl,trivial⟩)⟩
   |refine ⟨_,rfl,?_⟩
  |exact λh=>room_ok (h6 ‹z2006=true›) (hb h).1
  |(have q:=h7 ‹z2007=true›;omega)
  |exact .inl rfl
  |exact .inr rfl
  |exact absurd (out_ok (hq2 _ hmo) ‹_›) (ne_true ‹rb.2=false›)
  |exact all_one he.k
  |(have q:=out_len (hq2 _ hmo);first | omega | (simp (disch:=omega) only [ls]<;>omega))
  |(have q:=g1.2.2.2.2.2;omega)
  |exact absurd h18 (ne_true ‹z2018=false›)
  |exact absurd h22 (ne_true ‹z2022=false›)
  |dsimp only
  |(rw [h];decide)
end Go.Abs.RM
