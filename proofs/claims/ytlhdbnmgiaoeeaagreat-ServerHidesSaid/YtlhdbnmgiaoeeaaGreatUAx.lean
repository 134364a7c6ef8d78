/- Of ServerHides: walks. -/
import Derived.Test.YtlhdbnmgiaoeeaaGreatUAp
import Derived.Test.YtlhdbnmgiaoeeaaGreatUAw
set_option linter.all false
namespace Go.Abs.RM
open Go.Proofs Go.Proofs.RMH
set_option maxRecDepth 100000
set_option maxHeartbeats 40000000
theorem w76 (a0:List S65) (a1:List S71) (g0:a0.length<=12) (g1:a1.length<=1000000):WQv 413 [lE a0,.lst (a1.map S71.c)] lE (λr=>r.length<=a1.length/\∀x∈r,x∈a0):=by
 refine gO Tryz.func413 ?_
 have hn1:([]:List S65).length=0:=rfl
 repeat' first
  |with_reducible assumption
  |(conv=>whnf);first
   |apply bD<;>intro h
   |apply br<;>intro h
   |refine V2 (λ(p0:List S65) (p1:Int)=>0<=p1/\p1<=(a1.length:Int)/\(p0.length:Int)<=p1/\(∀x∈p0,x∈a0)) (λ_ p1=>[(0,lE a0),(1,.lst (a1.map S71.c)),(5,.row 0),(6,sI p1)]) (λp0 _=>⟨[(0,.row (p0.map S65.c) 29 false 0)],1⟩) (λ_ p1=>((a1.length:Int)+1-p1).toNat) ([]:List S65) (0:Int) ?_ (fR1 0 rfl rfl rfl λ_=>rfl) λp0 p1 ⟨i0,i1,i3,i4⟩=>?_
   |refine lM ?_
   |refine wG ?_ ?_ (λ_=>rfl) λx hx hm=>?_
   |refine wC (w56 _ _ ?_) λz56 hg=>?_
   |refine wA (f:=S65.c) (m:=[_]) rfl (λ_=>⟨rfl,rfl⟩) ?_ ?_ ?_
   |refine ⟨⟨_,nx _⟩,?_,?_,(fR1 3 rfl rfl rfl λ_=>rfl)⟩
   |refine ⟨⟨_,nx _⟩,?_,?_,(fR1 0 rfl rfl rfl λ_=>rfl)⟩
   |refine ⟨_,_,deep0 (leafs_map (f:=S65.c) (λ_=>rfl) _),?_⟩
   |refine ⟨_,rfl,?_⟩
  |omega
  |dsimp only
  |exact ⟨by omega,i4⟩
  |exact all_snoc i4 (hg.mem h).1
  |exact λx hx=>absurd hx List.not_mem_nil
  |with_reducible apply And.intro
  |(simp (disch:=omega) only [ls]<;>omega)
theorem w88 (a0:List S65) (a1:S65) (g0:a0.length<=12) (g1:EB a1):WQv 210 [lE a0,aE a1] sB (λr=>True):=by
 refine gO Tryz.func210 ?_
 repeat' first
  |(conv=>whnf);first
   |apply bI<;>intro h
   |refine wC (w17 _ _ ?_ ?_) λz17 hz=>?_
   |refine lM ?_
   |refine ⟨false,rfl,?_⟩
   |refine ⟨_,rfl,?_⟩
  |omega
  |exact True.intro
  |(have:=g1.2.2.2.1;omega)
  |(have:=g1.2.2.2.2.1;omega)
theorem w2341 (a0:List ByteArray) (a1:ByteArray) (g0:a0.length<=1000) (g1:∀x∈a0,x.size<=1000) (g2:a1.size<=1000):WQv 341 [.lst (a0.map cStr),sS a1] sI (λr=>True):=by
 refine gO Tryz.func341 ?_
 repeat' first
  |with_reducible assumption
  |(conv=>whnf);first
   |apply bD<;>intro h
   |apply br<;>intro h
   |refine lM ?_
   |refine V1 (λ(p0:Int)=>0<=p0/\p0<=(a0.length:Int)) (λp0=>[(1,sS a1),(7,.lst (a0.map cStr)),(8,sI (a0.length:Int)),(9,sI p0)]) (λ_=>⟨[],0⟩) (λp0=>((a0.length:Int)+1-p0).toNat) (0:Int) ?_ (fN rfl rfl) λp0 ⟨i0,i1⟩=>?_
   |refine wG ?_ ?_ (λ_=>rfl) λx hx hm=>?_
   |refine wC (w133 _ _ ?_ ?_) λz133 hz=>?_
   |refine ⟨nx _,?_,?_,(fN rfl rfl)⟩
   |refine ⟨_,rfl,?_⟩
  |omega
  |dsimp only
  |exact g1 _ hm
  |with_reducible apply And.intro
  |(simp (disch:=omega) only [ls]<;>omega)
theorem w47 (a0:S65) (g0:EK a0):WQv 50 [aE a0,aE a0] sB (λr=>r=true):=by
 refine gO Tryz.func50 ?_
 repeat' first
  |(conv=>whnf);first
   |apply bI<;>intro h
   |apply bS<;>intro h
   |apply br<;>intro h
   |refine wC (w45 _ ?_) λz45 hz=>?_
   |refine wC (w95e _ ?_ ?_ ?_ ?_) λz95 hz=>?_
   |refine ⟨false,rfl,?_⟩
   |refine ⟨_,rfl,?_⟩
  |omega
  |(unfold EK at g0;omega)
  |exact absurd rfl ‹_›
  |dsimp only
  |grind
theorem w2019p (s:SP) (id:ByteArray) (g0:s.d.f1.length<=9223372036854775807):∃b:RP×Bool,(b.2=true->b.1.d∈s.d.f1/\b.1.d.f0=id)/\RoomW s id b:=by
 exact pick (π:=λb:RP×Bool=>(b.1.d,b.2)) (w2019 s.d id g0) (.cons (.agg s.h) (.cons .sc .nil)) (exC (exA λ_ h=>s.eq h) (exC exS exN)) (pinT (g:=λa=>.agg (S30.c a)) (g':=λb:RP=>.agg b.c) (π:=RP.d) pinR)
theorem w32 (a0:ByteArray) (g0:(a0.size:Int)<=9223372036854775807):WQv 108 [sS a0] sI (λr=>r=0->a0.size<=80):=by
 refine gO Tryz.func108 ?_
 repeat' first
  |with_reducible assumption
  |(conv=>whnf);first
   |apply bN<;>intro h
   |refine wC (w77 _ (33:Int) ?_ ?_) λz77 hz=>?_
   |refine ⟨(3:Int),rfl,?_⟩
   |refine ⟨(0:Int),rfl,?_⟩
  |omega
  |dsimp only
  |intro hr
  |grind
theorem w347 (a0:ByteArray) (g0:(a0.size:Int)<=9223372036854775807):WQv 450 [sS a0] sI (λr=>r=0->a0.size<=80):=by
 refine gO Tryz.func450 ?_
 repeat' first
  |with_reducible assumption
  |(conv=>whnf);first
   |apply bN<;>intro h
   |refine wC (w77 _ (64:Int) ?_ ?_) λz77 hz=>?_
   |refine ⟨(3:Int),rfl,?_⟩
   |refine ⟨(0:Int),rfl,?_⟩
  |omega
  |dsimp only
  |intro hr
  |grind
theorem w435 (a0:List Int) (a1:List ByteArray) (g0:a0.length<=800000) (g1:a1.length<=100) (g2:∀x∈a1,x.size<=400):WQv 339 [.lst (a0.map c_u8),.lst (a1.map cStr)] (λr:List Int=>.lst (r.map c_u8)) (λr=>r.length<=a0.length+11+411*a1.length):=by
 refine gO Tryz.func339 ?_
 repeat' first
  |with_reducible assumption
  |(conv=>whnf);first
   |apply bD<;>intro h
   |refine lM ?_
   |refine wC (w363 _ _ ?_) λz363 hz=>?_
   |refine V2 (λ(p0:List Int) (p1:Int)=>0<=p1/\p1<=(a1.length:Int)/\(p0.length:Int)+411*((a1.length:Int)-p1)<=900000/\(∀r:List Int,((r.length:Int)<=(p0.length:Int)+411*((a1.length:Int)-p1))->r.length<=a0.length+11+411*a1.length)) (λp0 p1=>[(1,.lst (a1.map cStr)),(5,.lst (p0.map c_u8)),(6,sI p1)]) (λ_ _=>⟨[],0⟩) (λ_ p1=>((a1.length:Int)+1-p1).toNat) z363 (0:Int) ?_ (fN rfl rfl) λp0 p1 ⟨i0,i1,i3,hk⟩=>?_
   |refine wG ?_ ?_ (λ_=>rfl) λx hx hm=>?_
   |refine wC (w364 _ _ ?_ ?_) λz364 hq=>?_
   |refine ⟨⟨_,nx _⟩,?_,?_,(fN rfl rfl)⟩
   |refine ⟨_,rfl,?_⟩
  |omega
  |dsimp only
  |refine hk _ ?_
  |refine λr hr=>hk r ?_
  |with_reducible apply And.intro
  |(simp (disch:=omega) only [ls]<;>omega)
  |grind
theorem w28 (a0:ByteArray) (g0:(a0.size:Int)<=9223372036854775807):WQv 12 [sS a0] (λr:ByteArray=>sS r) (λr=>True):=by
 refine gO Tryz.func12 ?_
 repeat' first
  |with_reducible assumption
  |(conv=>whnf);first
   |apply bN<;>intro h
   |refine wC (w77 _ (64:Int) ?_ ?_) λz77 hA=>?_
   |refine wC (w77 _ (33:Int) ?_ ?_) λz77 hA=>?_
   |refine ⟨zS,rfl,?_⟩
   |refine wC (w78 _ ?_) λz78 hz=>?_
   |refine And.intro ?_ (And.intro ?_ ?_)
   |refine ⟨_,rfl,?_⟩
  |omega
  |exact True.intro
  |grind
theorem w34 (a0:List S65) (g0:a0.length<=12) (g1:∀e∈a0,EB e):WQv 110 [lE a0] sI (λr=>True):=by
 refine gO Tryz.func110 ?_
 repeat' first
  |with_reducible assumption
  |(conv=>whnf);first
   |apply bN<;>intro h
   |apply bD<;>intro h
   |refine wC (w81 _ ?_ ?_) λz81 hz=>?_
   |refine V1 (λ(p0:Int)=>0<=p0/\p0<=(a0.length:Int)) (λp0=>[(0,lE a0),(3,sI p0)]) (λ_=>⟨[],0⟩) (λp0=>((a0.length:Int)+1-p0).toNat) (0:Int) ?_ (fN rfl rfl) λp0 ⟨i0,i1⟩=>?_
   |refine lM ?_
   |refine wG ?_ ?_ (λ_=>rfl) λx hx hm=>?_
   |refine wC (w82 _ _ ?_ ?_) λz82 hz=>?_
   |refine ⟨nx _,?_,?_,(fN rfl rfl)⟩
   |refine ⟨(14:Int),rfl,?_⟩
   |refine ⟨(15:Int),rfl,?_⟩
   |refine ⟨(0:Int),rfl,?_⟩
  |omega
  |exact g1 _ hm
  |with_reducible apply And.intro
  |(simp (disch:=omega) only [ls]<;>omega)
theorem w58 (a0:List Int) (a1:List Int) (g0:a0.length+a1.length<=900000000):WQv 472 [lI a0,lI a1] lI (λr=>(∀x,x∈r↔x∈a0\/x∈a1)/\r.Nodup/\r.length<=a0.length+a1.length):=by
 refine gO Tryz.func472 ?_
 repeat' first
  |with_reducible assumption
  |(conv=>whnf);first
   |apply bD<;>intro h
   |refine wC (w110 _ ?_) λz110 hz=>?_
   |refine V2 (λ(p0:List Int) (p1:Int)=>0<=p1/\p1<=(a1.length:Int)/\p0.Nodup/\(p0.length:Int)+((a1.length:Int)-p1)<=900000000/\(∀r:List Int,((∀x,x∈r↔x∈p0\/x∈a1.drop p1.toNat)/\r.Nodup)->(∀x,x∈r↔x∈a0\/x∈a1)/\r.Nodup/\r.length<=a0.length+a1.length)) (λp0 p1=>[(1,lI a1),(5,lI p0),(6,sI p1)]) (λ_ _=>⟨[],0⟩) (λ_ p1=>((a1.length:Int)+1-p1).toNat) z110 (0:Int) ?_ (fN rfl rfl) λp0 p1 ⟨i0,i1,i3,i4,hk⟩=>?_
   |refine lM ?_
   |refine wG ?_ ?_ (λ_=>rfl) λx hx hm=>?_
   |refine wC (w118 _ _ ?_) λz118 hz=>?_
   |refine ⟨⟨_,nx _⟩,?_,?_,(fN rfl rfl)⟩
   |refine ⟨_,rfl,?_⟩
  |omega
  |(have:=nodup_le (m:=a0++a1) hr.2 (by grind);grind)
  |dsimp only
  |refine hk _ ?_
  |refine λr hr=>hk r ?_
  |exact hz.2.1 i3
  |(rw [drop_cons (by omega) hx (by omega)];exact ⟨λx=>((hr.1 x).trans (or_congr (hz.1 x) Iff.rfl)).trans ⟨λh=>h.elim (λh=>h.elim Or.inl λe=>Or.inr (List.mem_cons.2 (Or.inl e))) λh=>Or.inr (List.mem_cons_of_mem _ h),λh=>h.elim (λh=>Or.inl (Or.inl h)) λh=>(List.mem_cons.1 h).elim (λe=>Or.inl (Or.inr e)) Or.inr⟩,hr.2⟩)
  |(rw [drop_end h];exact ⟨λx=>⟨Or.inl,λh=>h.elim id λh=>(by cases h)⟩,i3⟩)
  |exact hz.2.1
  |have:=hz.2.2;first | omega | assumption | (simp (disch:=omega) only [ls]<;>omega)
  |with_reducible apply And.intro
  |intro hr
theorem w53 (a0:List Int) (a1:List Int) (g0:a0.length<=900000000) (g1:a1.length<=1000000000):WQv 424 [lI a0,lI a1] lI (λr=>(∀x,x∈r↔x∈a0/\x∉a1)/\r.Nodup/\r.length<=a0.length):=by
 refine gO Tryz.func424 ?_
 repeat' first
  |with_reducible assumption
  |(conv=>whnf);first
   |apply bD<;>intro h
   |apply bN<;>intro h
   |refine wC (w110 _ ?_) λz110 hz=>?_
   |refine V2 (λ(p0:List Int) (p1:Int)=>0<=p1/\p1<=(z110.length:Int)/\(p0.length:Int)<=p1/\p0.Nodup/\(∀x∈p0,x∉z110.drop p1.toNat)/\(∀r:List Int,((∀x,x∈r↔x∈p0\/(x∈z110.drop p1.toNat/\x∉a1))/\r.Nodup/\r.length<=z110.length)->(∀x,x∈r↔x∈a0/\x∉a1)/\r.Nodup/\r.length<=a0.length)) (λ_ p1=>[(1,lI a1),(5,lI z110),(6,.row 0),(7,sI p1)]) (λp0 _=>⟨[(0,.row (p0.map c_i64) 1 false 0)],1⟩) (λ_ p1=>((z110.length:Int)+1-p1).toNat) ([]:List Int) (0:Int) ?_ (fR1 0 rfl rfl rfl λ_=>rfl) λp0 p1 ⟨i0,i1,i3,i4,i5,hk⟩=>?_
   |refine lM ?_
   |refine wE ‹_› ?_ (λ_=>rfl) ?_
   |refine wG ?_ ?_ (λ_=>rfl) λx hx hm=>?_
   |refine wC (w16 _ _ ?_) λz16 hz=>?_
   |refine wA (f:=c_i64) (m:=[_]) rfl (λ_=>⟨rfl,rfl⟩) ?_ ?_ ?_
   |refine ⟨⟨_,nx _⟩,?_,?_,(fR1 2 rfl rfl rfl λ_=>rfl)⟩
   |refine ⟨⟨_,nx _⟩,?_,?_,(fR1 0 rfl rfl rfl λ_=>rfl)⟩
   |refine ⟨_,_,deep0 (leafs_map (f:=c_i64) (λ_=>rfl) _),?_⟩
   |refine ⟨_,rfl,?_⟩
  |omega
  |(obtain ⟨_,g2,_⟩:=‹_/\z110.Nodup/\_›;first | exact (minus_in g2 i0 hx (by omega) i4 i5).1 | exact (minus_in g2 i0 hx (by omega) i4 i5).2)
  |dsimp only
  |refine hk _ ?_
  |refine λr hr=>hk r ?_
  |exact minus_hit i0 hx (by omega) (λe=>h.symm.trans (hz.2 e) |> λe=>Bool.noConfusion e) hr
  |exact minus_out i0 hx (by omega) i5
  |exact minus_miss i0 hx (by omega) (hz.1 h) hr
  |(rw [drop_end h];exact ⟨λx=>⟨Or.inl,λh=>h.elim id λh=>(by cases h.1)⟩,i4,by omega⟩)
  |exact List.nodup_nil
  |exact λx hx=>absurd hx List.not_mem_nil
  |exact ⟨λx=>(hr.1 x).trans ⟨λh=>h.elim (λh=>(by cases h)) λh=>⟨(hz.1 x).1 h.1,h.2⟩,λh=>Or.inr ⟨(hz.1 x).2 h.1,h.2⟩⟩,hr.2.1,Nat.le_trans hr.2.2 hz.2.2⟩
  |have:=hz.2.2;first | omega | assumption | (simp (disch:=omega) only [ls]<;>omega)
  |with_reducible apply And.intro
  |(simp (disch:=omega) only [ls]<;>omega)
  |intro hr
theorem w256 (a0:List S65) (a1:S65) (g0:a0.length<=12) (g1:a1.f9.length<=8):WQv 412 [lE a0,aE a1] lE (λr=>r.length<=40/\∀x∈r,x∈a0):=by
 refine gO Tryz.func412 ?_
 have hn1:([]:List S65).length=0:=rfl
 repeat' first
  |with_reducible assumption
  |(conv=>whnf);first
   |apply bD<;>intro h
   |apply bN<;>intro h
   |apply bS<;>intro h
   |refine wC (w367 _) λz367 hz=>?_
   |refine wC (w112 _ _ ?_ ?_) λz112 h112=>?_
   |refine V2 (λ(p0:List S65) (p1:Int)=>0<=p1/\p1<=(z367.length:Int)/\(p0.length:Int)<=8*p1/\(∀x∈p0,x∈z112)/\(∀r:List S65,(r.length<=40/\∀x∈r,x∈z112)->r.length<=40/\∀x∈r,x∈a0)) (λ_ p1=>[(5,.lst (z367.map S71.c)),(6,lE z112),(7,.row 0),(8,sI p1)]) (λp0 _=>⟨[(0,.row (p0.map S65.c) 29 false 0)],1⟩) (λ_ p1=>((z367.length:Int)+20+1-p1).toNat) [] (0:Int) ?_ (ft [(0,none)] rfl rfl rfl ⟨fitO_nil rfl rfl,trivial⟩) λp0 p1 ⟨i0,i1,i3,i4,hk⟩=>?_
   |refine lM ?_
   |refine V3 (λ(q0:List S65) (q1:Bool) (q2:Int)=>0<=q2/\q2<=(z112.length:Int)/\(q0.length:Int)<=8*p1+q2/\(∀x∈q0,x∈z112)) (λ_ q1 q2=>[(5,.lst (z367.map S71.c)),(6,lE z112),(7,.row 0),(8,sI p1),(9,sB q1),(10,sI q2)]) (λq0 _ _=>⟨[(0,.row (q0.map S65.c) 29 false 0)],1⟩) (λ_ _ q2=>((z112.length:Int)+1-q2).toNat) p0 false (0:Int) ?_ (fR1 0 rfl rfl rfl λ_=>rfl) λq0 q1 q2 ⟨i0,i1,i3,i4⟩=>?_
   |refine wE ‹_› ?_ (λ_=>rfl) ?_
   |refine wG ?_ ?_ (λ_=>rfl) λx hx hm=>?_
   |refine ⟨by kernel_rfl,?_⟩
   |refine wA (f:=S65.c) (m:=[_]) rfl (λ_=>⟨rfl,rfl⟩) ?_ ?_ ?_
   |refine ⟨⟨_,_,nx _⟩,?_,?_,(fR1 2 rfl rfl rfl λ_=>rfl)⟩
   |refine ⟨⟨_,_,nx _⟩,?_,?_,(fR1 0 rfl rfl rfl λ_=>rfl)⟩
   |refine ⟨⟨_,nx _⟩,?_,?_,(fR1 0 rfl rfl rfl λ_=>rfl)⟩
   |refine ⟨_,_,deep0 (leafs_map (f:=S65.c) (λ_=>rfl) _),?_⟩
   |refine ⟨_,rfl,?_⟩
  |omega
  |dsimp only
  |refine hk _ ?_
  |exact ⟨by omega,i4⟩
  |exact λx hx=>absurd hx List.not_mem_nil
  |exact ⟨hr.1,λx hx=>h112.2 x (hr.2 x hx)⟩
  |with_reducible apply And.intro
  |(simp (disch:=omega) only [ls]<;>omega)
  |intro hr
  |grind
theorem w326 (a0:S65) (a1:List S65) (g0:a1.length<=1000000) (g1:∀e∈a1,EB e):WQv 468 [aE a0,lE a1] sI (λr=>True):=by
 refine gO Tryz.func468 ?_
 repeat' first
  |with_reducible assumption
  |(conv=>whnf);first
   |apply bS<;>intro h
   |apply bI<;>intro h
   |apply bN<;>intro h
   |apply br<;>intro h
   |refine wC (w415 _ _ ?_) λz415 hz=>?_
   |refine wC (w139 _ _ ?_) λz139 hz=>?_
   |refine wC (w416 _ _ _) λz416 hz=>?_
   |refine wC (w417 _ _ _ ?_ ?_) λz417 hz=>?_
   |refine wC (w418 _ _ _ ?_ ?_) λz418 hz=>?_
   |refine ⟨(0:Int),rfl,?_⟩
   |refine ⟨(19:Int),rfl,?_⟩
   |refine ⟨(18:Int),rfl,?_⟩
   |refine ⟨_,rfl,?_⟩
theorem w327 (a0:S65) (a1:List S65) (g0:EB a0) (g1:a1.length<=1000000) (g2:∀e∈a1,EB e):WQv 470 [aE a0,lE a1] sI (λr=>True):=by
 refine gO Tryz.func470 ?_
 repeat' first
  |with_reducible assumption
  |(conv=>whnf);first
   |apply bD<;>intro h
   |refine wC (w321 _ ?_ ?_) λz321 h321=>?_
   |refine wC (w322 _ _ ?_) λz322 hz=>?_
   |refine wC (w419 _ _ ?_) λz419 hz=>?_
   |refine ⟨by kernel_rfl,?_⟩
   |refine wC (w420 _ _ _ ?_ ?_ ?_ ?_) λz420 hz=>?_
   |refine ⟨(20:Int),rfl,?_⟩
   |refine ⟨_,rfl,?_⟩
  |omega
  |exact g0.2.2.2.2.2.2.2.2.2.2.1
  |exact g0.2.2.2.2.2.2.2.2.2.1
theorem w376 (a0:List S65) (a1:List S71) (a2:S65) (g0:a0.length<=12) (g1:a1.length<=1000000) (g2:a2.f9.length<=8):WQv 479 [lE a0,.lst (a1.map S71.c),aE a2] lE (λr=>r.length<=5/\∀x∈r,x∈a0):=by
 refine gO Tryz.func479 ?_
 have hn1:([]:List S65).length=0:=rfl
 repeat' first
  |with_reducible assumption
  |(conv=>whnf);first
   |apply bD<;>intro h
   |apply br<;>intro h
   |refine wC (w367 _) λz367 hz=>?_
   |refine wC (w112 _ _ ?_ ?_) λz112 h112=>?_
   |refine V2 (λ(p0:List S65) (p1:Int)=>0<=p1/\p1<=(z367.length:Int)/\(p0.length:Int)<=p1/\(∀x∈p0,x∈a0)) (λ_ p1=>[(0,lE a0),(1,.lst (a1.map S71.c)),(7,.lst (z367.map S71.c)),(8,lE z112),(9,.row 0),(10,sI p1)]) (λp0 _=>⟨[(0,.row (p0.map S65.c) 29 false 0)],1⟩) (λ_ p1=>((z367.length:Int)+1-p1).toNat) [] (0:Int) ?_ (ft [(0,none)] rfl rfl rfl ⟨fitO_nil rfl rfl,trivial⟩) λp0 p1 ⟨i0,i1,i3,i4⟩=>?_
   |refine lM ?_
   |refine wE ‹_› ?_ (λ_=>rfl) ?_
   |refine wG ?_ ?_ (λ_=>rfl) λx hx hm=>?_
   |refine wC (w263 _ _ _ ?_) λz263 hz=>?_
   |refine ⟨by kernel_rfl,?_⟩
   |refine wC (w444 _ _ _ ?_) λz444 h444=>?_
   |refine wC (w56 _ _ ?_) λz56 hg=>?_
   |refine wA (f:=S65.c) (m:=[_]) rfl (λ_=>⟨rfl,rfl⟩) ?_ ?_ ?_
   |refine ⟨⟨_,nx _⟩,?_,?_,(fR1 3 rfl rfl rfl λ_=>rfl)⟩
   |refine ⟨⟨_,nx _⟩,?_,?_,(fR1 0 rfl rfl rfl λ_=>rfl)⟩
   |refine ⟨_,_,deep0 (leafs_map (f:=S65.c) (λ_=>rfl) _),?_⟩
   |refine ⟨_,rfl,?_⟩
  |omega
  |dsimp only
  |exact ⟨by omega,i4⟩
  |exact all_snoc i4 (hg.mem h).1
  |exact λx hx=>absurd hx List.not_mem_nil
  |with_reducible apply And.intro
  |(simp (disch:=omega) only [ls]<;>omega)
  |intro hr
  |grind
theorem w264 (a0:List S65) (a1:Int) (g0:a0.length<=12) (g1:∀e∈a0,EB e):WQv 422 [lE a0,sI a1] lI (λr=>r.length<=12):=by
 refine gO Tryz.func422 ?_
 have hn:([]:List Int).length=0:=rfl
 repeat' first
  |with_reducible assumption
  |(conv=>whnf);first
   |apply bD<;>intro h
   |apply bN<;>intro h
   |apply br<;>intro h
   |refine V3 (λ(p0:List Int) (p1:Int) (p2:Int)=>0<=p2/\p2<=(a0.length:Int)/\(p0.length:Int)<=p2) (λ_ p1 p2=>[(0,lE a0),(5,.row 0),(6,sI p1),(7,sI p2)]) (λp0 _ _=>⟨[(0,.row (p0.map c_i64) 1 false 0)],1⟩) (λ_ _ p2=>((a0.length:Int)+1-p2).toNat) ([]:List Int) a1 (0:Int) ?_ (fR1 0 rfl rfl rfl λ_=>rfl) λp0 p1 p2 ⟨i0,i1,i3⟩=>?_
   |refine lM ?_
   |refine wC (w56 _ _ ?_) λz56 hg=>?_
   |refine ⟨_,_,deep0 (leafs_map (f:=c_i64) (λ_=>rfl) _),?_⟩
   |refine wC (w16 _ _ ?_) λz16 hz=>?_
   |refine wA (f:=c_i64) (m:=[_]) rfl (λ_=>⟨rfl,rfl⟩) ?_ ?_ ?_
   |refine wC (w377 _ _ ?_ ?_) λz377 hz=>?_
   |refine ⟨⟨_,_,nx _⟩,?_,?_,(fR1 3 rfl rfl rfl λ_=>rfl)⟩
   |refine ⟨_,rfl,?_⟩
  |omega
  |dsimp only
  |exact (hg.eb g1).2.2.2.2.1
  |with_reducible apply And.intro
  |(simp (disch:=omega) only [ls]<;>omega)
theorem w255 (a0:List S65) (a1:S65) (g0:a0.length<=12) (g1:a1.f9.length<=8):WQv 410 [lE a0,aE a1] sI (λr=>True):=by
 refine gO Tryz.func410 ?_
 repeat' first
  |with_reducible assumption
  |(conv=>whnf);first
   |apply bD<;>intro h
   |apply bN<;>intro h
   |apply br<;>intro h
   |refine V1 (λ(p0:Int)=>0<=p0/\p0<=(a1.f9.length:Int)) (λp0=>[(0,lE a0),(3,.box 0 0),(5,sI p0)]) (λ_=>⟨[(0,.box (S65.c a1) false)],1⟩) (λp0=>((a1.f9.length:Int)+1-p0).toNat) (0:Int) ?_ (fB1 rfl rfl rfl rfl) λp0 ⟨i0,i1⟩=>?_
   |refine lM ?_
   |refine wE ‹_› ?_ (λ_=>rfl) ?_
   |refine wG ?_ ?_ (λ_=>rfl) λx hx hm=>?_
   |refine wC (w56 _ _ ?_) λz56 hz=>?_
   |refine ⟨nx _,?_,?_,(fB1 rfl rfl rfl rfl)⟩
   |refine wC (w112 _ _ ?_ ?_) λz112 h112=>?_
   |refine V1 (λ(q0:Int)=>0<=q0/\q0<=(z112.length:Int)) (λq0=>[(3,.box 0 0),(8,lE z112),(9,sI q0)]) (λ_=>⟨[(0,.box (S65.c a1) false)],1⟩) (λq0=>((z112.length:Int)+1-q0).toNat) (0:Int) ?_ (fB1 rfl rfl rfl rfl) λq0 ⟨i0,i1⟩=>?_
   |refine ⟨by kernel_rfl,?_⟩
   |refine wC (w367 _) λz367 hz=>?_
   |refine V2 (λ(v0:List S71) (v1:Int)=>0<=v1/\v1<=(z112.length:Int)/\(v0.length:Int)<=v1) (λ_ v1=>[(3,.box 0 0),(8,lE z112),(10,.lst (z367.map S71.c)),(11,.row 1),(12,sI v1)]) (λv0 _=>⟨[(0,.box (S65.c a1) false),(1,.row (v0.map S71.c) 3 false 1)],2⟩) (λ_ v1=>((z112.length:Int)+1-v1).toNat) [] (0:Int) ?_ (ft [(0,some 0),(1,none)] rfl rfl rfl ⟨fB rfl rfl rfl,fitO_nil rfl rfl,trivial⟩) λv0 v1 ⟨i0,i1,i3⟩=>?_
   |refine wC (w368 _ _ _ ?_) λz368 hz=>?_
   |refine ⟨_,_,deep0 (leafs_map (f:=S71.c) (λ_=>rfl) _),?_⟩
   |refine wA (f:=S71.c) (m:=[⟨_,_,(0:Int)⟩]) rfl (λ_=>⟨rfl,rfl⟩) ?_ ?_ ?_
   |refine ⟨⟨_,nx _⟩,?_,?_,(ft [(0,some 0),(1,some 3)] rfl rfl rfl ⟨fB rfl rfl rfl,fR rfl rfl λ_=>rfl,trivial⟩)⟩
   |refine ⟨(14:Int),rfl,?_⟩
   |refine ⟨(13:Int),rfl,?_⟩
   |refine ⟨(16:Int),rfl,?_⟩
   |refine ⟨(0:Int),rfl,?_⟩
  |omega
  |exact True.intro
  |dsimp only
  |with_reducible apply And.intro
  |(simp (disch:=omega) only [ls]<;>omega)
theorem w146 (a0:List S65) (a1:List Int) (g0:a0.length<=12) (g1:∀e∈a0,EB e) (g2:a1.length<=12):WQv 294 [lE a0,lI a1] lI (λr=>r.length<=12):=by
 refine gO Tryz.func294 ?_
 have hn:([]:List Int).length=0:=rfl
 repeat' first
  |with_reducible assumption
  |(conv=>whnf);first
   |apply bD<;>intro h
   |apply bJ<;>intro h
   |apply br<;>intro h
   |refine wC (w110 _ ?_) λz110 hz=>?_
   |refine V2 (λ(p0:List Int) (p1:Int)=>0<=p1/\p1<=(z110.length:Int)/\(p0.length:Int)<=p1) (λ_ p1=>[(0,lE a0),(5,lI z110),(6,.row 0),(7,sI p1)]) (λp0 _=>⟨[(0,.row (p0.map c_i64) 1 false 0)],1⟩) (λ_ p1=>((z110.length:Int)+20+1-p1).toNat) ([]:List Int) (0:Int) ?_ (fR1 0 rfl rfl rfl λ_=>rfl) λp0 p1 ⟨i0,i1,i3⟩=>?_
   |refine lM ?_
   |refine V2 (λ(q0:Bool) (q1:Int)=>0<=q1/\q1<=(z110.length:Int)) (λq0 q1=>[(0,lE a0),(5,lI z110),(6,.row 0),(7,sI p1),(8,sB q0),(9,sI q1)]) (λ_ _=>⟨[(0,.row (p0.map c_i64) 1 false 0)],1⟩) (λ_ q1=>((z110.length:Int)+1-q1).toNat) true (0:Int) ?_ (fR1 0 rfl rfl rfl λ_=>rfl) λq0 q1 ⟨i0,i1⟩=>?_
   |refine wG ?_ ?_ (λ_=>rfl) λx hx hm=>?_
   |refine wC (w56 _ _ ?_) λz56 hg=>?_
   |refine wC (w16 _ _ ?_) λz16 hz=>?_
   |refine ⟨by kernel_rfl,?_⟩
   |refine ⟨⟨_,nx _⟩,?_,?_,(fR1 0 rfl rfl rfl λ_=>rfl)⟩
   |refine wA (f:=c_i64) (m:=[_]) rfl (λ_=>⟨rfl,rfl⟩) ?_ ?_ ?_
   |refine ⟨⟨_,nx _⟩,?_,?_,(fR1 2 rfl rfl rfl λ_=>rfl)⟩
   |refine ⟨_,_,deep0 (leafs_map (f:=c_i64) (λ_=>rfl) _),?_⟩
   |refine ⟨_,rfl,?_⟩
  |omega
  |dsimp only
  |(have:=(hg.eb g1).2.2.2.1;omega)
  |with_reducible apply And.intro
  |(simp (disch:=omega) only [ls]<;>omega)
theorem w2030 (a0:ByteArray) (g0:(a0.size:Int)<=9223372036854775807):WQv 30 [sS a0] sI (λr=>r=0->a0.size<=1000):=by
 refine gO Tryz.func30 ?_
 repeat' first
  |with_reducible assumption
  |(conv=>whnf);first
   |apply bN<;>intro h
   |refine wC (w245 _ ?_) λz245 hz=>?_
   |refine ⟨(3:Int),rfl,?_⟩
   |refine ⟨(0:Int),rfl,?_⟩
  |omega
  |dsimp only
  |intro hr
  |grind
theorem w2269 (a0:List ByteArray) (a1:ByteArray) (g0:a0.length<=1000) (g1:∀x∈a0,x.size<=1000) (g2:a1.size<=1000):WQv 269 [.lst (a0.map cStr),sS a1] sB (λr=>True):=by
 refine gO Tryz.func269 ?_
 repeat' first
  |with_reducible assumption
  |(conv=>whnf);first
   |refine wC (w2341 _ _ ?_ ?_ ?_) λz2341 hz=>?_
   |refine ⟨_,rfl,?_⟩
theorem w2022 (a0:List S65) (g0:(a0.length:Int)<=9223372036854775807) (g1:∀e∈a0,EK e):WQv 22 [lE a0,lE a0] sB (λr=>r=true):=by
 refine gO Tryz.func22 ?_
 repeat' first
  |with_reducible assumption
  |(conv=>whnf);first
   |refine wE ‹_› ?_ (λ_=>rfl) ?_
   |apply bJ<;>intro h
   |apply bD<;>intro h
   |apply bN<;>intro h
   |refine lM ?_
   |refine ⟨false,rfl,?_⟩
   |refine V1 (λ(p0:Int)=>0<=p0/\p0<=(a0.length:Int)) (λp0=>[(0,lE a0),(1,lE a0),(5,sI p0)]) (λ_=>⟨[],0⟩) (λp0=>((a0.length:Int)+1-p0).toNat) (0:Int) ?_ (fN rfl rfl) λp0 ⟨i0,i1⟩=>?_
   |refine wG ?_ ?_ (λ_=>rfl) λx hx hm=>?_
   |refine wC (w47 _ ?_) λz47 hz=>?_
   |refine ⟨by kernel_rfl,?_⟩
   |refine ⟨nx _,?_,?_,(fN rfl rfl)⟩
   |refine ⟨true,rfl,?_⟩
  |omega
  |dsimp only
  |exact g1 _ hm
  |with_reducible apply And.intro
  |(simp (disch:=omega) only [ls]<;>omega)
  |grind
theorem w348 (a0:Int) (a1:ByteArray) (g0:(a1.size:Int)<=9223372036854775807):WQv 451 [sI a0,sS a1] sB (λr=>r=true->(a0=2\/a0=9)->a1.size<=80):=by
 refine gO Tryz.func451 ?_
 repeat' first
  |with_reducible assumption
  |(conv=>whnf);first
   |apply bI<;>intro h
   |apply bJ<;>intro h
   |apply bD<;>intro h
   |refine wC (w347 _ ?_) λz347 hz=>?_
   |refine ⟨true,rfl,?_⟩
   |refine ⟨false,rfl,?_⟩
   |refine V1 (λ(p0:Int)=>0<=p0/\p0<=(a1.size:Int)) (λp0=>[(1,sS a1),(5,sI p0)]) (λ_=>⟨[],0⟩) (λp0=>((a1.size:Int)+1-p0).toNat) (0:Int) ?_ (fN rfl rfl) λp0 ⟨i0,i1⟩=>?_
   |refine wS ?_ ?_ λx hb=>?_
   |refine ⟨nx _,?_,?_,(fN rfl rfl)⟩
   |refine ⟨_,rfl,?_⟩
  |omega
  |dsimp only
  |(intro hr;contradiction)
  |(intro hr;have:=hz (eq_of_beq hr);intros;omega)
  |with_reducible apply And.intro
  |(simp (disch:=omega) only [ls]<;>omega)
theorem w356 (a0:S61) (g0:(a0.f4.size:Int)<=9223372036854775807):WQv 459 [.agg (S61.c a0)] sI (λr=>r=0->a0.f4.size<=80):=by
 refine gO Tryz.func459 ?_
 repeat' first
  |with_reducible assumption
  |(conv=>whnf);first
   |apply bS<;>intro h
   |apply bJ<;>intro h
   |refine wC (w347 _ ?_) λz347 hz=>?_
   |refine ⟨(0:Int),rfl,?_⟩
   |refine ⟨(1:Int),rfl,?_⟩
   |refine ⟨_,rfl,?_⟩
  |omega
  |dsimp only
  |(rw [h];decide)
end Go.Abs.RM
