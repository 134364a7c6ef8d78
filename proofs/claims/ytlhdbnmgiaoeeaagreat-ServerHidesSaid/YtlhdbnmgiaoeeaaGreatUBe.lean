/- Of ServerHides: walks. -/
import Derived.Test.YtlhdbnmgiaoeeaaGreatUAz
import Derived.Test.YtlhdbnmgiaoeeaaGreatUBd
set_option linter.all false
namespace Go.Abs.RM
open Go.Proofs Go.Proofs.RMH
set_option maxRecDepth 100000
set_option maxHeartbeats 40000000
theorem w2553 (a0:SP) (a1:S2037) (rb:RP×Bool) (hW:RoomW a0 a1.f4 rb) (hr:rb.2=true->RB rb.1.d/\rb.1.d.f1.length<=10) (g0:a1.f0.size<=1000) (g1:a1.f6.length<=20):WQv 553 [.agg [],.agg a0.c,.agg (S2037.c a1)] (λr:SP×List PP=>.tup [.agg r.1.c,.lst (r.2.map PP.c)]) (λr=>r.1=a0/\r.2.length<=1/\∀o∈r.2,OutP rb a1.f0 o):=by
 refine gO Tryz.func553 ?_
 repeat' first
  |with_reducible assumption
  |(conv=>whnf);first
   |apply bD<;>intro h
   |apply bJ<;>intro h
   |apply bN<;>intro h
   |refine ⟨(by kernel_rfl:drawW _ _ _=true),?_⟩
   |(refine wC hW λz2019 hz=>?_;subst hz)
   |refine w2020q z2019.1 a1.f0 ?_ ?_ ?_ ?_ λz2020 hm=>?_
   |refine wC (unp (w2555 z2019.1.d _ ?_ ?_ ?_ ?_) (unC (unA z2019.1.un') unI)) λz2555 hz=>?_
   |refine wC (w2554 a0 a1 _) λz2554 hz=>?_
   |(refine wC (w2547 a0 a1) λz2547 hz=>?_;subst hz)
   |refine ⟨_,_,deep0 (leafs1 rfl),?_⟩
   |refine wC (w12p z2019.1 a1.f0 a1.f6 [] a1.f3 ?_ ?_ ?_ ?_ ?_ ?_) λz12 h12=>?_
   |refine wC (unp (w12p z2019.1 a1.f0 z2019.1.d.f4 a1.f6 a1.f3 ?_ ?_ ?_ ?_ ?_ ?_) (unC unE (unC unE (unC (unP z2019.1.p4) (unC unE (unC unE unI)))))) λz12 h12=>?_
   |refine ⟨(_,_),rfl,?_⟩
   |refine ⟨(a0,[⟨_,_,_,_,_,z12,_,_⟩]),rfl,?_⟩
  |exact ref_ok hz
  |exact ans_ok ‹_› (by omega) hm h12
  |(have q:=hr ‹_›;unfold RB at q;omega)
  |exact (hr ‹_›).1.2.1
  |(simp (disch:=omega) only [ls]<;>omega)
theorem w2010 (a0:SP) (a1:S2037) (rb:RP×Bool) (hW:RoomW a0 a1.f4 rb) (hr:rb.2=true->RB rb.1.d/\rb.1.d.f1.length<=10) (g1:a1.f6.length<=20) (g2:a1.f2=2\/a1.f2=3) (g3:(a1.f0.size:Int)<=9223372036854775807):WQv 10 [.agg a0.c,.agg (S2037.c a1)] (λr:SP×List PP=>.tup [.agg r.1.c,.lst (r.2.map PP.c)]) (λr=>r.1=a0/\r.2.length<=1/\∀o∈r.2,OutP rb a1.f0 o):=by
 refine gO Tryz.func10 ?_
 repeat' first
  |with_reducible assumption
  |(conv=>whnf);first
   |apply bJ<;>intro h
   |apply bS<;>intro h
   |apply bT'<;>intro h
   |apply br<;>intro h
   |refine ⟨(by kernel_rfl:drawW _ _ _=true),?_⟩
   |refine wC (w2030 _ ?_) λz2030 hz=>?_
   |refine wC (w2031 _ ?_) λz2031 hk=>?_
   |refine ⟨_,methP,?_⟩
   |refine wC (w2553 a0 a1 rb hW hr ?_ ?_) λz2553 hq=>?_
   |refine ⟨(_,_),rfl,?_⟩
   |refine ⟨(a0,[]),rfl,?_⟩
  |exact ⟨rfl,Nat.zero_le _,λo ho=>by cases ho⟩
  |omega
end Go.Abs.RM
