/- Of ServerHides: lemmas. -/
import Derived.Test.YtlhdbnmgiaoeeaaGreatUAf
set_option linter.all false
section
namespace Go.Abs
variable {P:Program} {tab:Tab} {R:Rn} {T:WT} {W:WH} {H:Heap} {Tc:TL} {o:Oper} {K:WK}
theorem opt_ok (rt:RelT R T Tc) {x:Option Operand} {v:Option WV} (h:optW T x=some v):(v=none/\optA (look Tc) x=some none)\/∃w y,v=some w/\WR R w y/\∀k i,w=.sc (.int k i)->optA (look Tc) x=some (some i):=by
 unfold optW at h
 cases x with
 |none=>cases h;exact .inl ⟨rfl,rfl⟩
 |some z=>
  obtain ⟨w,hw,rfl⟩:=map_some h
  obtain ⟨y,hy,hr⟩:=ev_ok rt hw
  refine .inr ⟨w,y,rfl,hr,λk i e=>?_⟩
  subst e
  obtain rfl:=hr.sc_inv
  simp [optA,hy,intOf]
theorem boundsW_ok (rt:RelT R T Tc) {lo hi:Option Operand} {l h:Option WV} {len cl:Nat} {cap:Option Nat} {X:Nat->Nat->Prop} (hl:optW T lo=some l) (hh:optW T hi=some h) (hcl:len<=cl) (hcap:∀c,cap=some c->len<=c)
 (hb:boundsW len l h X):∃a b l' h',optA (look Tc) lo=some l'/\optA (look Tc) hi=some h'/\a<=b/\b<=len/\boundsA len cl cap l' h' none=some (a,b,cap)/\X a b:=by
 have hiOk:∀{v:Int},0<=v->v<=len->hiA len cl cap false (some v)=some v.toNat:=λ{v} h0 h1=>by
  unfold hiA
  grind
 have loOk:∀{v:Int} {b:Nat},0<=v->v<=b->loA b (some v)=some v.toNat:=λ{v b} h0 h1=>by
  unfold loA
  simp only []
  rw [if_pos ⟨h0,h1⟩]
 unfold boundsW at hb
 split at hb
 ·rcases opt_ok rt hl with ⟨_,e1⟩ | ⟨_,_,e,_⟩
  ·rcases opt_ok rt hh with ⟨_,e2⟩ | ⟨_,_,e,_⟩
   ·exact ⟨0,len,none,none,e1,e2,Nat.zero_le _,Nat.le_refl _,by rfl,hb⟩
   ·cases e
  ·cases e
 ·rename_i k i
  obtain ⟨h0,h1,hb⟩:=hb
  rcases opt_ok rt hl with ⟨e,_⟩ | ⟨w,y,e,_,e1⟩
  ·cases e
  ·cases e
   rcases opt_ok rt hh with ⟨_,e2⟩ | ⟨_,_,e,_⟩
   ·exact ⟨i.toNat,len,some i,none,e1 _ _ rfl,e2,by omega,Nat.le_refl _,by simp [boundsA,mxA,hiA,loOk h0 h1],hb⟩
   ·cases e
 ·rename_i k i
  obtain ⟨h0,h1,hb⟩:=hb
  rcases opt_ok rt hl with ⟨_,e1⟩ | ⟨_,_,e,_⟩
  ·rcases opt_ok rt hh with ⟨e,_⟩ | ⟨w,y,e,_,e2⟩
   ·cases e
   ·cases e
    exact ⟨0,i.toNat,none,some i,e1,e2 _ _ rfl,Nat.zero_le _,by omega,by simp [boundsA,mxA,hiOk h0 h1,loA],hb⟩
  ·cases e
 ·rename_i k i k' j
  obtain ⟨h0,h1,h2,hb⟩:=hb
  rcases opt_ok rt hl with ⟨e,_⟩ | ⟨w,y,e,_,e1⟩
  ·cases e
  ·cases e
   rcases opt_ok rt hh with ⟨e,_⟩ | ⟨w,y,e,_,e2⟩
   ·cases e
   ·cases e
    exact ⟨i.toNat,j.toNat,some i,some j,e1 _ _ rfl,e2 _ _ rfl,by omega,by omega,by simp [boundsA,mxA,hiOk (by omega:(0:Int)<=j) h2,loOk h0 (by omega:i<=j.toNat)],hb⟩
 grind
theorem prss_lens {es:List (List WV)} {xs:List (List AV)} {s:Nat} (h:PRss es xs) (hs:∀e∈es,e.length=s):xs.all (·.length==s)=true:=by
 replace h:=prss_all2.1 h
 induction h with
 |nil=>rfl
 |cons h _ ih=>
  simp only [List.all_cons,Bool.and_eq_true,beq_iff_eq]
  exact ⟨by rw [<-(prs_all2.1 h).length];grind,ih λe he=>hs e (by simp [he])⟩
theorem slice_sound (rt:RelT R T Tc) (rh:RelH R W H) {t:TypeId} {x:Operand} {lo hi mx:Option Operand} (ho:o.op=.slice t x lo hi mx) (h:sliceW tab T W K t x lo hi mx):Stepped P tab R W H Tc o K:=by
 have hp:isPlain o:=plain_op (λc hc=>by grind) (λx hc=>by grind)
 have e0:optA (look Tc) none=some none:=rfl
 unfold sliceW at h
 split at h
 ·rename_i d v l hh hd hv hl hhi
  obtain ⟨y,hy,hr⟩:=ev_ok rt hv
  unfold sliceV at h
  split at h
  ·rename_i s hk
   obtain rfl:=hr.sc_inv
   obtain ⟨a,b,l',h',e1,e2,e3,e4,e5,h⟩:=boundsW_ok rt hl hhi (cl:=s.size) (cap:=some s.size) (Nat.le_refl _) (λc e=>by grind) h
   refine step_quiet rh hp h (x:=.sc (.string (s.extract a b))) ?_ (.pure .sc)
   simp only [aop,ho,hd,hy,e1,e2,e0,sliceA,hk,e5]
  ·rename_i e es hk
   split at h
   ·rename_i de hde
    obtain ⟨hlen,h⟩:=h
    rcases hr.lst_inv with ⟨rfl,rfl⟩ | ⟨xs,c,rfl,hxs⟩
    ·obtain ⟨a,b,l',h',e1,e2,e3,e4,e5,zs,rfl,h⟩:=boundsW_ok rt hl hhi (cl:=0) (cap:=some 0) (Nat.le_refl _) (λc e=>by omega) h
     refine step_quiet rh hp h (x:=.sc (.slice none 0 0)) ?_ ?_
     ·simp only [aop,ho,hd,hy,e1,e2,e0,sliceA,hk,hde]
      have e5:boundsA 0 0 (some 0) l' h' none=some (a,b,some 0):=e5
      rw [e5]
     grind
    ·have hl2:=(prss_all2.1 hxs).length
     obtain ⟨a,b,l',h',e1,e2,e3,e4,e5,zs,rfl,h⟩:=boundsW_ok rt hl hhi (cl:=es.length) (cap:=if c then some es.length else none) (Nat.le_refl _) (λc' e=>by
      grind) h
     refine step_quiet rh hp h (x:=.isl ((xs.drop a).take (b-a)) ((if c then some es.length else none)==some b)) ?_ (.pure (.lst ?_))
     ·simp only [aop,ho,hd,hy,e1,e2,e0,sliceA,hk,hde,<-hl2]
      rw [e5]
      simp only []
      rw [if_pos ⟨e4,prss_lens hxs hlen⟩]
     ·exact prss_all2.2 (((prss_all2.1 hxs).drop a).take (b-a))
   grind
  ·rename_i e n hk
   split at h
   ·rename_i de es s fz rt' hde hes
    obtain ⟨hb,hB⟩:=beq_of_bif h
    clear h
    have h:=hB
    clear hB
    obtain rfl:=Nat.eq_of_beq_eq_true hb
    obtain ⟨hal,hlen,hrow⟩:=rh.row_obj hes
    have hq:=hr.row_inv.2.2 hal
    have q1:=hr.row_inv.1
    rcases hrow with ⟨hav,rfl⟩ | ⟨g,cap,xs,fz',hav,hlook,hg,hxs,hcap,_⟩
    ·rw [hav] at hq
     subst hq
     obtain ⟨a,b,l',h',e1,e2,e3,e4,e5,len,hlen',h⟩:=boundsW_ok rt hl hhi (cl:=0) (cap:=some 0) (Nat.le_refl _) (λc e=>by omega) h
     subst hlen'
     refine step_read (rd:=[]) (x:=.sc (.slice none 0 0)) rh hp h ?_ (.win q1 λ_=>.inl ⟨by omega,.inl rfl⟩) (λ_ h=>by cases h)
     simp only [aop,ho,hd,hy,e1,e2,e0,sliceA,hk,hde,nilA]
     have e5:boundsA 0 0 (some 0) l' h' none=some (a,b,some 0):=e5
     rw [e5]
     rfl
    ·rw [hav] at hq
     subst hq
     have hge:es.length=g:=by rw [All2.length hxs,hg]
     have hh:hasO R n (.row es de.size fz rt'):=by intro e;rw [hav] at e;cases e
     have rdOk:∀m∈[R.ob n],∃n o,lk W.objs n=some o/\hasO R n o/\R.ob n=m/\(rootO n o∈([rt']:List Nat)\/rootO n o∈([]:List Nat)):=λm hm=>by
      simp only [List.mem_singleton] at hm
      subst hm
      exact ⟨n,_,hes,hh,rfl,.inl (by simp [rootO])⟩
     obtain ⟨a,b,l',h',e1,e2,e3,e4,e5,len,hlen',h⟩:=boundsW_ok rt hl hhi (cl:=g) (cap:=cap) (by omega) (λc e=>by
      grind) h
     subst hlen'
     rw [hge] at e4 e5
     rcases hcap with rfl | rfl
     ·by_cases hc:(a<g\/a<b\/a=0)/\0+b<=g
      ·refine step_read (rd:=[R.ob n]) (x:=.sl (R.ob n) g (0+a) (b-a) none) rh hp h ?_ (.win q1 λ_=>.inr ⟨g,none,none,0+a,hav,rfl,λ_=>Nat.zero_add a,by omega,(λh=>by cases h),λc e=>by cases e⟩) rdOk
       simp only [aop,ho,hd,hy,e1,e2,e0,sliceA,hk,hde,hlook]
       rw [if_pos ⟨hg,trivial⟩]
       simp only [Nat.sub_zero,e5]
       rw [if_pos hc]
       rfl
      ·have hab:a=b:=by omega
       refine step_read (rd:=[R.ob n]) (x:=.isl [] false) rh hp h ?_ (.win q1 λ_=>.inl ⟨by omega,.inr ⟨_,rfl,λh=>(by cases h)⟩⟩) rdOk
       simp only [aop,ho,hd,hy,e1,e2,e0,sliceA,hk,hde,hlook]
       rw [if_pos ⟨hg,trivial⟩]
       simp only [Nat.sub_zero,e5]
       rw [if_neg hc,if_pos hab]
       rfl
     ·refine step_read (rd:=[R.ob n]) (x:=.sl (R.ob n) g (if g=a then 0 else 0+a) (b-a) (some (g-a))) rh hp h ?_ (.win q1 λ_=>.inr ⟨g,some g,_,_,hav,rfl,λhne=>by grind,by split<;>omega,(λh=>by cases h),λc e=>by grind⟩) rdOk
      simp only [aop,ho,hd,hy,e1,e2,e0,sliceA,hk,hde,hlook]
      rw [if_pos ⟨hg,trivial⟩]
      simp only [Nat.sub_zero,e5]
      rw [if_pos (by omega)]
      rfl
   grind
  grind
 ·rename_i d v l hh m hd hv hl hhi
  split at h
  ·rename_i mv hmv
   obtain ⟨y,hy,hr⟩:=ev_ok rt hv
   unfold sliceM at h
   split at h
   ·rename_i e es k0 lv k mvv k2 m0 hk
    split at h
    ·rename_i de hde
     obtain ⟨hlen,h0,h1,h2,hm,zs,rfl,h⟩:=h
     subst hm
     have eL:optA (look Tc) lo=some (some lv):=by
      grind [opt_ok]
     have eH:optA (look Tc) hi=some (some m0):=by
      grind [opt_ok]
     have eM:optA (look Tc) (some m)=some (some m0):=by
      obtain ⟨w,hw,hwr⟩:=ev_ok rt hmv
      obtain rfl:=hwr.sc_inv
      simp [optA,hw,intOf]
     have eB:∀(n:Nat) (cap:Option Nat),(cap=none\/cap=some n)->m0<=n->boundsA n n cap (some lv) (some m0) (some m0)=some (lv.toNat,m0.toNat,some m0.toNat):=λn cap hcap hn=>by
      have e1:mxA n cap (some m0)=some (some m0.toNat):=by
       unfold mxA
       grind
      have e2:hiA n n (some m0.toNat) true (some m0)=some m0.toNat:=by
       unfold hiA
       simp only []
       rw [if_pos ⟨by omega,by omega⟩]
      have e3:loA m0.toNat (some lv)=some lv.toNat:=by
       unfold loA
       simp only []
       rw [if_pos ⟨h0,by omega⟩]
      simp only [boundsA,e1,Option.isSome_some,e2,e3]
     rcases hr.lst_inv with ⟨rfl,rfl⟩ | ⟨xs,c,rfl,hxs⟩
     ·refine step_quiet rh hp h (x:=.sc (.slice none 0 0)) ?_ ?_
      ·simp only [aop,ho,hd,hy,eL,eH,eM,sliceA,hk,hde]
       rw [eB 0 (some 0) (.inr rfl) (by omega)]
      grind
     ·have hl2:=(prss_all2.1 hxs).length
      refine step_quiet rh hp h (x:=.isl ((xs.drop lv.toNat).take (m0.toNat-lv.toNat)) (some m0.toNat==some m0.toNat)) ?_ (.pure (.lst ?_))
      ·simp only [aop,ho,hd,hy,eL,eH,eM,sliceA,hk,hde,<-hl2]
       rw [eB es.length (if c then some es.length else none) (by cases c<;>simp) h2]
       simp only []
       rw [if_pos ⟨by omega,prss_lens hxs hlen⟩]
      ·exact prss_all2.2 (((prss_all2.1 hxs).drop _).take _)
    grind
   ·rename_i e es k mvv k2 m0 hk
    split at h
    ·rename_i de hde
     obtain ⟨hlen,h0,h2,hm,zs,rfl,h⟩:=h
     subst hm
     have eL:optA (look Tc) lo=some none:=by
      grind [opt_ok]
     have eH:optA (look Tc) hi=some (some m0):=by
      grind [opt_ok]
     have eM:optA (look Tc) (some m)=some (some m0):=by
      obtain ⟨w,hw,hwr⟩:=ev_ok rt hmv
      obtain rfl:=hwr.sc_inv
      simp [optA,hw,intOf]
     have eB:∀(n:Nat) (cap:Option Nat),(cap=none\/cap=some n)->m0<=n->boundsA n n cap none (some m0) (some m0)=some (0,m0.toNat,some m0.toNat):=λn cap hcap hn=>by
      have e1:mxA n cap (some m0)=some (some m0.toNat):=by
       unfold mxA
       grind
      have e2:hiA n n (some m0.toNat) true (some m0)=some m0.toNat:=by
       unfold hiA
       simp only []
       rw [if_pos ⟨by omega,by omega⟩]
      simp only [boundsA,e1,Option.isSome_some,e2,loA]
     rcases hr.lst_inv with ⟨rfl,rfl⟩ | ⟨xs,c,rfl,hxs⟩
     ·refine step_quiet rh hp h (x:=.sc (.slice none 0 0)) ?_ ?_
      ·simp only [aop,ho,hd,hy,eL,eH,eM,sliceA,hk,hde]
       rw [eB 0 (some 0) (.inr rfl) (by omega)]
      ·have e:([]:List (List WV)).take m0.toNat=[]:=by simp
       rw [e]
       exact .pure .lsc0
     ·have hl2:=(prss_all2.1 hxs).length
      refine step_quiet rh hp h (x:=.isl ((xs.drop 0).take (m0.toNat-0)) (some m0.toNat==some m0.toNat)) ?_ ?_
      ·simp only [aop,ho,hd,hy,eL,eH,eM,sliceA,hk,hde,<-hl2]
       rw [eB es.length (if c then some es.length else none) (by cases c<;>simp) h2]
       simp only []
       rw [if_pos ⟨by omega,prss_lens hxs hlen⟩]
      ·have e:(some m0.toNat==some m0.toNat)=true:=by simp
       rw [e]
       exact .pure (.lsc (prss_all2.2 ((prss_all2.1 hxs).take _)))
    grind
   ·rename_i e n lo0 len0 cp0 k mvv k2 m0 hk
    split at h
    ·rename_i de es s fz rt' hde hes
     obtain ⟨hb,h0,h2,hm,hB⟩:=beq_of_bif h
     clear h
     have h:=hB
     clear hB
     subst hm
     obtain rfl:=Nat.eq_of_beq_eq_true hb
     obtain ⟨hal,hlen,hrow⟩:=rh.row_obj hes
     have q1:n<R.nx:=(rh.obj n _ hes).1
     have eL:optA (look Tc) lo=some none:=by
      grind [opt_ok]
     have eH:optA (look Tc) hi=some (some m0):=by
      grind [opt_ok]
     have eM:optA (look Tc) (some m)=some (some m0):=by
      obtain ⟨w,hw,hwr⟩:=ev_ok rt hmv
      obtain rfl:=hwr.sc_inv
      simp [optA,hw,intOf]
     have eB:∀(l cl:Nat) (cap:Option Nat),(∀c,cap=some c->m0<=c)->m0<=cl->boundsA l cl cap none (some m0) (some m0)=some (0,m0.toNat,some m0.toNat):=λl cl cap hcap hn=>by
      have e1:mxA cl cap (some m0)=some (some m0.toNat):=by
       unfold mxA
       grind
      have e2:hiA l cl (some m0.toNat) true (some m0)=some m0.toNat:=by
       unfold hiA
       simp only []
       rw [if_pos ⟨by omega,by omega⟩]
      simp only [boundsA,e1,Option.isSome_some,e2,loA]
     rcases hr.win_inv hal with ⟨rfl,rfl | ⟨cb,rfl,_⟩⟩ | ⟨g,cap,c',lo',hav,rfl,w1,w2,_,w3⟩
     ·refine step_read (rd:=[]) (x:=.sc (.slice none 0 0)) rh hp h ?_ (.win q1 λ_=>.inl ⟨by omega,.inl rfl⟩) (λ_ h=>by cases h)
      simp only [aop,ho,hd,hy,eL,eH,eM,sliceA,hk,hde]
      rw [eB 0 0 (some 0) (λc e=>by omega) h2]
      rfl
     ·refine step_read (rd:=[]) (x:=.isl [] true) rh hp h ?_ (.win q1 λ_=>.inl ⟨by omega,.inr ⟨_,rfl,λ_=>rfl⟩⟩) (λ_ h=>by cases h)
      simp only [aop,ho,hd,hy,eL,eH,eM,sliceA,hk,hde]
      have e4:=eB 0 0 (if cb=true then some 0 else none) (λc e=>by omega) h2
      have e3:m0.toNat=0:=by omega
      simp only [List.length_nil]
      rw [e4]
      simp [e3]
      try rfl
     ·rcases hrow with ⟨hav0,_⟩ | ⟨g',cap',xs,fz',hav',hlook,hg,hxs,_⟩
      ·rw [hav0] at hav;cases hav
      ·rw [hav] at hav'
       cases hav'
       have hh:hasO R n (.row es de.size fz rt'):=by intro e;rw [hav] at e;cases e
       have rdOk:∀m∈[R.ob n],∃n o,lk W.objs n=some o/\hasO R n o/\R.ob n=m/\(rootO n o∈([rt']:List Nat)\/rootO n o∈([]:List Nat)):=λm hm=>by
        simp only [List.mem_singleton] at hm
        subst hm
        exact ⟨n,_,hes,hh,rfl,.inl (by simp [rootO])⟩
       refine step_read (rd:=[R.ob n]) (x:=.sl (R.ob n) g (if m0.toNat=0 then lo' else lo'+0) (m0.toNat-0) (some (m0.toNat-0))) rh hp h ?_ (.win q1 λ_=>.inr ⟨g,cap,_,_,hav,rfl,λhne=>by grind,by split<;>omega,(λ_=>rfl),λc e=>by grind⟩) rdOk
       simp only [aop,ho,hd,hy,eL,eH,eM,sliceA,hk,hde,hlook]
       rw [if_pos ⟨hg,trivial⟩,eB len0 (g-lo') c' (λc e=>by grind) (by omega)]
       simp only []
       rw [if_pos (by omega)]
       rfl
    grind
   ·rename_i e n k hvv k2 mvv hk
    split at h
    ·rename_i de es s fz rt' hde hes
     obtain ⟨hb,h0,h1,hm,hB⟩:=beq_of_bif h
     clear h
     have h:=hB
     clear hB
     subst hm
     obtain rfl:=Nat.eq_of_beq_eq_true hb
     obtain ⟨hal,hlen,hrow⟩:=rh.row_obj hes
     have hq:=hr.row_inv.2.2 hal
     have q1:=hr.row_inv.1
     have eL:optA (look Tc) lo=some none:=by
      grind [opt_ok]
     have eH:optA (look Tc) hi=some (some mvv):=by
      grind [opt_ok]
     have eM:optA (look Tc) (some m)=some (some mvv):=by
      obtain ⟨w,hw,hwr⟩:=ev_ok rt hmv
      obtain rfl:=hwr.sc_inv
      simp [optA,hw,intOf]
     rcases hrow with ⟨hav,rfl⟩ | ⟨g,cap,xs,fz',hav,hlook,hg,hxs,hcap,_⟩
     ·rw [hav] at hq
      subst hq
      have hz:mvv=0:=by grind
      subst hz
      refine step_read (rd:=[]) (x:=.sc (.slice none 0 0)) rh hp h ?_ (.win q1 λ_=>.inl ⟨rfl,.inl rfl⟩) (λ_ h=>by cases h)
      simp only [aop,ho,hd,hy,eL,eH,eM,sliceA,hk,hde,nilA]
      rfl
     ·rw [hav] at hq
      subst hq
      have hge:es.length=g:=by rw [All2.length hxs,hg]
      have hh:hasO R n (.row es de.size fz rt'):=by intro e;rw [hav] at e;cases e
      have rdOk:∀m∈[R.ob n],∃n o,lk W.objs n=some o/\hasO R n o/\R.ob n=m/\(rootO n o∈([rt']:List Nat)\/rootO n o∈([]:List Nat)):=λm hm=>by
       simp only [List.mem_singleton] at hm
       subst hm
       exact ⟨n,_,hes,hh,rfl,.inl (by simp [rootO])⟩
      have hle:mvv.toNat<=g:=by omega
      have eB:boundsA g g cap none (some mvv) (some mvv)=some (0,mvv.toNat,some mvv.toNat):=by
       have e1:mxA g cap (some mvv)=some (some mvv.toNat):=by
        unfold mxA
        grind
       have e2:hiA g g (some mvv.toNat) true (some mvv)=some mvv.toNat:=by
        unfold hiA
        simp only []
        rw [if_pos ⟨h0,by omega⟩]
       simp only [boundsA,e1,Option.isSome_some,e2,loA]
      refine step_read (rd:=[R.ob n]) (x:=.sl (R.ob n) g (if mvv.toNat=0 then 0 else 0+0) (mvv.toNat-0) (some (mvv.toNat-0))) rh hp h ?_ (.win q1 λ_=>.inr ⟨g,cap,_,_,hav,rfl,λ_=>by split<;>rfl,by split<;>omega,(λ_=>rfl),λc e=>by grind⟩) rdOk
      simp only [aop,ho,hd,hy,eL,eH,eM,sliceA,hk,hde,hlook]
      rw [if_pos ⟨hg,trivial⟩]
      simp only [Nat.sub_zero,eB]
      rw [if_pos (by omega)]
      rfl
    grind
   grind
  grind
 grind
theorem makeSlice_sound (rt:RelT R T Tc) (rh:RelH R W H) {t:TypeId} {l c:Operand} (ho:o.op=.makeSlice t l c) (h:makeSliceW tab T W K t l c):Stepped P tab R W H Tc o K:=by
 have hp:isPlain o:=plain_op (λc hc=>by grind) (λx hc=>by grind)
 unfold makeSliceW at h
 split at h
 ·rename_i de k1 lv k2 cv hd hl hc
  obtain ⟨d,e,hd1,hk,hde⟩:=elemD_ok hd
  obtain ⟨y,hy,hr⟩:=ev_ok rt hl
  obtain rfl:=hr.sc_inv
  obtain ⟨z,hz,hrz⟩:=ev_ok rt hc
  obtain rfl:=hrz.sc_inv
  obtain ⟨h0,hle,h1,h2,zs,rfl,h⟩:=h
  obtain ⟨hb,h⟩:=beq_of_bif h
  have hzl:de.zero.length=de.size:=Nat.eq_of_beq_eq_true hb
  let n:=lv.toNat
  let cap:Option Nat:=if lv=cv then some n else none
  refine step_new rh hp (h:K _ _ _) (x:=.sl H.next n 0 n cap) (ao:=.cells (List.replicate n (de.zero.map .sc)) de.size 0) (rd:=[]) ?_ ?_ (by simp [rootO]) ?_ (λ_ h=>by cases h) ?_
  ·simp only [aop,ho,hd1,hy,hz,intOf,hk,hde]
   rw [if_pos ⟨h0,hle,h1,h2,hzl⟩]
  ·refine .row (by rw [rh.nx];exact Nat.lt_succ_self _) rfl λ_=>?_
   rw [rh.nx]
   exact (upd_at _ _ _).symm
  ·show (R.add _ _).av R.nx≠nilA
   rw [show (R.add H.next (.sl H.next n 0 n cap)).av R.nx=_ from upd_at _ _ _]
   intro e;cases e
  ·refine ⟨λe he=>by rw [(List.mem_replicate.1 he).2];simp [zeroW,hzl],.inr ⟨n,cap,List.replicate n (de.zero.map .sc),0,?_,?_,by simp,WRss.mono (Rn.add_le _ _) (All2.replicate n (zero_ok de).wrs),?_,Nat.zero_le _,λ_=>rfl⟩⟩
   ·rw [show (R.add H.next (.sl H.next n 0 n cap)).av R.nx=_ from upd_at _ _ _,show (R.add H.next (.sl H.next n 0 n cap)).ob R.nx=_ from upd_at _ _ _]
   ·rw [show (R.add H.next (.sl H.next n 0 n cap)).ob R.nx=_ from upd_at _ _ _]
    exact (look_put _ _ _ _).trans (by rw [if_pos rfl])
   grind
 grind
theorem isMap_eq {d:TyD} (h:isMap d=true):∃a b,d.k=.map a b:=by
 unfold isMap at h
 grind
theorem newSet_sound (rh:RelH R W H) (hp:isPlain o) (ha:aop tab (look Tc) H H.next o=some ⟨.mp H.next,.loc [] [(H.next,.map [] [] [] 0 false)] 1⟩) (h:newSet W K):Stepped P tab R W H Tc o K:=by
 obtain ⟨V,h⟩:=h
 refine step_new rh hp (h:K _ _ _) ha ?_ (by simp [rootO]) trivial (λ_ h=>by cases h) ?_
 ·refine .mp (by rw [rh.nx];exact Nat.lt_succ_self _) rfl λ_=>?_
  rw [rh.nx]
  show _=AV.mp ((R.add H.next _).ob R.nx)
  rw [show (R.add H.next (.mp H.next)).ob R.nx=H.next from upd_at _ _ _]
 ·refine ⟨[],[],0,?_,rfl,⟨rfl,rfl⟩,λ_ h=>by cases h⟩
  rw [show (R.add H.next (.mp H.next)).ob R.nx=H.next from upd_at _ _ _]
  exact (look_put _ _ _ _).trans (by rw [if_pos rfl])
theorem bornsOk_snoc:∀{clock:Nat} {bs:List Nat},bornsOk clock bs=true->bornsOk (clock+1) (bs++[clock])=true
 |c,[],_=>by simp [bornsOk,freshB]
 |c,b::r,h=>by
  simp only [bornsOk,Bool.and_eq_true,Nat.blt_eq] at h
  obtain ⟨h1,h2,h3⟩:=h
  have hf:∀{r:List Nat},freshB b r=true->freshB b (r++[c])=true:=λ{r}=>by
   induction r with
   |nil=>
    intro _
    have:Nat.beq b c=false:=by
     cases hq:Nat.beq b c with
     |false=>rfl
     |true=>have:=Nat.eq_of_beq_eq_true hq;omega
    simp [freshB,this]
   |cons d r ih=>
    intro hd
    simp only [freshB] at hd
    cases hq:Nat.beq b d with
    |true=>rw [hq] at hd;cases hd
    |false=>
     rw [hq] at hd
     simp only [List.cons_append,freshB,hq]
     exact ih hd
  simp only [List.cons_append,bornsOk,Bool.and_eq_true,Nat.blt_eq]
  exact ⟨by omega,hf h2,bornsOk_snoc h3⟩
theorem bornK_snoc {ks:List Value} {bs:List Nat} {clock:Nat} {pe:List (Nat×Value)} {kv:Value} (h:BornK ks bs clock pe):BornK (ks++[kv]) (bs++[clock]) (clock+1) pe:=
 ⟨bornsOk_snoc h.1,by simp [h.2.1],λp hp=>by
  obtain ⟨i,h1,h2⟩:=h.2.2 p hp
  have l1:i<bs.length:=(List.getElem?_eq_some_iff.1 h1).1
  have l2:i<ks.length:=(List.getElem?_eq_some_iff.1 h2).1
  exact ⟨i,by grind,by grind⟩⟩
theorem newBag_sound (rh:RelH R W H) (hp:isPlain o) (ha:aop tab (look Tc) H H.next o=some ⟨.mp H.next,.loc [] [(H.next,.map [] [] [] 0 false)] 1⟩) (h:newBag W K):Stepped P tab R W H Tc o K:=by
 obtain ⟨G,h⟩:=h
 refine step_new rh hp (h:K _ _ _) ha ?_ (by simp [rootO]) trivial (λ_ h=>by cases h) ?_
 ·refine .mp (by rw [rh.nx];exact Nat.lt_succ_self _) rfl λ_=>?_
  rw [rh.nx]
  show _=AV.mp ((R.add H.next _).ob R.nx)
  rw [show (R.add H.next (.mp H.next)).ob R.nx=H.next from upd_at _ _ _]
 ·refine ⟨[],[],[],0,false,?_,rfl,⟨rfl,rfl,λ_ h=>(by cases h)⟩,λx h=>(by cases h),λ_=>rfl,λi k x h=>by cases h⟩
  rw [show (R.add H.next (.mp H.next)).ob R.nx=H.next from upd_at _ _ _]
  exact (look_put _ _ _ _).trans (by rw [if_pos rfl])
theorem newMap_sound {b:Bool} (rh:RelH R W H) (hp:isPlain o) (ha:aop tab (look Tc) H H.next o=some ⟨.mp H.next,.loc [] [(H.next,.map [] [] [] 0 false)] 1⟩) (h:bif b then newSet W K else (newBag W K\/newSet W K)):Stepped P tab R W H Tc o K:=by
 grind [newBag_sound,newSet_sound]
theorem makeMap_sound (rt:RelT R T Tc) (rh:RelH R W H) {t:TypeId} {r:Option Operand} (ho:o.op=.makeMap t r) (h:makeMapW tab T W K t r):Stepped P tab R W H Tc o K:=by
 have hp:isPlain o:=plain_op (λc hc=>by grind) (λx hc=>by grind)
 unfold makeMapW at h
 split at h
 ·rename_i d hd
  obtain ⟨hb,h⟩:=beq_of_bif h
  obtain ⟨a,b,hk⟩:=isMap_eq hb
  exact newMap_sound rh hp (by simp only [aop,ho,hd,hk]) h
 ·rename_i d x hd
  split at h
  ·rename_i k n hv
   obtain ⟨y,hy,hr⟩:=ev_ok rt hv
   obtain rfl:=hr.sc_inv
   obtain ⟨hb,h⟩:=beq_of_bif h
   obtain ⟨a,b,hk⟩:=isMap_eq hb
   exact newMap_sound rh hp (by simp [aop,ho,hd,hk,hy,intOf]) h
  grind
 grind
theorem mapD_ok {d:TyD} {k z:Value} (h:mapD tab d k=some z):∃kt et dk de,d.k=.map kt et/\tab kt=some dk/\tab et=some de/\keyA tab dk (.sc k)=some k/\zeroOf de=some (.sc z):=by
 unfold mapD at h
 split at h
 ·rename_i kt et hk
  split at h
  ·rename_i dk de h1 h2
   split at h
   ·rename_i k' z' hko hag hz
    cases hb:Nat.beq de.size 1 with
    |false=>grind
    |true=>
     rw [hb] at h
     cases h
     refine ⟨kt,et,dk,de,hk,h1,h2,?_,?_⟩
     ·unfold keyA
      rw [hko]
      unfold keyOf at hko
      split at hko<;>first | (rename_i e;cases e;cases hko;rfl) | grind
     ·unfold zeroOf ofCells
      simp_all
   ·cases h
  ·cases h
 ·cases h
theorem hasK_some {kv:Value} {ks:List Value} {b:Bool} (h:hasK kv ks=some b):(b=true/\∃i,findK kv ks 0=some (some i))\/(b=false/\findK kv ks 0=some none):=by
 unfold hasK at h
 cases hf:findK kv ks 0 with
 |none=>grind
 |some r=>
  rw [hf] at h
  cases r with
  |none=>grind
  |some i=>grind
theorem findK_lt {kv:Value}:∀{ks:List Value} {i j:Nat},findK kv ks j=some (some i)->i<j+ks.length
 |[],_,_,h=>by cases h
 |x::r,i,j,h=>by
  simp only [findK] at h
  split at h
  ·grind
  ·have:=findK_lt h;grind
  ·cases h
theorem findK_bag {G:Value->AV->Prop} {kv:Value} (hs:∀k x,G k x->∃b,sameKey kv k=some b/\(b=true->k=kv)):∀{ks:List Value} {vs:List AV} (j:Nat),vs.length=ks.length->(∀(i:Nat) k x,ks[i]?=some k->vs[i]?=some x->G k x)->findK kv ks j=some none\/∃i x,findK kv ks j=some (some (j+i))/\vs[i]?=some x/\i<ks.length/\ks[i]?=some kv/\G kv x
 |[],_,j,_,_=>.inl rfl
 |k::ks,[],j,hl,_=>by cases hl
 |k::ks,x::vs,j,hl,h=>by
  obtain ⟨b,hb,he⟩:=hs k x (h 0 k x rfl rfl)
  cases b with
  |true=>
   obtain rfl:=he rfl
   exact .inr ⟨0,x,by simp only [findK,hb];rfl,rfl,Nat.succ_pos _,rfl,h 0 k x rfl rfl⟩
  |false=>
   rcases findK_bag hs (ks:=ks) (vs:=vs) (j+1) (by grind) (λi k x h1 h2=>h (i+1) k x h1 h2) with q | ⟨i,y,q,h1,h2,h3,h4⟩
   ·exact .inl (by simp only [findK,hb];exact q)
   ·exact .inr ⟨i+1,y,by simp only [findK,hb];grind,h1,Nat.succ_lt_succ h2,h3,h4⟩
theorem bag_look {G:Value->AV->Prop} {kv z:Value} {ks:List Value} {vs:List AV} {rd:List Nat} {d de dk:TyD} {kt et:TypeId} {y w:AV} {ok:Bool} {KK:WV->Prop} {St:Prop}
 (e1:d.k=.map kt et) (e2:tab kt=some dk) (e3:tab et=some de) (e4:keyA tab dk w=some kv) (e5:zeroOf de=some (.sc z)) (he:entriesOf H y=some (ks,vs,rd)) (hl:vs.length=ks.length) (hG:∀(i:Nat) k x,ks[i]?=some k->vs[i]?=some x->G k x)
 (hs:∀k x,G k x->∃b,sameKey kv k=some b/\(b=true->k=kv)) (h:bagK G kv z ok KK) (fin:∀v x,KK v->lookupA tab H d y w ok=some ⟨x,.loc rd [] 0⟩ ->PR v x->St):St:=by
 rcases findK_bag hs 0 hl hG with q | ⟨i,x,q,h1,h2,h3,h4⟩
 ·cases ok with
  |false=>exact fin _ _ h.2 (by simp only [lookupA,e1,e2,e3,e4,he,q,e5];rfl) .sc
  |true=>exact fin _ _ h.2 (by simp only [lookupA,e1,e2,e3,e4,he,q,e5];rfl) (.tup (.cons .sc (.cons .sc .nil)))
 ·rw [Nat.zero_add] at q
  cases ok with
  |false=>
   obtain ⟨v,hv,hk⟩:=h.1 x h4
   exact fin _ _ hk (by simp only [lookupA,e1,e2,e3,e4,he,q,h1];rfl) hv
  |true=>
   obtain ⟨v,hv,hk⟩:=h.1 x h4
   exact fin _ _ hk (by simp only [lookupA,e1,e2,e3,e4,he,q,h1];rfl) (.tup (.cons hv (.cons .sc .nil)))
theorem lookup_sound (rt:RelT R T Tc) (rh:RelH R W H) {t:TypeId} {x k:Operand} {ok:Bool} (ho:o.op=.lookup t x k ok) (h:lookupW tab T W K t x k ok):Stepped P tab R W H Tc o K:=by
 have hp:isPlain o:=plain_op (λc hc=>by grind) (λx hc=>by grind)
 unfold lookupW at h
 split at h
 ·rename_i d n kv hd hx hk
  obtain ⟨y,hy,hr⟩:=ev_ok rt hx
  obtain ⟨w,hw,hrw⟩:=ev_ok rt hk
  obtain rfl:=hrw.sc_inv
  split at h
  ·rename_i z ks v hm hs
   obtain ⟨kt,et,dk,de,e1,e2,e3,e4,e5⟩:=mapD_ok hm
   obtain ⟨hlt,hal,vs,bs,clock,hlook,hlen,_,hvs⟩:=rh.obj n _ hs
   obtain rfl:=hr.mp_inv.2.2 hal
   obtain ⟨b,hb,h⟩:=h
   have rdOk:∀m∈[R.ob n],∃n' o,lk W.objs n'=some o/\hasO R n' o/\R.ob n'=m/\(rootO n' o∈([n]:List Nat)\/rootO n' o∈([]:List Nat)):=λm hm=>by
    simp only [List.mem_singleton] at hm
    subst hm
    exact ⟨n,_,hs,trivial,rfl,.inl (by simp [rootO])⟩
   rcases hasK_some hb with ⟨rfl,i,hf⟩ | ⟨rfl,hf⟩
   ·have h:=bothT h
    have hi:=findK_lt hf
    have hv:∃x,vs[i]?=some x:=by
     grind
    obtain ⟨x,hx⟩:=hv
    obtain ⟨v0,hV,rfl⟩:=hvs x (List.mem_of_getElem? hx)
    refine step_read (rd:=[R.ob n]) (x:=.sc v0) rh hp (h v0 hV) ?_ (.pure .sc) rdOk
    simp only [aop,ho,hd,hy,hw,lookupA,e1,e2,e3,e4,entriesOf,hlook,hf,hx]
    rfl
   ·have h:=bothF h
    refine step_read (rd:=[R.ob n]) (x:=.sc z) rh hp h ?_ (.pure .sc) rdOk
    simp only [aop,ho,hd,hy,hw,lookupA,e1,e2,e3,e4,entriesOf,hlook,hf,e5]
    rfl
  ·rename_i ob z G fz pe hm hs
   obtain ⟨kt,et,dk,de,e1,e2,e3,e4,e5⟩:=mapD_ok hm
   obtain ⟨hlt,hal,ks,vs,bs,clock,fz',hlook,hlen,_,_,_,hvs⟩:=rh.obj n _ hs
   obtain rfl:=hr.mp_inv.2.2 hal
   refine bag_look (H:=H) (y:=.mp (R.ob n)) e1 e2 e3 e4 e5 (rd:=[R.ob n]) (by simp only [entriesOf,hlook]) hlen hvs h.1 h.2 λv x hk ha hv=>?_
   refine step_read (rd:=[R.ob n]) rh hp hk (by simp only [aop,ho,hd,hy,hw];exact ha) (.pure hv) λm hm=>?_
   simp only [List.mem_singleton] at hm
   subst hm
   exact ⟨n,_,hs,trivial,rfl,.inl (by simp [rootO])⟩
  grind
 ·rename_i d kv hd hx hk
  obtain ⟨y,hy,hr⟩:=ev_ok rt hx
  obtain ⟨w,hw,hrw⟩:=ev_ok rt hk
  obtain rfl:=hrw.sc_inv
  obtain rfl:=hr.sc_inv
  split at h
  ·rename_i z hm
   obtain ⟨kt,et,dk,de,e1,e2,e3,e4,e5⟩:=mapD_ok hm
   refine step_quiet rh hp h ?_ (.pure .sc)
   simp only [aop,ho,hd,hy,hw,lookupA,e1,e2,e3,e4,entriesOf,findK,e5]
   rfl
  grind
 ·rename_i d G kv hd hx hk
  obtain ⟨y,hy,hr⟩:=ev_ok rt hx
  obtain ⟨w,hw,hrw⟩:=ev_ok rt hk
  obtain rfl:=hrw.sc_inv
  obtain ⟨ks,vs,rfl,hlen,hvs⟩:=hr.imb_inv
  split at h
  ·rename_i z hm
   obtain ⟨kt,et,dk,de,e1,e2,e3,e4,e5⟩:=mapD_ok hm
   refine bag_look (H:=H) (y:=.imp ks vs) e1 e2 e3 e4 e5 (rd:=[]) rfl hlen hvs h.1 h.2 λv x hk ha hv=>?_
   exact step_quiet rh hp hk (by simp only [aop,ho,hd,hy,hw];exact ha) (.pure hv)
  grind
 grind
theorem updMap_sound (rt:RelT R T Tc) (rh:RelH R W H) {t:TypeId} {m k x:Operand} (ho:o.op=.mapUpdate t m k x) (h:updMapW tab T W K t m k x):Stepped P tab R W H Tc o K:=by
 have hp:isPlain o:=plain_op (λc hc=>by grind) (λx hc=>by grind)
 unfold updMapW at h
 split at h
 ·rename_i d n kv xv hd hm hk hx
  obtain ⟨y,hy,hr⟩:=ev_ok rt hm
  obtain ⟨w,hw,hrw⟩:=ev_ok rt hk
  obtain rfl:=hrw.sc_inv
  obtain ⟨q,hq,hrq⟩:=ev_ok rt hx
  split at h
  ·rename_i ow z ks v xv hmd hs
   obtain rfl:=hrq.sc_inv
   obtain ⟨kt,et,dk,de,e1,e2,e3,e4,e5⟩:=mapD_ok hmd
   obtain ⟨hlt,hal,vs,bs,clock,hlook,hlen,hbo,hvs⟩:=rh.obj n _ hs
   obtain rfl:=hr.mp_inv.2.2 hal
   obtain ⟨hv,ks',hins,h⟩:=h
   unfold insK at hins
   cases hb:hasK kv ks with
   |none=>grind
   |some b=>
    rw [hb] at hins
    rcases hasK_some hb with ⟨rfl,i,hf⟩ | ⟨rfl,hf⟩
    ·cases hins
     have hi:=findK_lt hf
     refine step_set (wo':=.set ks v) (ao:=.map ks (vs.set i (.sc xv)) bs clock false) (x:=undefA) rh hp hs trivial h ?_ (.pure .sc) (by simp [rootO]) rfl trivial ?_
     ·simp only [aop,ho,hd,hy,hw,hq,updateA,e1,e2,e4,hlook,hf]
      rw [if_pos (by omega)]
     ·refine ⟨vs.set i (.sc xv),bs,clock,(look_put _ _ _ _).trans (by rw [if_pos rfl]),by grind,hbo,λx hx=>?_⟩
      grind
    ·cases hins
     refine step_set (wo':=.set (ks++[kv]) v) (ao:=.map (ks++[kv]) (vs++[.sc xv]) (bs++[clock]) (clock+1) false) (x:=undefA) rh hp hs trivial h ?_ (.pure .sc) (by simp [rootO]) rfl trivial ?_
     ·simp only [aop,ho,hd,hy,hw,hq,updateA,e1,e2,e4,hlook,hf]
     ·refine ⟨vs++[.sc xv],bs++[clock],clock+1,(look_put _ _ _ _).trans (by rw [if_pos rfl]),by grind,⟨bornsOk_snoc hbo.1,by grind⟩,λx hx=>?_⟩
      grind
  ·rename_i ow z G pe hmd hs
   obtain ⟨kt,et,dk,de,e1,e2,e3,e4,e5⟩:=mapD_ok hmd
   obtain ⟨hlt,hal,ks,vs,bs,clock,fz',hlook,hlen,hbo,hvl,hfz,hvs⟩:=rh.obj n _ hs
   obtain rfl:=hfz rfl
   obtain rfl:=hr.mp_inv.2.2 hal
   obtain ⟨hlf,hsk,hG,h⟩:=h
   have hqp:=leaf_pr hlf hrq
   have hq':=hG q hqp
   rcases findK_bag hsk 0 hlen hvs with qf | ⟨i,x,qf,h1,h2,h3,h4⟩
   ·refine step_set (wo':=.bag G false pe) (ao:=.map (ks++[kv]) (vs++[q]) (bs++[clock]) (clock+1) false) (x:=undefA) rh hp hs trivial h ?_ (.pure .sc) (by simp [rootO]) rfl trivial ?_
    ·simp only [aop,ho,hd,hy,hw,hq,updateA,e1,e2,e4,hlook,qf]
    ·refine ⟨ks++[kv],vs++[q],bs++[clock],clock+1,false,(look_put _ _ _ _).trans (by rw [if_pos rfl]),by grind,bornK_snoc hbo,λx hx=>?_,λ_=>rfl,λj k y hj hy'=>?_⟩
     ·grind
     grind
   ·rw [Nat.zero_add] at qf
    refine step_set (wo':=.bag G false pe) (ao:=.map ks (vs.set i q) bs clock false) (x:=undefA) rh hp hs trivial h ?_ (.pure .sc) (by simp [rootO]) rfl trivial ?_
    ·simp only [aop,ho,hd,hy,hw,hq,updateA,e1,e2,e4,hlook,qf]
     rw [if_pos (by omega)]
    ·refine ⟨ks,vs.set i q,bs,clock,false,(look_put _ _ _ _).trans (by rw [if_pos rfl]),by grind,hbo,λx hx=>?_,λ_=>rfl,λj k y hj hy'=>?_⟩
     ·grind
     grind
  grind
 grind
theorem find_stamp:∀{bs:List Nat} {clock b i:Nat},bornsOk clock bs=true->bs[i]?=some b->bs.findIdx? (λc:Nat=>Int.ofNat c==(b:Int))=some i
 |[],_,_,_,_,h=>by cases h
 |c::r,clock,b,i,hb,h=>by
  have hn:=(bornsOk_ok hb).1
  simp only [bornsOk,Bool.and_eq_true] at hb
  rw [List.findIdx?_cons]
  cases i with
  |zero=>cases h;simp
  |succ i=>
   have hne:c≠b:=λe=>by
    subst e
    exact (List.nodup_cons.1 hn).1 (List.mem_of_getElem? h)
   have h0:(Int.ofNat c==(b:Int))=false:=by
    cases hq:(Int.ofNat c==(b:Int)) with
    |false=>rfl
    |true=>
     have:=eq_of_beq hq
     exact absurd (Int.ofNat.inj this) hne
   rw [h0,find_stamp hb.2.2 h]
   rfl
theorem entry_sound (rt:RelT R T Tc) (rh:RelH R W H) {t:TypeId} {m k:Operand} (ho:o.op=.mapEntry t m k) (h:entryW tab T W K t m k):Stepped P tab R W H Tc o K:=by
 have hp:isPlain o:=plain_op (λc hc=>by grind) (λx hc=>by grind)
 unfold entryW at h
 split at h
 ·rename_i d n kv hd hm hk
  obtain ⟨y,hy,hr⟩:=ev_ok rt hm
  obtain ⟨w,hw,hrw⟩:=ev_ok rt hk
  obtain rfl:=hrw.sc_inv
  split at h
  ·rename_i z G0 pe hmd hs
   obtain ⟨kt,et,dk,de,e1,e2,e3,e4,e5⟩:=mapD_ok hmd
   obtain ⟨hlt,hal,ks,vs,bs,clock,fz',hlook,hlen,hbo,hvl,hfz,hvs0⟩:=rh.obj n _ hs
   obtain rfl:=hfz rfl
   obtain rfl:=hr.mp_inv.2.2 hal
   obtain ⟨G,hGm,hsk,hlz,hz,h⟩:=h
   have hvs:∀(i:Nat) k x,ks[i]?=some k->vs[i]?=some x->G k x:=λi k x h1 h2=>hGm k x (hvs0 i k x h1 h2)
   rcases findK_bag hsk 0 hlen hvs with qf | ⟨i,x,qf,h1,h2,h3,h4⟩
   ·refine step_set (wo':=.bag G false ((clock,kv)::pe)) (ao:=.map (ks++[kv]) (vs++[.sc z]) (bs++[clock]) (clock+1) false) (x:=.tup [.sc z,.sc (.int .i64 clock)]) rh hp hs trivial (h clock (.sc z)) ?_ (.pure (.tup (.cons .sc (.cons .sc .nil)))) (by simp [rootO]) rfl trivial ?_
    ·simp only [aop,ho,hd,hy,hw,entryA,e1,e2,e3,e4,hlook,qf,e5]
    ·refine ⟨ks++[kv],vs++[.sc z],bs++[clock],clock+1,false,(look_put _ _ _ _).trans (by rw [if_pos rfl]),by grind,⟨(bornK_snoc (kv:=kv) hbo).1,(bornK_snoc (kv:=kv) hbo).2.1,λp hp=>?_⟩,λx hx=>?_,λ_=>rfl,λj k y hj hy'=>?_⟩
     ·rcases List.mem_cons.1 hp with rfl | hp
      ·exact ⟨ks.length,by rw [List.getElem?_append_right (by rw [hbo.2.1];omega),hbo.2.1];simp,by grind⟩
      ·exact (bornK_snoc (kv:=kv) hbo).2.2 p hp
     ·rcases List.mem_append.1 hx with hx | hx
      ·grind
      ·rw [List.mem_singleton.1 hx];exact ⟨.sc z,hlz,.sc⟩
     grind
   ·rw [Nat.zero_add] at qf
    have hbi:i<bs.length:=by rw [hbo.2.1];exact h2
    obtain ⟨v,hv1,hv2⟩:=hvl x (List.mem_of_getElem? h1)
    refine step_set (wo':=.bag G false ((bs[i],kv)::pe)) (ao:=.map ks vs bs clock false) (x:=.tup [x,.sc (.int .i64 bs[i])]) rh hp hs trivial (h bs[i] v) ?_ (.pure (.tup (.cons hv2 (.cons .sc .nil)))) (by simp [rootO]) rfl trivial ?_
    ·simp only [aop,ho,hd,hy,hw,entryA,e1,e2,e3,e4,hlook,qf,h1,List.getElem?_eq_getElem hbi]
    ·refine ⟨ks,vs,bs,clock,false,(look_put _ _ _ _).trans (by rw [if_pos rfl]),hlen,⟨hbo.1,hbo.2.1,λp hp=>?_⟩,hvl,λ_=>rfl,hvs⟩
     rcases List.mem_cons.1 hp with rfl | hp
     ·grind
     ·exact hbo.2.2 p hp
  grind
 grind
theorem entryStore_sound (rt:RelT R T Tc) (rh:RelH R W H) {t:TypeId} {m s x:Operand} (ho:o.op=.entryStore t m s x) (h:entryStoreW T W K m s x):Stepped P tab R W H Tc o K:=by
 have hp:isPlain o:=plain_op (λc hc=>by grind) (λx hc=>by grind)
 unfold entryStoreW at h
 split at h
 ·rename_i n sv xw hm hsv hx
  obtain ⟨y,hy,hr⟩:=ev_ok rt hm
  obtain ⟨w,hw,hrw⟩:=ev_ok rt hsv
  obtain rfl:=hrw.sc_inv
  obtain ⟨q,hq,hrq⟩:=ev_ok rt hx
  split at h
  ·rename_i G pe hs
   obtain ⟨hlt,hal,ks,vs,bs,clock,fz',hlook,hlen,hbo,hvl,hfz,hvs⟩:=rh.obj n _ hs
   obtain rfl:=hfz rfl
   obtain rfl:=hr.mp_inv.2.2 hal
   obtain ⟨hlf,b,kv,rfl,hmem,hG,h⟩:=h
   have hqp:=leaf_pr hlf hrq
   obtain ⟨i,hi1,hi2⟩:=hbo.2.2 _ hmem
   have hil:i<ks.length:=(List.getElem?_eq_some_iff.1 hi2).1
   refine step_set (wo':=.bag G false pe) (ao:=.map ks (vs.set i q) bs clock false) (x:=undefA) rh hp hs trivial h ?_ (.pure .sc) (by simp [rootO]) rfl trivial ?_
   ·simp only [aop,ho,hy,hw,hq,entryStoreA,intOf,hlook,find_stamp hbo.1 hi1]
    rw [if_pos (by omega)]
   ·refine ⟨ks,vs.set i q,bs,clock,false,(look_put _ _ _ _).trans (by rw [if_pos rfl]),by grind,hbo,λx hx=>?_,λ_=>rfl,λj k y hj hy'=>?_⟩
    ·grind
    grind
  grind
 grind
theorem extract_sound (rt:RelT R T Tc) (rh:RelH R W H) {t:Operand} {i:Nat} (ho:o.op=.extract t i) (h:extractW T W K t i):Stepped P tab R W H Tc o K:=by
 have hp:isPlain o:=plain_op (λc hc=>by grind) (λx hc=>by grind)
 unfold extractW at h
 split at h
 ·rename_i vs hv
  obtain ⟨y,hy,hr⟩:=ev_ok rt hv
  obtain ⟨xs,rfl,hx⟩:=hr.tup_inv
  obtain ⟨v,hv',h⟩:=give_some h
  obtain ⟨z,hz,hzr⟩:=(wrs_all2.1 hx).get hv'
  exact step_quiet rh hp h (by simp only [aop,ho,hy,hz]) hzr
 grind
theorem isSl_eq {d:TyD} (h:isSl d=true):∃e,d.k=.slice e:=by
 unfold isSl at h
 grind
theorem builtin_plain {c:Call} {b:Builtin} (ho:o.op=.call c) (hb:c.callee=.builtin b):isPlain o:=⟨λc' hc=>by grind,λx hx=>by grind⟩
theorem len_sound (rt:RelT R T Tc) (rh:RelH R W H) {c:Call} {t:TypeId} {x:Operand} (ho:o.op=.call c) (hb:c.callee=.builtin .len) (ht:c.argTypes.toList=[t]) (hx:c.args.toList=[x]) (h:lenW tab T W K t x):Stepped P tab R W H Tc o K:=by
 have hp:=builtin_plain ho hb
 have ht0:c.argTypes[0]?=some t:=by rw [<-Array.getElem?_toList,ht];rfl
 unfold lenW at h
 split at h
 ·rename_i v d hv hd
  obtain ⟨y,hy,hr⟩:=ev_ok rt hv
  have base:aop tab (look Tc) H H.next o=lenA H d y:=by
   simp only [aop,ho,hb,hx,mapOpt,hy,builtinA,ht0,Option.bind_some,hd]
  unfold lenV at h
  split at h
  ·rename_i es
   obtain ⟨hs,nn,rfl,h⟩:=beq_of_bif h
   obtain ⟨e,hk⟩:=isSl_eq hs
   rcases hr.lst_inv with ⟨rfl,rfl⟩ | ⟨xs,c',rfl,hxs⟩
   ·exact step_quiet rh hp h (by rw [base];simp [lenA,hk]) (.pure .sc)
   ·exact step_quiet rh hp h (x:=.sc (.int .i64 es.length)) (by rw [base];simp [lenA,hk,(prss_all2.1 hxs).length]) (.pure .sc)
  ·obtain ⟨hs,h⟩:=beq_of_bif h
   obtain rfl:=hr.sc_inv
   exact step_quiet rh hp h (by rw [base];simp [lenA,isStr_eq hs]) (.pure .sc)
  ·obtain ⟨hs,h⟩:=beq_of_bif h
   obtain ⟨e,hk⟩:=isSl_eq hs
   obtain rfl:=hr.sc_inv
   exact step_quiet rh hp h (by rw [base];simp [lenA,hk]) (.pure .sc)
  ·rename_i n
   obtain ⟨hs,h⟩:=beq_of_bif h
   obtain ⟨e,hk⟩:=isSl_eq hs
   unfold lenRow at h
   split at h
   ·rename_i es s fz rt' hes
    obtain ⟨nn,rfl,h⟩:=h
    obtain ⟨hal,hlen,hrow⟩:=rh.row_obj hes
    have hq:=hr.row_inv.2.2 hal
    rcases hrow with ⟨hav,rfl⟩ | ⟨g,cap,xs,fz',hav,hlook,hg,hxs,_⟩
    ·rw [hav] at hq
     subst hq
     exact step_read (rd:=[]) rh hp h (by rw [base];simp [lenA,hk,nilA,quiet]) (.pure .sc) (λ_ h=>by cases h)
    ·rw [hav] at hq
     subst hq
     have hgl:g=es.length:=by rw [All2.length hxs,hg]
     exact step_read (rd:=[]) (x:=.sc (.int .i64 es.length)) rh hp h (by rw [base];simp [lenA,hk,quiet,hgl]) (.pure .sc) (λ_ h=>by cases h)
   grind
  ·rename_i n lo len cp
   obtain ⟨hs,h⟩:=beq_of_bif h
   obtain ⟨e,hk⟩:=isSl_eq hs
   unfold lenWin at h
   split at h
   ·rename_i es s fz rt' hes
    obtain ⟨hal,hlen,hrow⟩:=rh.row_obj hes
    rcases hr.win_inv hal with ⟨rfl,rfl | ⟨cb,rfl,_⟩⟩ | ⟨g,cap,c',lo',hav,rfl,_⟩
    ·exact step_read (rd:=[]) (x:=.sc (.int .i64 0)) rh hp h (by rw [base];simp [lenA,hk,quiet]) (.pure .sc) (λ_ h=>by cases h)
    ·exact step_read (rd:=[]) (x:=.sc (.int .i64 0)) rh hp h (by rw [base];simp [lenA,hk,quiet]) (.pure .sc) (λ_ h=>by cases h)
    ·exact step_read (rd:=[]) (x:=.sc (.int .i64 len)) rh hp h (by rw [base];simp [lenA,hk,quiet]) (.pure .sc) (λ_ h=>by cases h)
   grind
  grind
 grind
theorem shown_ok (rh:RelH R W H) {v:WV} {x:AV} {es:List (List WV)} {rd:List Nat} {s:Nat} (hr:WR R v x) (h:showW W s v=some (es,rd)) (hs:∀e∈es,e.length=s) :
 ∃xs rd',shown H s x=some (xs,rd')/\WRss R es xs/\∀m∈rd',∃n o,lk W.objs n=some o/\hasO R n o/\R.ob n=m/\rootO n o∈rd:=by
 unfold showW at h
 split at h
 ·cases h
  obtain rfl:=hr.sc_inv
  exact ⟨[],[],rfl,.nil,λ_ h=>by cases h⟩
 ·cases h
  rcases hr.lst_inv with ⟨rfl,rfl⟩ | ⟨xs,c,rfl,hxs⟩
  ·exact ⟨[],[],rfl,.nil,λ_ h=>by cases h⟩
  ·exact ⟨xs,[],by simp only [shown,prss_lens hxs hs,if_true],hxs.wrss,λ_ h=>by cases h⟩
 ·rename_i n
  split at h
  ·rename_i es' s' fz rt' hes
   cases hb:Nat.beq s' s with
   |false=>grind
   |true=>
    rw [hb] at h
    cases h
    obtain rfl:=Nat.eq_of_beq_eq_true hb
    obtain ⟨hal,hlen,hrow⟩:=rh.row_obj hes
    have hq:=hr.row_inv.2.2 hal
    rcases hrow with ⟨hav,rfl⟩ | ⟨g,cap,xs,fz',hav,hlook,hg,hxs,_⟩
    ·rw [hav] at hq
     subst hq
     exact ⟨[],[],rfl,.nil,λ_ h=>by cases h⟩
    ·rw [hav] at hq
     subst hq
     refine ⟨xs,[R.ob n],?_,hxs,λm hm=>?_⟩
     ·simp only [shown,hlook]
      grind
     ·simp only [List.mem_singleton] at hm
      subst hm
      exact ⟨n,_,hes,(show R.av n≠nilA by rw [hav];intro e;cases e),rfl,by simp [rootO]⟩
  ·cases h
 ·rename_i n lo len cp
  split at h
  ·rename_i es' s' fz rt' hes
   cases hb:Nat.beq s' s with
   |false=>grind
   |true=>
    rw [hb] at h
    cases h
    obtain rfl:=Nat.eq_of_beq_eq_true hb
    obtain ⟨hal,hlen,hrow⟩:=rh.row_obj hes
    rcases hr.win_inv hal with ⟨rfl,rfl | ⟨cb,rfl,_⟩⟩ | ⟨g,cap,c',lo',hav,rfl,h1,h2,_⟩
    ·rw [List.take_zero]
     exact ⟨[],[],rfl,.nil,λ_ h=>by cases h⟩
    ·rw [List.take_zero]
     exact ⟨[],[],rfl,.nil,λ_ h=>by cases h⟩
    ·rcases hrow with ⟨hav2,_⟩ | ⟨g2,cap2,xs,fz',hav2,hlook,hg,hxs,_⟩
     ·rw [hav] at hav2;cases hav2
     ·rw [hav] at hav2
      cases hav2
      refine ⟨(xs.drop lo').take len,[R.ob n],?_,?_,λm hm=>?_⟩
      ·simp only [shown,hlook]
       rw [if_pos ⟨hg,trivial,h2⟩]
      ·by_cases hz:len=0
       ·subst hz;rw [List.take_zero,List.take_zero];exact .nil
       ·rw [h1 hz];exact (All2.drop lo hxs).take len
      ·simp only [List.mem_singleton] at hm
       subst hm
       exact ⟨n,_,hes,(show R.av n≠nilA by rw [hav];intro e;cases e),rfl,by simp [rootO]⟩
  ·cases h
 ·cases h
theorem isU8_ok {e:TypeId} (h:isU8 tab e=true):∃de,tab e=some de/\de.k=.int .u8:=by
 unfold isU8 at h
 grind
theorem out_ok:∀{es:List (List WV)} {xs:List (List AV)} {bs:List UInt8},WRss R es xs->outW es=some bs->bytesOut xs.flatten=some bs/\∀e∈es,e.length=1
 |_,_,bs,.nil,h=>by cases h;exact ⟨rfl,λ_ h=>by cases h⟩
 |e::es,x::xs,bs,.cons h hs,ho=>by
  unfold outW at ho
  split at ho
  ·grind
  ·rename_i n r e1
   cases e1
   split at ho
   ·rename_i l hl
    cases ho
    obtain ⟨q1,q2⟩:=out_ok hs hl
    cases h with
    |cons h1 h2=>
     cases h2
     obtain rfl:=h1.sc_inv
     refine ⟨by simp [bytesOut,q1],λe he=>?_⟩
     grind
   grind
  grind
theorem bytesW_ok (b:ByteArray):WRss R (bytesW b) (bytesOf b):=by
 unfold bytesW bytesOf
 exact All2.map _ _ (λc=>.cons (.pure .sc) .nil) _
theorem bytesW_leaf (b:ByteArray):leafs (bytesW b):=λe he=>by
 obtain ⟨c,_,rfl⟩:=List.mem_map.1 he
 rfl
theorem conv_sound (rt:RelT R T Tc) (rh:RelH R W H) {s d:TypeId} {x:Operand} (ho:o.op=.convert s d x) (h:convW tab T W K s d x):Stepped P tab R W H Tc o K:=by
 have hp:isPlain o:=plain_op (λc hc=>by grind) (λx hc=>by grind)
 unfold convW at h
 split at h
 ·rename_i ds dd v hs hd hv
  obtain ⟨y,hy,hr⟩:=ev_ok rt hv
  unfold convX at h
  split at h
  ·rename_i e str e1 e2
   obtain ⟨hb,l,rfl,h⟩:=beq_of_bif h
   obtain ⟨de,hde,hk⟩:=isU8_ok hb
   obtain rfl:=hr.sc_inv
   refine step_quiet rh hp h (x:=.isl (bytesOf str) false) ?_ (.pure (.lst (leafs_prss (R:=R) (bytesW_leaf str) (bytesW_ok str))))
   simp only [aop,ho,hs,hd,hy,bytesA,strA,e1,e2,hde,hk]
   rfl
  ·rename_i e e1 e2
   obtain ⟨hb,h⟩:=beq_of_bif h
   obtain ⟨de,hde,hk⟩:=isU8_ok hb
   split at h
   ·rename_i es rd hsh
    obtain ⟨bs,hbs,h⟩:=h
    have hlen:∀e∈es,e.length=1:=by
     have:∀{es:List (List WV)} {bs:List UInt8},outW es=some bs->∀e∈es,e.length=1:=by
      intro es
      induction es with
      |nil=>grind
      |cons a l ih=>
       intro bs h e he
       unfold outW at h
       grind
     grind
    obtain ⟨xs,rd',h1,h2,h3⟩:=shown_ok rh hr hsh hlen
    refine step_read (rd:=rd') rh hp h (x:=.sc (.string ⟨bs.toArray⟩)) ?_ (.pure .sc) (λm hm=>let ⟨n,o',a1,a2,a3,a4⟩:=h3 m hm;⟨n,o',a1,a2,a3,.inl a4⟩)
    simp only [aop,ho,hs,hd,hy,bytesA,e1,e2,hde,hk,h1,(out_ok h2 hbs).1]
   grind
  ·rename_i a b v' hn1 hn2
   obtain rfl:=hr.sc_inv
   obtain ⟨z,hz,h⟩:=give_some h
   unfold convV at hz
   split at hz
   ·rename_i e1 e2
    cases hz
    exact step_quiet rh hp h (by simp only [aop,ho,hs,hd,hy,bytesA,strA,convertA,e1,e2]) (.pure .sc)
   ·rename_i e1 e2
    cases hz
    exact step_quiet rh hp h (by simp only [aop,ho,hs,hd,hy,bytesA,strA,convertA,e1,e2]) (.pure .sc)
   grind
  grind
 grind
theorem cellP_all {s:Nat} {ys:List (List WV)} {xs:List (List AV)} (h:WRss R ys xs) (hc:cellP s ys):xs.all (·.all AV.storable)=true:=by
 induction h with
 |nil=>rfl
 |cons h _ ih=>
  simp only [List.all_cons,Bool.and_eq_true]
  exact ⟨storables_of (hc _ (by simp)).2 h,ih λy hy=>hc y (by simp [hy])⟩
theorem roomP_ok {b n:Nat} (h:roomP b n):roomOk b n=true:=by
 simp only [roomOk,Bool.and_eq_true,decide_eq_true_eq]
 exact h
theorem relH_nilrow (rh:RelH R W H) {es:List (List WV)} {s rt:Nat} {fz:Bool} (he:es=[]):RelH (R.add 0 nilA) ⟨(W.nx,.row es s fz rt)::W.objs,W.nx+1⟩ H:=by
 subst he
 refine relH_new rh (c:=0) (x:=nilA) (wo:=.row [] s fz rt) (by rw [rh.nx]) (by show W.nx+1=_;rw [rh.nx]) (λ_ _=>rfl) rh.fresh (λq=>absurd (show (R.add 0 nilA).av R.nx=nilA from upd_at _ _ _) q) ?_
 refine ⟨λe h=>?_,Or.inl ⟨upd_at _ _ _,rfl⟩⟩
 cases h
theorem relH_rmv (rh:RelH R W H) (n:Nat):RelH R ⟨rmv W.objs n,W.nx⟩ H:=by
 have old:∀{m:Nat} {o:WO},lk (rmv W.objs n) m=some o->lk W.objs m=some o:=λ{m o} h=>by
  grind [lk_rmv]
 exact ⟨rh.nx,λm o h=>rh.obj m o (old h),λm k o p h1 h2 h3 h4 e=>rh.inj m k o p (old h1) (old h2) h3 h4 e,rh.fresh⟩
theorem append_nil_sound (rh:RelH R W H) (hp:isPlain o) {de:TyD} {ys:List (List WV)} {xs:List (List AV)} {rd rd':List Nat} (hx:WRss R ys xs) (hroom:roomP de.bytes ys.length) (hc:cellP de.size ys)
 (hrd:∀m∈rd',∃n o,lk W.objs n=some o/\hasO R n o/\R.ob n=m/\rootO n o∈rd)
 (ha:aop tab (look Tc) H H.next o=appendA H H.next de nilA xs rd') (h:newRow W ys de.size false rd K):Stepped P tab R W H Tc o K:=by
 have hl:=All2.length hx
 by_cases he:ys=[]
 ·subst he
  cases hx
  refine ⟨_,_,_,h,.none,nilA,.loc rd' [] 0,R.add 0 nilA,stepOK_aop hp (by rw [ha];rfl),rfl,Rn.add_le _ _,?_,?_,?_⟩
  ·exact .row (by rw [rh.nx];exact Nat.lt_succ_self _) rfl λ_=>by rw [rh.nx];exact (upd_at _ _ _).symm
  ·grind [relH_apply,relH_nilrow]
  ·intro ow how
   refine ⟨ow,λ_ _=>rfl,λn o' h1 h2=>?_,λm hm=>?_,λp hp=>by cases hp⟩
   ·rw [lk_cons] at h1
    by_cases hn:W.nx=n
    ·rw [if_pos hn] at h1
     cases h1
     subst hn
     exact absurd (show (R.add 0 nilA).av W.nx=nilA by rw [rh.nx];exact upd_at _ _ _) h2
    ·rw [if_neg hn] at h1
     have hne:n≠R.nx:=λe=>hn (by rw [rh.nx,e])
     rw [show (R.add 0 nilA).ob n=R.ob n from upd_ne _ _ hne]
     exact how n o' h1 (h2.move (upd_ne _ _ hne))
   ·obtain ⟨n,o',h1,h2,h3,h4⟩:=hrd m hm
    have:=rh.ob_lt h1 h2
    rw [h3] at this
    refine ⟨by simp [Heap.apply];omega,.inl ?_⟩
    rw [<-h3,how n o' h1 h2]
    exact h4
 ·have hne:xs.length≠0:=λe=>he (List.eq_nil_of_length_eq_zero (by omega))
  refine step_new rh hp (h:K _ _ _) (x:=.sl H.next xs.length 0 xs.length none) (ao:=.cells xs de.size 0) (rd:=rd') ?_ ?_ (by simp [rootO]) ?_ (λm hm=>?_) ?_
  ·rw [ha]
   unfold appendA nilA
   rw [if_neg hne]
   simp only [List.length_nil,Nat.zero_add,List.nil_append]
   rw [<-hl,if_pos (roomP_ok hroom)]
  ·refine .row (by rw [rh.nx];exact Nat.lt_succ_self _) rfl λ_=>?_
   rw [rh.nx]
   exact (upd_at _ _ _).symm
  ·show (R.add _ _).av R.nx≠nilA
   rw [show (R.add H.next (.sl H.next xs.length 0 xs.length none)).av R.nx=_ from upd_at _ _ _]
   intro e;cases e
  ·grind
  ·refine ⟨λe he=>(hc e he).1,.inr ⟨xs.length,none,xs,0,?_,?_,rfl,WRss.mono (Rn.add_le _ _) hx,.inl rfl,Nat.zero_le _,λ_=>rfl⟩⟩
   ·rw [show (R.add H.next (.sl H.next xs.length 0 xs.length none)).av R.nx=_ from upd_at _ _ _,show (R.add H.next (.sl H.next xs.length 0 xs.length none)).ob R.nx=_ from upd_at _ _ _]
   ·rw [show (R.add H.next (.sl H.next xs.length 0 xs.length none)).ob R.nx=_ from upd_at _ _ _]
    exact (look_put _ _ _ _).trans (by rw [if_pos rfl])
theorem relH_grow (rh:RelH R W H) {m:Nat} {wo wo':WO} {x:AV} {H':Heap} (hm:lk W.objs m=some wo) (hh:hasO R m wo) (hH:∀k,k≠R.ob m->look H'.objs k=look H.objs k) (hf:∀k,H'.next<=k->look H'.objs k=none)
 (ho:ObjR (R.add (R.ob m) x) H' R.nx wo'):RelH (R.add (R.ob m) x) ⟨(W.nx,wo')::rmv W.objs m,W.nx+1⟩ H':=by
 have old:∀{n:Nat} {o:WO},lk ((W.nx,wo')::rmv W.objs m) n=some o->n≠R.nx->lk W.objs n=some o/\n≠m:=λ{n o} h hne=>by
  rw [lk_cons,if_neg (λe=>hne (by rw [<-e,rh.nx])),lk_rmv] at h
  grind
 have new:∀{o:WO},lk ((W.nx,wo')::rmv W.objs m) R.nx=some o->o=wo':=λ{o} h=>by
  rw [lk_cons,if_pos rh.nx] at h
  grind
 have a0:(R.add (R.ob m) x).ob R.nx=R.ob m:=upd_at _ _ _
 have an:∀{n:Nat},n≠R.nx->(R.add (R.ob m) x).ob n=R.ob n/\(R.add (R.ob m) x).av n=R.av n:=λh=>⟨upd_ne _ _ h,upd_ne _ _ h⟩
 refine ⟨by show W.nx+1=R.nx+1;rw [rh.nx],λn o h=>?_,λn k o p h1 h2 h3 h4 e=>?_,hf⟩
 ·by_cases hne:n=R.nx
  ·subst hne
   obtain rfl:=new h
   exact ⟨Nat.lt_succ_self _,.inr rfl,ho⟩
  ·obtain ⟨h',hnm⟩:=old h hne
   obtain ⟨q1,q2,q3⟩:=rh.obj n o h'
   exact ⟨Nat.lt_succ_of_lt q1,.inl q2,q3.move (Rn.add_le _ _) (an hne).1 (an hne).2 λho'=>hH _ λe=>hnm (rh.inj n m _ _ h' hm ho' hh e)⟩
 ·by_cases hn:n=R.nx
  ·by_cases hk:k=R.nx
   ·rw [hn,hk]
   ·exfalso
    obtain ⟨h2',hkm⟩:=old h2 hk
    rw [hn,a0,(an hk).1] at e
    exact hkm (rh.inj k m _ _ h2' hm (h4.move (an hk).2) hh e.symm)
  ·by_cases hk:k=R.nx
   ·exfalso
    obtain ⟨h1',hnm⟩:=old h1 hn
    rw [hk,a0,(an hn).1] at e
    exact hnm (rh.inj n m _ _ h1' hm (h3.move (an hn).2) hh e)
   ·obtain ⟨h1',_⟩:=old h1 hn
    obtain ⟨h2',_⟩:=old h2 hk
    rw [(an hn).1,(an hk).1] at e
    exact rh.inj n k _ _ h1' h2' (h3.move (an hn).2) (h4.move (an hk).2) e
theorem step_grow {m:Nat} {wo wo':WO} {x:AV} {rd:List Nat} {ups:List (Nat×AO)} {e:WE} {v:WV} (rh:RelH R W H) (hp:isPlain o) (hm:lk W.objs m=some wo) (hh:hasO R m wo) (hk:K v ⟨(W.nx,wo')::rmv W.objs m,W.nx+1⟩ e)
 (h:aop tab (look Tc) H H.next o=some ⟨x,.loc rd ups 0⟩) (hu:∀p∈ups,p.1=R.ob m/\R.ob m∈rd) (hv:WR (R.add (R.ob m) x) v x) (hroot:rootO W.nx wo'=rootO m wo) (hr:rootO m wo∈e.wr)
 (hrd:∀k∈rd,∃n o,lk W.objs n=some o/\hasO R n o/\R.ob n=k/\(rootO n o∈e.rd\/rootO n o∈e.wr))
 (ho:ObjR (R.add (R.ob m) x) (H.apply (.loc rd ups 0)) R.nx wo'):Stepped P tab R W H Tc o K:=by
 have hlt:=rh.ob_lt hm hh
 have hl:∀(ups:List (Nat×AO)) (objs:List (Nat×AO)) (k:Nat),(∀p∈ups,p.1=R.ob m)->k≠R.ob m->look (putAll objs ups) k=look objs k:=by
  intro ups
  induction ups with
  |nil=>intro objs k _ _;rfl
  |cons p l ih=>
   intro objs k h1 h2
   simp only [putAll]
   grind [look_put]
 refine ⟨v,_,e,hk,.none,x,_,R.add (R.ob m) x,stepOK_aop hp h,?_,Rn.add_le _ _,hv,?_,?_⟩
 ·obtain ⟨p,hp⟩:=rh.ob_look hm hh
  simp only [okEff,List.all_eq_true]
  grind
 ·refine relH_grow rh hm hh (λk hk=>hl ups _ k (λp hp=>(hu p hp).1) hk) (λk hk=>?_) ho
  simp only [Heap.apply] at hk ⊢
  rw [hl ups _ k (λp hp=>(hu p hp).1) (by omega)]
  exact rh.fresh k (by omega)
 ·intro ow how
  have howr:=how m wo hm hh
  refine ⟨ow,λ_ _=>rfl,λn o' h1 h2=>?_,λk hk=>?_,λp hp=>?_⟩
  ·rw [lk_cons] at h1
   by_cases hn:W.nx=n
   ·rw [if_pos hn] at h1
    cases h1
    subst hn
    have:(R.add (R.ob m) x).ob W.nx=R.ob m:=by rw [rh.nx];exact upd_at _ _ _
    rw [this,howr,hroot]
   ·rw [if_neg hn,lk_rmv] at h1
    split at h1
    ·cases h1
    have hne:n≠R.nx:=λe=>hn (by rw [rh.nx,e])
    rw [show (R.add (R.ob m) x).ob n=R.ob n from upd_ne _ _ hne]
    exact how n o' h1 (h2.move (upd_ne _ _ hne))
  ·obtain ⟨n,o',h1,h2,h3,h4⟩:=hrd k hk
   have:=rh.ob_lt h1 h2
   rw [h3] at this
   refine ⟨by simp [Heap.apply];omega,?_⟩
   rw [<-h3,how n o' h1 h2]
   exact h4
  ·obtain ⟨q1,q2⟩:=hu p hp
   rw [q1]
   exact ⟨by simp [Heap.apply];omega,by grind⟩
theorem append_row_sound (rh:RelH R W H) (hp:isPlain o) {de:TyD} {m s rt:Nat} {fz:Bool} {es ys:List (List WV)} {xs:List (List AV)} {rd rd':List Nat} {y:AV} (hm:lk W.objs m=some (.row es s fz rt)) (hy:WR R (.row m) y) (hsz:s=de.size)
 (hx:WRss R ys xs) (hroom:roomP de.bytes (es.length+ys.length)) (hc:cellP de.size ys) (hrd:∀k∈rd',∃n o,lk W.objs n=some o/\hasO R n o/\R.ob n=k/\rootO n o∈rd)
 (ha:aop tab (look Tc) H H.next o=appendA H H.next de y xs rd') (h:K (.row W.nx) ⟨(W.nx,.row (es++ys) s fz rt)::rmv W.objs m,W.nx+1⟩ ⟨rd,[rt]⟩):Stepped P tab R W H Tc o K:=by
 have hl:=All2.length hx
 obtain ⟨hal,hlen,hrow⟩:=rh.row_obj hm
 have hq:=hy.row_inv.2.2 hal
 have hlen':∀e∈es++ys,e.length=s:=λe he=>by
  rcases List.mem_append.1 he with q | q
  ·grind
  ·rw [hsz];exact (hc e q).1
 have sub:∀n o,lk (rmv W.objs m) n=some o->lk W.objs n=some o:=λn o h=>by
  grind [lk_rmv]
 rcases hrow with ⟨hav,rfl⟩ | ⟨g,cap,zs,fz',hav,hlook,hg,hzs,hcap,hfg,hfz⟩
 ·rw [hav] at hq
  subst hq
  rw [List.nil_append] at h hlen'
  by_cases he:ys=[]
  ·subst he
   cases hx
   refine ⟨_,_,_,h,.none,nilA,.loc rd' [] 0,R.add 0 nilA,stepOK_aop hp (by rw [ha];rfl),rfl,Rn.add_le _ _,?_,?_,?_⟩
   ·exact .row (by rw [rh.nx];exact Nat.lt_succ_self _) rfl λ_=>by rw [rh.nx];exact (upd_at _ _ _).symm
   ·exact relH_apply (relH_nilrow (W:=⟨rmv W.objs m,W.nx⟩) (relH_rmv rh m) rfl)
   ·intro ow how
    refine ⟨ow,λ_ _=>rfl,λn o' h1 h2=>?_,λk hk=>?_,λp hp=>by cases hp⟩
    ·rw [lk_cons] at h1
     by_cases hn:W.nx=n
     ·rw [if_pos hn] at h1
      cases h1
      subst hn
      exact absurd (show (R.add 0 nilA).av W.nx=nilA by rw [rh.nx];exact upd_at _ _ _) h2
     ·rw [if_neg hn] at h1
      have hne:n≠R.nx:=λe=>hn (by rw [rh.nx,e])
      rw [show (R.add 0 nilA).ob n=R.ob n from upd_ne _ _ hne]
      exact how n o' (sub _ _ h1) (h2.move (upd_ne _ _ hne))
    ·obtain ⟨n,o',h1,h2,h3,h4⟩:=hrd k hk
     have:=rh.ob_lt h1 h2
     rw [h3] at this
     refine ⟨by simp [Heap.apply];omega,.inl ?_⟩
     rw [<-h3,how n o' h1 h2]
     exact h4
  ·have hne:xs.length≠0:=λe=>he (List.eq_nil_of_length_eq_zero (by omega))
   refine step_new0 (W:=⟨rmv W.objs m,W.nx⟩) rh sub (relH_rmv rh m) hp h (x:=.sl H.next xs.length 0 xs.length none) (ao:=.cells xs de.size 0) (rd:=rd') ?_ ?_ (by simp [rootO]) ?_ (λk hk=>?_) ?_
   ·rw [ha]
    unfold appendA nilA
    rw [if_neg hne]
    simp only [List.length_nil,Nat.zero_add,List.nil_append]
    rw [<-hl,if_pos (roomP_ok (by grind))]
   ·refine .row (by rw [rh.nx];exact Nat.lt_succ_self _) rfl λ_=>?_
    rw [rh.nx]
    exact (upd_at _ _ _).symm
   ·show (R.add _ _).av R.nx≠nilA
    rw [show (R.add H.next (.sl H.next xs.length 0 xs.length none)).av R.nx=_ from upd_at _ _ _]
    intro e;cases e
   ·grind
   ·refine ⟨hlen',.inr ⟨xs.length,none,xs,0,?_,?_,rfl,WRss.mono (Rn.add_le _ _) hx,.inl rfl,Nat.zero_le _,λ_=>rfl⟩⟩
    ·rw [show (R.add H.next (.sl H.next xs.length 0 xs.length none)).av R.nx=_ from upd_at _ _ _,show (R.add H.next (.sl H.next xs.length 0 xs.length none)).ob R.nx=_ from upd_at _ _ _]
    ·rw [show (R.add H.next (.sl H.next xs.length 0 xs.length none)).ob R.nx=_ from upd_at _ _ _,hsz]
     exact (look_put _ _ _ _).trans (by rw [if_pos rfl])
 ·rw [hav] at hq
  subst hq
  have hh:hasO R m (.row es s fz rt):=by intro e;rw [hav] at e;cases e
  have hge:g=es.length:=by rw [All2.length hzs,hg]
  have all:∀k∈R.ob m::rd',∃n o,lk W.objs n=some o/\hasO R n o/\R.ob n=k/\(rootO n o∈rd\/rootO n o∈[rt]):=λk hk=>by
   rcases List.mem_cons.1 hk with rfl | hk
   ·exact ⟨m,_,hm,hh,rfl,.inr (by simp [rootO])⟩
   grind
  by_cases he:ys=[]
  ·subst he
   cases hx
   rw [List.append_nil] at h hlen'
   refine step_grow (x:=.sl (R.ob m) g 0 g cap) (rd:=rd') (ups:=[]) rh hp hm hh h (by rw [ha];rfl) (λ_ h=>by cases h) ?_ rfl (by simp [rootO]) (λk hk=>all k (by simp [hk])) ?_
   ·refine .row (by rw [rh.nx];exact Nat.lt_succ_self _) rfl λ_=>?_
    rw [rh.nx]
    exact (upd_at _ _ _).symm
   ·refine ⟨hlen',.inr ⟨g,cap,zs,fz',?_,?_,hg,WRss.mono (Rn.add_le _ _) hzs,hcap,hfg,hfz⟩⟩
    ·rw [show (R.add (R.ob m) (.sl (R.ob m) g 0 g cap)).av R.nx=_ from upd_at _ _ _,show (R.add (R.ob m) (.sl (R.ob m) g 0 g cap)).ob R.nx=_ from upd_at _ _ _]
    ·rw [show (R.add (R.ob m) (.sl (R.ob m) g 0 g cap)).ob R.nx=_ from upd_at _ _ _]
     exact hlook
  ·have hne:xs.length≠0:=λe=>he (List.eq_nil_of_length_eq_zero (by omega))
   have hst:=cellP_all hx hc
   have hroom':roomOk de.bytes (g+xs.length)=true:=roomP_ok (by grind)
   rcases hcap with rfl | rfl
   ·refine step_grow (x:=.sl (R.ob m) (g+xs.length) 0 (g+xs.length) none) (rd:=R.ob m::rd') (ups:=[(R.ob m,.cells (zs++xs) s fz')]) rh hp hm hh h ?_ (λp hp=>by grind) ?_ rfl (by simp [rootO]) all ?_
    ·rw [ha]
     unfold appendA
     rw [if_neg hne]
     simp only [hlook]
     rw [if_pos ⟨hg,hsz,by omega⟩,if_neg (by omega),if_pos ⟨trivial,trivial,hfg,hroom',hst⟩]
    ·refine .row (by rw [rh.nx];exact Nat.lt_succ_self _) rfl λ_=>?_
     rw [rh.nx]
     exact (upd_at _ _ _).symm
    ·refine ⟨hlen',.inr ⟨g+xs.length,none,zs++xs,fz',?_,?_,by simp [hg],WRss.mono (Rn.add_le _ _) (All2.append hzs hx),.inl rfl,by omega,hfz⟩⟩
     ·rw [show (R.add (R.ob m) (.sl (R.ob m) (g+xs.length) 0 (g+xs.length) none)).av R.nx=_ from upd_at _ _ _,show (R.add (R.ob m) (.sl (R.ob m) (g+xs.length) 0 (g+xs.length) none)).ob R.nx=_ from upd_at _ _ _]
     ·rw [show (R.add (R.ob m) (.sl (R.ob m) (g+xs.length) 0 (g+xs.length) none)).ob R.nx=_ from upd_at _ _ _]
      exact (look_put _ _ _ _).trans (by rw [if_pos rfl])
   ·refine step_new0 (W:=⟨rmv W.objs m,W.nx⟩) rh sub (relH_rmv rh m) hp h (x:=.sl H.next (g+xs.length) 0 (g+xs.length) none) (ao:=.cells (zs++xs) s 0) (rd:=R.ob m::rd') ?_ ?_ (by simp [rootO]) ?_ all ?_
    ·rw [ha]
     unfold appendA
     grind
    ·refine .row (by rw [rh.nx];exact Nat.lt_succ_self _) rfl λ_=>?_
     rw [rh.nx]
     exact (upd_at _ _ _).symm
    ·show (R.add _ _).av R.nx≠nilA
     rw [show (R.add H.next (.sl H.next (g+xs.length) 0 (g+xs.length) none)).av R.nx=_ from upd_at _ _ _]
     intro e;cases e
    ·refine ⟨hlen',.inr ⟨g+xs.length,none,zs++xs,0,?_,?_,by simp [hg],WRss.mono (Rn.add_le _ _) (All2.append hzs hx),.inl rfl,Nat.zero_le _,λ_=>rfl⟩⟩
     ·rw [show (R.add H.next (.sl H.next (g+xs.length) 0 (g+xs.length) none)).av R.nx=_ from upd_at _ _ _,show (R.add H.next (.sl H.next (g+xs.length) 0 (g+xs.length) none)).ob R.nx=_ from upd_at _ _ _]
     ·rw [show (R.add H.next (.sl H.next (g+xs.length) 0 (g+xs.length) none)).ob R.nx=_ from upd_at _ _ _]
      exact (look_put _ _ _ _).trans (by rw [if_pos rfl])
theorem append_lsc_sound (rh:RelH R W H) (hp:isPlain o) {de:TyD} {es ys:List (List WV)} {xs:List (List AV)} {rd rd':List Nat} {y:AV} (hy:WR R (.lsc es) y) (hes:∀e∈es,e.length=de.size)
 (hx:WRss R ys xs) (hrd:∀k∈rd',∃n o,lk W.objs n=some o/\hasO R n o/\R.ob n=k/\rootO n o∈rd)
 (ha:aop tab (look Tc) H H.next o=appendA H H.next de y xs rd') (h:ys≠[]->roomP de.bytes (es.length+ys.length)/\cellP de.size ys/\∃zs,es++ys=zs/\newRow W zs de.size false rd K) (h0:ys=[]->K (.lst es) W ⟨rd,[]⟩):Stepped P tab R W H Tc o K:=by
 have hl:=All2.length hx
 by_cases he:ys=[]
 ·have h1:=h0 he
  subst he
  cases hx
  have rdOk:∀m∈rd',∃n o,lk W.objs n=some o/\hasO R n o/\R.ob n=m/\(rootO n o∈(⟨rd,[]⟩:WE).rd\/rootO n o∈(⟨rd,[]⟩:WE).wr):=λm hm=>by
   grind
  rcases hy.lsc_inv with ⟨rfl,rfl⟩ | ⟨zs,rfl,hz⟩
  ·exact step_read (rd:=rd') (x:=nilA) rh hp h1 (by rw [ha];rfl) (.pure .emp) rdOk
  ·exact step_read (rd:=rd') (x:=.isl zs true) rh hp h1 (by rw [ha];rfl) (.pure (.lst hz)) rdOk
 ·obtain ⟨hroom,hc,zs,rfl,h⟩:=h he
  have hne:xs.length≠0:=λe=>he (List.eq_nil_of_length_eq_zero (by omega))
  rcases hy.lsc_inv with ⟨rfl,rfl⟩ | ⟨zs,rfl,hz⟩
  ·exact append_nil_sound rh hp hx (by grind) hc hrd ha h
  ·have hz2:=(prss_all2.1 hz).length
   refine step_new rh hp (h:K _ _ _) (x:=.sl H.next (zs.length+xs.length) 0 (zs.length+xs.length) none) (ao:=.cells (zs++xs) de.size 0) (rd:=rd') ?_ ?_ (by simp [rootO]) ?_ (λm hm=>?_) ?_
   ·rw [ha]
    unfold appendA
    rw [if_neg hne]
    have hall:zs.all (·.length==de.size)=true:=by
     rw [List.all_eq_true]
     intro z hzm
     have:=prss_lens hz hes
     grind
    grind [roomP_ok]
   ·refine .row (by rw [rh.nx];exact Nat.lt_succ_self _) rfl λ_=>?_
    rw [rh.nx]
    exact (upd_at _ _ _).symm
   ·show (R.add _ _).av R.nx≠nilA
    rw [show (R.add H.next (.sl H.next (zs.length+xs.length) 0 (zs.length+xs.length) none)).av R.nx=_ from upd_at _ _ _]
    intro e;cases e
   ·grind
   ·refine ⟨λe he=>?_,.inr ⟨zs.length+xs.length,none,zs++xs,0,?_,?_,by simp,WRss.mono (Rn.add_le _ _) (All2.append hz.wrss hx),.inl rfl,Nat.zero_le _,λ_=>rfl⟩⟩
    ·rcases List.mem_append.1 he with q | q
     ·grind
     ·exact (hc e q).1
    ·rw [show (R.add H.next (.sl H.next (zs.length+xs.length) 0 (zs.length+xs.length) none)).av R.nx=_ from upd_at _ _ _,show (R.add H.next (.sl H.next (zs.length+xs.length) 0 (zs.length+xs.length) none)).ob R.nx=_ from upd_at _ _ _]
    ·rw [show (R.add H.next (.sl H.next (zs.length+xs.length) 0 (zs.length+xs.length) none)).ob R.nx=_ from upd_at _ _ _]
     exact (look_put _ _ _ _).trans (by rw [if_pos rfl])
theorem append_win_sound (rh:RelH R W H) (hp:isPlain o) {de:TyD} {m lo len s rt:Nat} {fz:Bool} {es ys:List (List WV)} {xs:List (List AV)} {rd rd':List Nat} {y:AV} (hm:lk W.objs m=some (.row es s fz rt)) (hy:WR R (.win m lo len true) y) (hsz:s=de.size)
 (hx:WRss R ys xs) (hne:ys≠[]) (hroom:roomP de.bytes (len+ys.length)) (hc:cellP de.size ys) (hrd:∀k∈rd',∃n o,lk W.objs n=some o/\hasO R n o/\R.ob n=k/\rootO n o∈rd)
 (ha:aop tab (look Tc) H H.next o=appendA H H.next de y xs rd') (h:newRow W ((es.drop lo).take len++ys) de.size false (rt::rd) K):Stepped P tab R W H Tc o K:=by
 have hl:=All2.length hx
 obtain ⟨hal,hlen,hrow⟩:=rh.row_obj hm
 have hne':xs.length≠0:=λe=>hne (List.eq_nil_of_length_eq_zero (by omega))
 rcases hy.win_inv hal with ⟨rfl,rfl | ⟨cb,rfl,hcb⟩⟩ | ⟨g,cap,c',lo',hav,rfl,h1,h2,h3,_⟩
 ·rw [List.take_zero,List.nil_append] at h
  refine append_nil_sound rh hp hx (by grind) hc (λk hk=>?_) ha h
  grind
 ·obtain rfl:=hcb rfl
  rw [List.take_zero] at h
  refine append_lsc_sound (es:=[]) rh hp (.pure (.lsc .nil)) (λ_ h=>by cases h) hx (λk hk=>?_) ha (λ_=>⟨by omega,hc,_,rfl,h⟩) (λe=>absurd e hne)
  grind
 ·obtain rfl:=h3 rfl
  rcases hrow with ⟨hav2,_⟩ | ⟨g2,cap2,zs,fz',hav2,hlook,hg,hzs,_⟩
  ·rw [hav] at hav2;cases hav2
  ·rw [hav] at hav2
   cases hav2
   have hh:hasO R m (.row es s fz rt):=by intro e;rw [hav] at e;cases e
   have hw:WRss R ((es.drop lo).take len++ys) ((zs.drop lo').take len++xs):=by
    refine All2.append ?_ hx
    by_cases hz:len=0
    ·subst hz;rw [List.take_zero,List.take_zero];exact .nil
    ·rw [h1 hz];exact (All2.drop lo hzs).take len
   have hol:((zs.drop lo').take len).length=len:=by grind
   refine step_new rh hp (h:K _ _ _) (x:=.sl H.next (len+xs.length) 0 (len+xs.length) none) (ao:=.cells ((zs.drop lo').take len++xs) de.size 0) (rd:=R.ob m::rd') ?_ ?_ (by simp [rootO]) ?_ (λk hk=>?_) ?_
   ·rw [ha]
    unfold appendA
    grind [roomP_ok]
   ·refine .row (by rw [rh.nx];exact Nat.lt_succ_self _) rfl λ_=>?_
    rw [rh.nx]
    exact (upd_at _ _ _).symm
   ·show (R.add _ _).av R.nx≠nilA
    rw [show (R.add H.next (.sl H.next (len+xs.length) 0 (len+xs.length) none)).av R.nx=_ from upd_at _ _ _]
    intro e;cases e
   ·rcases List.mem_cons.1 hk with rfl | hk
    ·exact ⟨m,_,hm,hh,rfl,.inl (by simp [rootO])⟩
    grind
   ·refine ⟨λe he=>?_,.inr ⟨len+xs.length,none,(zs.drop lo').take len++xs,0,?_,?_,by simp [hol],WRss.mono (Rn.add_le _ _) hw,.inl rfl,Nat.zero_le _,λ_=>rfl⟩⟩
    ·rcases List.mem_append.1 he with q | q
     ·grind
     ·exact (hc e q).1
    ·rw [show (R.add H.next (.sl H.next (len+xs.length) 0 (len+xs.length) none)).av R.nx=_ from upd_at _ _ _,show (R.add H.next (.sl H.next (len+xs.length) 0 (len+xs.length) none)).ob R.nx=_ from upd_at _ _ _]
    ·rw [show (R.add H.next (.sl H.next (len+xs.length) 0 (len+xs.length) none)).ob R.nx=_ from upd_at _ _ _]
     exact (look_put _ _ _ _).trans (by rw [if_pos rfl])
theorem append_same_sound (rh:RelH R W H) (hp:isPlain o) {de:TyD} {m lo len s rt:Nat} {fz cp:Bool} {es:List (List WV)} {rd rd':List Nat} {y:AV} (hm:lk W.objs m=some (.row es s fz rt)) (hy:WR R (.win m lo len cp) y)
 (hrd:∀k∈rd',∃n o,lk W.objs n=some o/\hasO R n o/\R.ob n=k/\rootO n o∈rd)
 (ha:aop tab (look Tc) H H.next o=appendA H H.next de y [] rd') (h:K (.win m lo len cp) W ⟨rd,[]⟩):Stepped P tab R W H Tc o K:=by
 obtain ⟨hal,_⟩:=rh.row_obj hm
 have rdOk:∀m∈rd',∃n o,lk W.objs n=some o/\hasO R n o/\R.ob n=m/\(rootO n o∈(⟨rd,[]⟩:WE).rd\/rootO n o∈(⟨rd,[]⟩:WE).wr):=λm hm=>by
  grind
 have hr:=hy
 rcases hy.win_inv hal with ⟨_,rfl | ⟨cb,rfl,_⟩⟩ | ⟨g,cap,c',lo',hav,rfl,_⟩<;>exact step_read rh hp h (by rw [ha];rfl) hr rdOk
theorem app_sound (rt:RelT R T Tc) (rh:RelH R W H) {c:Call} {t u:TypeId} {s x:Operand} (ho:o.op=.call c) (hb:c.callee=.builtin .append) (ht:c.argTypes.toList=[t,u]) (hx:c.args.toList=[s,x]) (h:appW tab T W K t u s x):Stepped P tab R W H Tc o K:=by
 have hp:=builtin_plain ho hb
 have ht0:c.argTypes[0]?=some t:=by rw [<-Array.getElem?_toList,ht];rfl
 have ht1:c.argTypes[1]?=some u:=by rw [<-Array.getElem?_toList,ht];rfl
 unfold appW at h
 split at h
 ·rename_i de du sv xv hd hu hsv hxv
  obtain ⟨d,e,hd1,hk,hde⟩:=elemD_ok hd
  obtain ⟨y,hy,hr⟩:=ev_ok rt hsv
  obtain ⟨z,hz,hzr⟩:=ev_ok rt hxv
  have base:aop tab (look Tc) H H.next o=builtinA tab H H.next .append c.argTypes [y,z]:=by
   simp only [aop,ho,hb,hx,mapOpt,hy,hz]
  have main:∀{ys:List (List WV)} {xs:List (List AV)} {rd rd':List Nat},WRss R ys xs->(∀k∈rd',∃n o,lk W.objs n=some o/\hasO R n o/\R.ob n=k/\rootO n o∈rd)->
   aop tab (look Tc) H H.next o=appendA H H.next de y xs rd'->appendW W de sv ys rd K->Stepped P tab R W H Tc o K:=λ{ys xs rd rd'} h1 h2 h3 h=>by
   unfold appendW at h
   split at h
   ·obtain ⟨hroom,hc,h⟩:=h
    obtain rfl:=hr.sc_inv
    exact append_nil_sound rh hp h1 hroom hc h2 h3 h
   ·rename_i m
    split at h
    ·rename_i es sz fz rt' hm
     obtain ⟨hbb,hroom,hc,zs,rfl,h⟩:=beq_of_bif h
     exact append_row_sound rh hp hm hr (Nat.eq_of_beq_eq_true hbb) h1 hroom hc h2 h3 h
    grind
   ·rename_i m lo len
    split at h
    ·rename_i es sz fz rt' hm
     obtain ⟨hbb,hA,hB⟩:=beq_of_bif h
     by_cases he:ys=[]
     ·have h4:=hB he
      subst he
      cases h1
      grind [append_same_sound]
     grind [append_win_sound,Nat.eq_of_beq_eq_true]
    grind
   ·grind [append_lsc_sound]
   grind
  unfold appX at h
  split at h
  ·rename_i str hku
   obtain ⟨hbb,h⟩:=beq_of_bif h
   obtain rfl:=hzr.sc_inv
   refine main (bytesW_ok str) (rd':=[]) (λ_ h=>by cases h) ?_ h
   rw [base]
   simp only [builtinA,ht0,ht1,Option.bind_some,hd1,hk,hde,hu,hku]
   rw [if_pos (Nat.eq_of_beq_eq_true hbb)]
  ·rename_i e' hku
   split at h
   ·rename_i ys rd hshow
    have hs:∀w∈ys,w.length=de.size:=by
     unfold appendW at h
     split at h
     ·exact λw hw=>(h.2.1 w hw).1
     ·split at h
      ·obtain ⟨_,_,hc,_⟩:=beq_of_bif h
       exact λw hw=>(hc w hw).1
      grind
     ·split at h
      ·obtain ⟨_,hA,_⟩:=beq_of_bif h
       exact λw hw=>((hA (λe=>by grind)).2.1 w hw).1
      grind
     ·exact λw hw=>((h.2.1 (λe=>by grind)).2.1 w hw).1
     grind
    obtain ⟨xs,rd',h1,h2,h3⟩:=shown_ok rh hzr hshow hs
    refine main h2 h3 ?_ h
    rw [base]
    simp only [builtinA,ht0,ht1,Option.bind_some,hd1,hk,hde,hu,hku,h1]
   grind
  grind
 grind
theorem ext_sound (rt:RelT R T Tc) (rh:RelH R W H) {c:Call} {mx:Bool} {x y:Operand} (ho:o.op=.call c) (hb:c.callee=.builtin (if mx then .max else .min)) (hx:c.args.toList=[x,y]) (h:extW T W K mx x y):Stepped P tab R W H Tc o K:=by
 have hp:=builtin_plain ho hb
 unfold extW at h
 split at h
 ·rename_i k a j b h1 h2
  obtain ⟨v,hv,hr⟩:=ev_ok rt h1
  obtain rfl:=hr.sc_inv
  obtain ⟨w,hw,hr⟩:=ev_ok rt h2
  obtain rfl:=hr.sc_inv
  exact step_quiet rh hp h (by simp only [aop,ho,hb,hx,mapOpt,hv,hw,builtinA];rfl) (.pure .sc)
 ·rename_i k a j b h1 h2
  obtain ⟨v,hv,hr⟩:=ev_ok rt h1
  obtain rfl:=hr.sc_inv
  obtain ⟨w,hw,hr⟩:=ev_ok rt h2
  obtain rfl:=hr.sc_inv
  exact step_quiet rh hp h (by simp only [aop,ho,hb,hx,mapOpt,hv,hw,builtinA];rfl) (.pure .sc)
 grind
theorem clear_sound (rt:RelT R T Tc) (rh:RelH R W H) {c:Call} {t:TypeId} {x:Operand} (ho:o.op=.call c) (hb:c.callee=.builtin .clear) (ht:c.argTypes.toList=[t]) (hx:c.args.toList=[x]) (h:clearW tab T W K t x):Stepped P tab R W H Tc o K:=by
 have hp:=builtin_plain ho hb
 have ht0:c.argTypes[0]?=some t:=by rw [<-Array.getElem?_toList,ht];rfl
 unfold clearW at h
 split at h
 ·rename_i n d hv hd
  obtain ⟨y,hy,hr⟩:=ev_ok rt hv
  have base:aop tab (look Tc) H H.next o=clearA tab H d y:=by
   simp only [aop,ho,hb,hx,mapOpt,hy,builtinA,ht0,Option.bind_some,hd]
  split at h
  ·rename_i G pe hs
   obtain ⟨hm,h⟩:=beq_of_bif h
   obtain ⟨a,b,hk⟩:=isMap_eq hm
   obtain ⟨hlt,hal,ks,vs,bs,clock,fz',hlook,hlen,hbo,hvl,hfz,hvs⟩:=rh.obj n _ hs
   obtain rfl:=hfz rfl
   obtain rfl:=hr.mp_inv.2.2 hal
   refine step_set (wo':=.bag G false []) (ao:=.map [] [] [] clock false) (x:=undefA) rh hp hs trivial h ?_ (.pure .sc) (by simp [rootO]) rfl trivial ?_
   ·rw [base];simp only [clearA,hk,hlook]
   ·exact ⟨[],[],[],clock,false,(look_put _ _ _ _).trans (by rw [if_pos rfl]),rfl,⟨rfl,rfl,λ_ h=>(by cases h)⟩,λx hx=>(by cases hx),λ_=>rfl,λi k x hx=>(by cases hx)⟩
  ·rename_i ks v hs
   obtain ⟨hm,h⟩:=beq_of_bif h
   obtain ⟨a,b,hk⟩:=isMap_eq hm
   obtain ⟨hlt,hal,vs,bs,clock,hlook,hlen,_,hvs⟩:=rh.obj n _ hs
   obtain rfl:=hr.mp_inv.2.2 hal
   refine step_set (wo':=.set [] v) (ao:=.map [] [] [] clock false) (x:=undefA) rh hp hs trivial h ?_ (.pure .sc) (by simp [rootO]) rfl trivial ?_
   ·rw [base];simp only [clearA,hk,hlook]
   ·exact ⟨[],[],clock,(look_put _ _ _ _).trans (by rw [if_pos rfl]),rfl,⟨rfl,rfl⟩,λx hx=>(by cases hx)⟩
  grind
 grind
theorem copyA_eq {d de:TyD} {e:TypeId} (hk:d.k=.slice e) (hde:tab e=some de) {z:AV} {ys:List (List WV)} (hz:WR R (.lst ys) z) (hl:∀e∈ys,e.length=de.size) {y:AV} {dl:Nat} (hy:y=nilA/\dl=0\/∃n g off c,y=.sl n g off dl c) :
 ∃xs,WRss R ys xs/\copyA tab H d y z=overwrite H y de.size (xs.take dl) (.sc (.int .i64 (min xs.length dl:Nat))) []:=by
 rcases hz.lst_inv with ⟨rfl,rfl⟩ | ⟨xs,c,rfl,hxs⟩
 ·refine ⟨[],.nil,?_⟩
  rcases hy with ⟨rfl,rfl⟩ | ⟨n,g,off,c,rfl⟩<;>simp only [copyA,hk,hde,shown,nilA]
 ·refine ⟨xs,hxs.wrss,?_⟩
  have hs:=prss_lens hxs hl
  rcases hy with ⟨rfl,rfl⟩ | ⟨n,g,off,c,rfl⟩<;>simp only [copyA,hk,hde,shown,nilA,hs,if_true]
theorem copy_sound (rt:RelT R T Tc) (rh:RelH R W H) {c:Call} {t:TypeId} {ts:List TypeId} {dst src:Operand} (ho:o.op=.call c) (hb:c.callee=.builtin .copy) (ht:c.argTypes.toList=t::ts) (hx:c.args.toList=[dst,src]) (h:copyW tab T W K t dst src):Stepped P tab R W H Tc o K:=by
 have hp:=builtin_plain ho hb
 have ht0:c.argTypes[0]?=some t:=by rw [<-Array.getElem?_toList,ht];rfl
 unfold copyW at h
 split at h
 ·rename_i de m ys hd hv hs
  obtain ⟨d,e,hd1,hk,hde⟩:=elemD_ok hd
  obtain ⟨y,hy,hr⟩:=ev_ok rt hv
  obtain ⟨z,hz,hrz⟩:=ev_ok rt hs
  have base:aop tab (look Tc) H H.next o=copyA tab H d y z:=by
   simp only [aop,ho,hb,hx,mapOpt,hy,hz,builtinA,ht0,Option.bind_some,hd1]
  split at h
  ·rename_i es s rt' hes
   obtain ⟨hb2,h⟩:=beq_of_bif h
   obtain rfl:=Nat.eq_of_beq_eq_true hb2
   obtain ⟨hcp,hq,hw⟩:=h
   obtain ⟨hal,hlen,hrow⟩:=rh.row_obj hes
   obtain rfl:=hr.row_inv.2.2 hal
   have hl:∀e∈ys,e.length=de.size:=λe he=>(hcp e he).1
   rcases hrow with ⟨hav,rfl⟩ | ⟨g,cap,xs',fz',hav,hlook,hg,hxr,hcap,hfg,hfz⟩
   ·obtain ⟨xs,_,hc⟩:=copyA_eq (H:=H) hk hde hrz hl (y:=R.av m) (dl:=0) (.inl ⟨hav,rfl⟩)
    refine step_quiet (x:=.sc (.int .i64 ((min xs.length 0:Nat):Int))) rh hp (hq (.inr rfl) _) ?_ (.pure .sc)
    rw [base,hc]
    rfl
   ·obtain ⟨xs,hxs,hc⟩:=copyA_eq (H:=H) hk hde hrz hl (y:=R.av m) (dl:=g) (.inr ⟨_,_,_,_,hav⟩)
    have hlx:ys.length=xs.length:=hxs.length
    have hle:es.length=g:=by rw [hxr.length];exact hg
    by_cases h0:ys=[]\/es=[]
    ·refine step_quiet (x:=.sc (.int .i64 ((min xs.length g:Nat):Int))) rh hp (hq h0 _) ?_ (.pure .sc)
     have:(xs.take g).length=0:=by
      grind
     rw [base,hc]
     simp only [overwrite,this,if_true]
     rfl
    ·have hy0:ys≠[]:=λe=>h0 (.inl e)
     have he0:es≠[]:=λe=>h0 (.inr e)
     obtain ⟨zs,rfl,h⟩:=hw hy0 he0
     obtain rfl:=hfz rfl
     have p1:0<ys.length:=List.length_pos_iff.2 hy0
     have p2:0<es.length:=List.length_pos_iff.2 he0
     have hn0:¬(xs.take g).length=0:=by grind
     have hst:(xs.take g).all (·.all AV.storable)=true:=by
      rw [List.all_eq_true]
      intro x hx
      obtain ⟨i,hi,rfl⟩:=List.getElem_of_mem (List.mem_of_mem_take hx)
      have hi':i<ys.length:=by omega
      obtain ⟨b,q1,q2⟩:=All2.get hxs (List.getElem?_eq_getElem hi')
      rw [List.getElem?_eq_getElem hi] at q1
      cases q1
      exact storables_of (hcp _ (List.getElem_mem hi')).2 q2
     have hh:hasO R m (.row es de.size false rt'):=by intro e;rw [hav] at e;cases e
     refine step_set (wo':=.row (ys.take es.length++es.drop ys.length) de.size false rt') (ao:=.cells (xs.take g++xs'.drop (xs.take g).length) de.size 0) (x:=.sc (.int .i64 ((min xs.length g:Nat):Int))) rh hp hes hh (h _) ?_ (.pure .sc) (by simp [rootO]) rfl hh ?_
     ·rw [base,hc,hav]
      simp only [overwrite,if_neg hn0,hlook]
      grind
     ·have hdrop:xs'.drop (xs.take g).length=xs'.drop ys.length:=by
       grind [List.length_take,Nat.min_eq_right,Nat.min_eq_left,List.drop_eq_nil_of_le]
      rw [hdrop]
      have hr2:WRss R (ys.take es.length++es.drop ys.length) (xs.take g++xs'.drop ys.length):=by rw [hle];exact (hxs.take g).append (hxr.drop _)
      refine ⟨λe he=>?_,.inr ⟨g,cap,xs.take g++xs'.drop ys.length,0,hav,(look_put _ _ _ _).trans (by rw [if_pos rfl]),?_,hr2,hcap,Nat.zero_le _,λ_=>rfl⟩⟩
      ·grind
      grind
  grind
 grind
end Go.Abs
end
section
namespace Go.Abs
noncomputable section
structure YP where
 out:Bool
 far:List FuncId
abbrev WKF:=WV->WT->WH->Prop
inductive FarS (P:Program) (f:FuncId) (vs:List WV) (T:WT) (W:WH) (K:WKF):Prop
 |mk (h:∀(R:Rn) (Tc:TL) (H:Heap) (xs:List AV),RelT R T Tc->RelH R W H->WRs R vs xs->∃v T' W' x H' R',K v T' W'/\Valid2 P f xs H (.ret x) H'/\WR R' v x/\RelT R' T' Tc/\RelH R' W' H'/\Kept R W H R' W' H'):FarS P f vs T W K
inductive YieldS (P:Program) (n:Nat) (vs:List WV) (T:WT) (W:WH) (K:WKF):Prop
 |mk (h:∀(R:Rn) (Tc:TL) (H:Heap) (xs:List AV),RelT R T Tc->RelH R W H->WRs R vs xs->R.al n/\∃v T' W' x H' R',K v T' W'/\Round2 P (R.ob n) xs H (.ret x) H'/\WR R' v x/\RelT R' T' Tc/\RelH R' W' H'/\Kept R W H R' W' H'):YieldS P n vs T W K
section
variable (P:Program) (tab:Tab) (Y:YP)
inductive CallS (P:Program) (f:FuncId) (vs:List WV) (W:WH) (K:WK):Prop
 |mk (h:∀(R:Rn) (H:Heap) (xs:List AV),RelH R W H->WRs R vs xs->∃v W' e x H' R',K v W' e/\GL∈e.wr/\Valid2 P f xs H (.ret x) H'/\R.Le R'/\WR R' v x/\RelH R' W' H'/\Kept R W H R' W' H'/\
  ∀ow,Owns ow R W->∃ow',(∀c,c<H.next->ow' c=ow c)/\Owns ow' R' W'):CallS P f vs W K
def scB:WV->Bool
 |.sc _=>true
 |_=>false
theorem plain_of_scs {cs:List WV} {xs:List AV} (h:PRs cs xs) (hc:cs.all scB=true):xs.all plain=true:=by
 induction cs generalizing xs with
 |nil=>cases h;rfl
 |cons c cs ih=>
  cases h with
  |cons h hs=>
   simp only [List.all_cons,Bool.and_eq_true] at hc ⊢
   refine ⟨?_,ih hs hc.2⟩
   cases c<;>first | (cases hc.1;done) | skip
   obtain rfl:=h.sc_inv
   rfl
theorem plain_of_scss {es:List (List WV)} {zs:List (List AV)} (h:PRss es zs) (hc:es.all (·.all scB)=true):zs.all (·.all plain)=true:=by
 induction es generalizing zs with
 |nil=>cases h;rfl
 |cons c cs ih=>
  cases h with
  |cons h hs=>
   simp only [List.all_cons,Bool.and_eq_true] at hc ⊢
   exact ⟨plain_of_scs h hc.1,ih hs hc.2⟩
def thawW (r:WV) (H:WH) (ns:List Nat):WH:=match r with
 |.sc _=>H
 |_=>freezeH H ns
def callsW (T:WT) (H:WH) (K:WK) (Kf:WKF) (Kp:AV->Prop) (f:FuncId) (vs:List WV):Prop:=bif Y.far.contains f then FarS P f vs T H Kf else viewVs H vs λargs ns=>
 (∃G,WValid P f args G/\∀r,G r->K r (thawW r H ns) ⟨[],rootsW H.objs ns⟩)\/
 (∃s z G,WOwn P f args s z G/\∀es,G es->newRow (freezeH H ns) es s z [] λv H' e=>K v H' ⟨[],e.wr++rootsW H.objs ns⟩)\/
 (∃m post es s rt G,vs=.row m::post/\lk H.objs m=some (.row es s false rt)/\leafs es/\post.all leafB=true/\WUpd P f post s es G/\∀es',G es'->newName H m (.row es' s false rt) ⟨[rt],[rt,GL]⟩ K)\/
 (∃m post es s rt G,vs=.row m::post/\lk H.objs m=some (.row es s false rt)/\leafs es/\post.all leafB=true/\WSet P f post s es G/\∀es',G es'->K undefW ⟨(m,.row es' s false rt)::H.objs,H.nx⟩ ⟨[rt],[rt,GL]⟩)\/
 CallS P f vs H K\/
 (∃G Gp,WValidP P f args G Gp/\(∀r,G r->K r (thawW r H ns) ⟨[],rootsW H.objs ns⟩)/\∀v,Gp v->Kp v)\/
 (∃s G,WOwnS P f args s G/\(∀es,G es->es.all (·.all scB)=true/\newRow H es s false [] λv H' e=>K v H' ⟨rootsW H.objs ns,e.wr⟩)/\(G []->K (.lst []) H ⟨rootsW H.objs ns,[]⟩))
def argsW (T:WT) (H:WH) (K:WK) (Kf:WKF) (Kp:AV->Prop) (f:FuncId) (xs:List Operand):Prop:=match mapO (evW T) xs with
 |some vs=>callsW P Y T H K Kf Kp f vs
 |none=>False
def valW (T:WT) (H:WH) (K:WK) (Kf:WKF) (Kp:AV->Prop) (g:Operand) (xs:List Operand):Prop:=match evW T g,mapO (evW T) xs with
 |some (.fn f a b),some vs=>callsW P Y T H K Kf Kp f (a++vs++b)
 |some (.fnp f a b),some vs=>callsW P Y T H K Kf Kp f (a++vs++b)
 |some (.yld n),some vs=>bif Y.out then YieldS P n vs T H Kf else False
 |_,_=>False
def invW (T:WT) (H:WH) (K:WK) (Kf:WKF) (Kp:AV->Prop) (r:Operand) (m:String) (xs:List Operand):Prop:=match evW T r,mapO (evW T) xs with
 |some (.ifc t v),some vs=>∃f,MethOK P t m f/\callsW P Y T H K Kf Kp f (v::vs)
 |_,_=>False
def callW (T:WT) (H:WH) (K:WK) (Kf:WKF) (Kp:AV->Prop) (c:Call):Prop:=match c.callee with
 |.builtin b=>builtinW tab T H K b c.argTypes.toList c.args.toList
 |.value (.func f)=>argsW P Y T H K Kf Kp f c.args.toList
 |.value (.tmp t)=>valW P Y T H K Kf Kp (.tmp t) c.args.toList
 |.invoke r m=>invW P Y T H K Kf Kp r m c.args.toList
 |_=>False
def makeW (T:WT) (H:WH) (K:WK) (f:Fn) (first caps:Array Operand):Prop:=match f,mapO (evW T) first.toList,mapO (evW T) caps.toList with
 |.func g,some a,some b=>plainK (.fn g a b) H K
 |_,_,_=>False
def ifaceW (T:WT) (H:WH) (K:WK) (t:TypeId) (x:Operand):Prop:=match tab t,evW T x with
 |some d,some v=>(match d.k with
  |.other | .iface=>False
  |_=>plainK (.ifc t v) H K)
 |_,_=>False
def panicW (T:WT) (Kp:AV->Prop) (x:Operand):Prop:=match evW T x with
 |some (.ifc t (.agg cs))=>bif cs.all leafB then ∀xs,PRs cs xs->Kp (.ifc t (.agg xs)) else False
 |_=>False
def opW (T:WT) (H:WH) (o:Oper) (K:WK) (Kf:WKF) (Kp:AV->Prop):Prop:=
 match o.op with
 |.move x=>mvW T H K x
 |.assign x=>mvW T H K x
 |.pick c a b=>pickW T H K c a b
 |.alloc t=>allocW tab H K t
 |.box t x=>boxW tab T H K t x
 |.build t parts=>buildW tab T H K t parts
 |.buildSlice t len parts=>rowsW tab T H K t len parts
 |.load t a=>loadW tab T H K t a
 |.store t a x=>storeW tab T H K t a x
 |.nilCheck x=>nilW' T H K x
 |.binOp op t x y _=>binW tab T H K op t x y
 |.unOp op _ x=>unW T H K op x
 |.convert s d x=>convW tab T H K s d x
 |.fieldAddr t x f=>fieldAddrW tab T H K t x f
 |.field t x f=>fieldW tab T H K t x f
 |.indexAddr t x i=>indexAddrW tab T H K t x i
 |.index t x i=>indexW tab T H K t x i
 |.slice t x lo hi mx=>sliceW tab T H K t x lo hi mx
 |.extract t i=>extractW T H K t i
 |.call c=>callW P tab Y T H K Kf Kp c
 |.makeInterface t x=>ifaceW tab T H K t x
 |.makeFunc f first caps=>makeW T H K f first caps
 |.makeSlice t l c=>makeSliceW tab T H K t l c
 |.makeMap t r=>makeMapW tab T H K t r
 |.lookup t x k ok=>lookupW tab T H K t x k ok
 |.mapUpdate t m k x=>updMapW tab T H K t m k x
 |.mapEntry t m k=>entryW tab T H K t m k
 |.entryStore _ m s x=>entryStoreW T H K m s x
 |.panic x=>panicW T Kp x
 |_=>False
def wantW (ops:Array Oper) (T:WT) (o:Oper) (Y:WT->Prop) (N:WT->Prop):Prop:=
 match o.guard with
 |none=>Y T
 |some (j,want)=>match (ops[j]?).bind (·.dst) with
  |none=>N T
  |some d=>match lk T d with
   |some (.sc (.bool b))=>both b (match want with | true=>Y ((d,.sc (.bool true))::T) | false=>N ((d,.sc (.bool true))::T)) (match want with | true=>N ((d,.sc (.bool false))::T) | false=>Y ((d,.sc (.bool false))::T))
   |some (.sc (.tuple _))=>N T
   |_=>False
def putW (d:Option Tmp) (T:WT) (v:WV) (K:WT->Prop):Prop:=match d with | some d=>K ((d,v)::T) | none=>K T
def farK (far:Bool) (d:Option Tmp) (ih:WT->WH->List WE->Prop) (rs:List WE):WKF:=match far with
 |true=>λv T H=>putW d T v λT=>ih T H (⟨[],[GL]⟩::rs)
 |false=>λ_ _ _=>False
def opsW (ops:Array Oper) (far:Bool) (K:WT->WH->List WE->Prop) (Kp:List WE->AV->Prop) (l:List Oper):WT->WH->List WE->Prop:=
 List.rec K (λo _ ih T H rs=>wantW ops T o (λT=>opW P tab Y T H o (λv H' e=>putW o.dst T v λT=>ih T H' (e::rs)) (farK far o.dst ih rs) (Kp rs)) (λT=>putW o.dst T undefW λT=>ih T H (⟨[],[]⟩::rs))) l
inductive WX where
 |normal
 |exit (id:Nat)
 |ret
 |pan (v:AV)
abbrev WQ:=WX->WT->WH->Prop
def apartW (a b:WE):Bool:=!(a.wr.contains GL)&&!(b.wr.contains GL)&&a.wr.all (λn=>!(b.rd.contains n)&&!(b.wr.contains n))&&b.wr.all (λn=>!(a.rd.contains n))
def drawW (ops:Array Oper) (l:List Oper) (recs:List WE):Bool:=
 recs.length==l.length &&
 (List.range l.length).all (λj=>match l[j]? with
  |some o=>o.after.toList.all (λe=>!Region.binds .any e || decide (e.on<j)) &&
   (List.range j).all (λi=>((befs l []).getD j 0).testBit i || (match l[i]? with
    |some p=>p.apart ops o&&apartW (recs.getD i ⟨[],[]⟩) (recs.getD j ⟨[],[]⟩)
    |none=>false))
  |none=>false)
def regionW (ops:Array Oper) (draw:Bool) (T:WT) (H:WH) (Q:WQ):Prop:=
 opsW P tab Y ops (!draw) (λT' H' rs=>match draw with | true=>drawW ops ops.toList rs.reverse=true/\Q .normal T' H' | false=>Q .normal T' H') (λrs v=>match draw with | true=>drawW ops ops.toList (⟨[],[GL]⟩::rs).reverse=true/\Q (.pan v) [] ⟨[],0⟩ | false=>Q (.pan v) [] ⟨[],0⟩) ops.toList T H []
end
end
end Go.Abs
end
