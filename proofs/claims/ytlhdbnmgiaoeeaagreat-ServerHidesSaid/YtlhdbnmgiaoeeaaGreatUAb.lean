/- Of ServerHides: lemmas. -/
import Derived.Test.YtlhdbnmgiaoeeaaGreatUAa
set_option linter.all false
section
namespace Go.Abs
variable {P:Program} {tab:Tab} {σ:Sg}
def Foot (H:Heap) (σ:Sg) (r:Res):Prop:=∀rd ups news,r.e=.loc rd ups news->∀m∈rd,look H.objs m=σ.h m
theorem isl_at {es:List (List AV)} {a:Addr} {vs:List Value} {s:Nat} (h:TVs σ.w σ.I σ.J es.flatten vs) (hr:es≠[]->Row σ.w σ.I a vs) (hs:∀e∈es,e.length=s) {i:Nat} {c:List AV}
 (hc:es[i]?=some c):VR σ (.ipt c) (.pointer (some (a.add (i*s)))):=by
 obtain ⟨b,o,sp⟩:=a
 obtain ⟨rfl,hr⟩:=hr (λe=>by grind)
 rw [Addr.add_mid]
 have e:c=(es.flatten.drop (i*s)).take s:=by
  have:=flatten_at (fo:=0) (n:=s) hs hc (by omega)
  rw [Nat.add_zero,List.drop_zero] at this
  rw [this,List.take_of_length_le (Nat.le_of_eq (hs c (List.mem_of_getElem? hc)))]
 rw [e]
 refine .tree (.ipt ((h.drop (i*s)).take s) ⟨rfl,λj v hv=>?_⟩)
 grind
theorem indexAt_ok (tabOk:TabOK P tab) (sr:SR σ) {H:Heap} {t:TypeId} {d:TyD} (hd:tab t=some d) {x:AV} {xv:Value} (hx:VR σ x xv) {k:IntKind} {i:Int} {r:Res}
 (h:indexAtA tab H d x i=some r) (hf:Foot H σ r):(∃rd,r.e=.loc rd [] 0)/\Qt P (Instr.indexAt t xv (.int k i)) σ r.v:=by
 have D:=tabOk t d hd
 have hu:=D.under
 unfold indexAtA at h
 split at h
 ·rename_i e hk
  simp only [KOK,hk] at hu
  split at h
  ·rename_i de hde
   have De:=tabOk e de hde
   split at h
   ·rename_i es c
    split at h
    ·rename_i h0
     split at h
     ·rename_i cc hc
      split at h
      ·rename_i hl
       cases h
       obtain ⟨a,vs,s,cap,rfl,ht,hr,hs,_,_⟩:=hx.isl_inv
       have hss:s=de.size:=by grind
       subst hss
       have hlt:=(List.getElem?_eq_some_iff.1 hc).1
       refine ⟨⟨[],rfl⟩,_,?_,isl_at ht hr hs hc⟩
       have h1:0<=i/\i<(es.length:Int):=⟨h0,by omega⟩
       simp only [Instr.indexAt,asIntOf,Sem.run_bind,Sem.run_pure,Result.andThen_ok,run_under hu,if_pos h1,De.run_sizeOf]
      ·cases h
     ·cases h
    ·cases h
   ·rename_i n g off len cap
    split at h
    ·rename_i es s fz ho
     split at h
     ·rename_i hc
      obtain ⟨hg,hs,h0,hi,hol⟩:=hc
      cases h
      have hn:σ.h n=some (.cells es s fz):=by rw [<-hf _ _ _ rfl n (by simp)];exact ho
      obtain ⟨cap',arr,t',rg,rfl,hw,hl,hr,hle,hcap⟩:=hx.sl_inv sr hn hg
      refine ⟨⟨[n],rfl⟩,.pointer (some ⟨σ.r n,off*s+i.toNat*de.size,none⟩),?_,?_⟩
      ·have h1:0<=i/\i<(len:Int):=⟨h0,hi⟩
       simp only [Instr.indexAt,asIntOf,Sem.run_bind,Sem.run_pure,Result.andThen_ok,run_under hu,if_pos h1,De.run_sizeOf,Addr.add_mid]
      ·have:=VR.pt (σ:=σ) (i:=off+i.toNat) (fo:=0) hn
       grind
     ·cases h
    ·cases h
   ·cases h
  ·cases h
 ·rename_i m e hk
  simp only [KOK,hk] at hu
  split at h
  ·rename_i de hde
   have De:=tabOk e de hde
   split at h
   ·rename_i hi
    have key:∀b o,(Instr.indexAt t (.pointer (some ⟨b,o,none⟩)) (.int k i)).run P σ.w=.ok (.pointer (some ⟨b,o+i.toNat*de.size,none⟩)) σ.w:=λb o=>by
     simp only [Instr.indexAt,asIntOf,Sem.run_bind,Sem.run_pure,Result.andThen_ok,run_under hu,Instr.sureAddr,Addr.add_mid]
     rw [if_pos hi]
     simp only [Sem.run_bind,Sem.run_pure,Result.andThen_ok,De.run_sizeOf]
    split at h
    ·split at h
     ·cases h
      obtain ⟨b,o,rfl,hv⟩:=ipt_shift hx (i.toNat*de.size)
      exact ⟨⟨[],rfl⟩,_,key b o,hv⟩
     ·cases h
    ·rename_i n g kk fo
     split at h
     ·rename_i es s fz ho
      split at h
      ·rename_i hc
       obtain ⟨hg,hs,hfo,hkm⟩:=hc
       cases h
       have hn:σ.h n=some (.cells es s fz):=by rw [<-hf _ _ _ rfl n (by simp)];exact ho
       have hp:=hx.pt_inv sr hn hg
       subst hp
       refine ⟨⟨[n],rfl⟩,_,key _ _,?_⟩
       have:=VR.pt (σ:=σ) (i:=kk+i.toNat) (fo:=0) hn
       grind
      ·split at h
       ·cases h
        obtain ⟨b,o,rfl,hv⟩:=pt_shift hx (i.toNat*de.size)
        exact ⟨⟨[n],rfl⟩,_,key b o,hv⟩
       ·cases h
     ·cases h
    ·cases h
   ·cases h
  ·cases h
 ·cases h
theorem index_ok (tabOk:TabOK P tab) {t:TypeId} {d:TyD} (hd:tab t=some d) {x:AV} {xv:Value} (hx:VR σ x xv) {k:IntKind} {i:Int} {r:Res}
 (h:indexA tab d x i=some r):r.e=.loc [] [] 0/\Qt P (Instr.index t xv (.int k i)) σ r.v:=by
 have D:=tabOk t d hd
 have hu:=D.under
 unfold indexA at h
 split at h
 ·rename_i s hk
  simp only [KOK,hk] at hu
  obtain ⟨rfl,_⟩:=hx.sc_inv
  split at h
  ·rename_i h0
   split at h
   ·rename_i b hb
    cases h
    refine ⟨rfl,_,?_,.tree (.sc rfl)⟩
    simp only [Instr.index,asIntOf,Sem.run_bind,Sem.run_pure,Result.andThen_ok,run_under hu,if_pos h0,hb]
   ·cases h
  ·cases h
 ·rename_i n e cs hk
  simp only [KOK,hk] at hu
  split at h
  ·rename_i hi
   split at h
   ·rename_i de hde
    split at h
    ·rename_i v hv
     cases h
     obtain ⟨ds,rfl,hds⟩:=hx.agg_inv
     obtain ⟨y,hy,hvy⟩:=run_part tabOk hds hv
     refine ⟨rfl,y,?_,hvy⟩
     simp only [Instr.index,asIntOf,Sem.run_bind,Sem.run_pure,Result.andThen_ok,run_under hu,if_pos hi,(tabOk _ _ hde).run_sizeOf,hy]
    ·cases h
   ·cases h
  ·cases h
 ·cases h
def OptInt (x:Option Int) (v:Option Value):Prop:=(x=none/\v=none)\/∃n k,x=some n/\v=some (.int k n)
theorem bounds_ok {isSlice:Bool} {len cl cap':Nat} {cap:Option Nat} {lo hi mx:Option Int} {lv hv mv:Option Value} {l h:Nat} {m:Option Nat} {w:World}
 (hb:boundsA len cl cap lo hi mx=some (l,h,m)) (hl:OptInt lo lv) (hh:OptInt hi hv) (hm:OptInt mx mv) (hle:len<=cap') (hc:∀c,cap=some c->cap'=c) (hlc:len<=cl) (hcl:cap=none->cl<=cap') :
 (Instr.sliceBounds isSlice len cap' lv hv mv).run P w=.ok (l,h,m.getD cap') w/\l<=h/\h<=m.getD cap'/\(m=none->h<=cl)/\(∀c,m=some c->c<=cap'/\(cap=some c\/mx.isSome))/\(m=none->cap=none):=by
 have bnd:∀(v:Int) (k:IntKind) (y:Nat) (code:BoundsCode),0<=v->v<=y->(Instr.sliceBound (.int k v) y code).run P w=.ok v.toNat w:=λv k y code h1 h2=>by
  simp only [Instr.sliceBound,asIntOf,Sem.run_bind,Sem.run_pure,Result.andThen_ok]
  simp_all
 unfold boundsA at hb
 split at hb
 ·cases hb
 ·rename_i m0 hm0
  split at hb
  ·cases hb
  ·rename_i h0 hh0
   split at hb
   ·cases hb
   ·rename_i l0 hl0
    cases hb
    have M1:mx=none->m=cap:=λe=>by subst e;simpa [mxA] using hm0.symm
    have M2:∀n,mx=some n->0<=n/\n<=cap'/\m=some n.toNat:=λn e=>by
     subst e
     simp only [mxA] at hm0
     grind
    have M3:(∀c,m=some c->c<=cap'/\(cap=some c\/mx.isSome))/\(m=none->cap=none):=by
     cases hmx:mx with
     |none=>
      grind
     |some n=>
      grind
    have H1:hi=none->mx=none/\h=len:=λe=>by
     subst e
     cases mx with
     |none=>simpa [hiA] using hh0.symm
     |some n=>simp [hiA] at hh0
    have H2:∀n,hi=some n->0<=n/\n<=(m.getD cap':Nat)/\h=n.toNat/\(m=none->n<=cl):=λn e=>by
     subst e
     simp only [hiA] at hh0
     grind
    have L1:lo=none->l=0:=λe=>by subst e;simpa [loA] using hl0.symm
    have L2:∀n,lo=some n->0<=n/\n<=h/\l=n.toNat:=λn e=>by
     subst e
     simp only [loA] at hl0
     split at hl0<;>simp_all
    have hhm:h<=m.getD cap':=by
     cases hhi:hi with
     |none=>
      obtain ⟨e1,rfl⟩:=H1 hhi
      rw [M1 e1]
      cases cap with
      |none=>exact hle
      |some c=>grind
     |some n=>grind
    have hlh:l<=h:=by
     cases hlo:lo with
     |none=>grind
     |some n=>grind
    refine ⟨?_,hlh,hhm,λe=>?_,M3.1,M3.2⟩
    ·rcases hm with ⟨em,rfl⟩ | ⟨nm,km,em,rfl⟩
     ·have em':=M1 em
      have hcg:m.getD cap'=cap':=by
       rw [em']
       cases cap with
       |none=>rfl
       |some c=>grind
      rcases hh with ⟨eh,rfl⟩ | ⟨nh,kh,eh,rfl⟩
      ·obtain ⟨_,rfl⟩:=H1 eh
       rcases hl with ⟨el,rfl⟩ | ⟨nl,kl,el,rfl⟩
       ·rw [L1 el,hcg];rfl
       ·obtain ⟨p,q,rfl⟩:=L2 nl el
        simp only [Instr.sliceBounds,Sem.run_bind,Sem.run_pure,Result.andThen_ok,bnd nl kl h _ p q,hcg]
      ·obtain ⟨p',q',rfl,_⟩:=H2 nh eh
       rw [hcg] at q'
       rcases hl with ⟨el,rfl⟩ | ⟨nl,kl,el,rfl⟩
       ·rw [L1 el,hcg]
        simp only [Instr.sliceBounds,Sem.run_bind,Sem.run_pure,Result.andThen_ok,bnd nh kh cap' _ p' q']
       ·obtain ⟨p,q,rfl⟩:=L2 nl el
        simp only [Instr.sliceBounds,Sem.run_bind,Sem.run_pure,Result.andThen_ok,bnd nh kh cap' _ p' q',bnd nl kl _ _ p q,hcg]
     ·obtain ⟨p2,q2,rfl⟩:=M2 nm em
      rcases hh with ⟨eh,rfl⟩ | ⟨nh,kh,eh,rfl⟩
      ·grind
      ·obtain ⟨p',q',rfl,_⟩:=H2 nh eh
       simp only [Option.getD_some] at q' ⊢
       rcases hl with ⟨el,rfl⟩ | ⟨nl,kl,el,rfl⟩
       ·rw [L1 el]
        simp only [Instr.sliceBounds,Sem.run_bind,Sem.run_pure,Result.andThen_ok,bnd nm km cap' _ p2 q2,bnd nh kh nm.toNat _ p' q']
       ·obtain ⟨p,q,rfl⟩:=L2 nl el
        simp only [Instr.sliceBounds,Sem.run_bind,Sem.run_pure,Result.andThen_ok,bnd nm km cap' _ p2 q2,bnd nh kh nm.toNat _ p' q',bnd nl kl _ _ p q]
    ·cases hhi:hi with
     |none=>grind
     |some n=>grind
theorem vrs_sub {es:List (List AV)} {s:Nat} {vs:List Value} {w:World} {I:Nat->Nat->Prop} {J:Nat->Prop} (h:TVs w I J es.flatten vs) (hs:∀e∈es,e.length=s) (l n:Nat) :
 TVs w I J ((es.drop l).take n).flatten ((vs.drop (l*s)).take (n*s)):=by
 rw [flatten_take n (λe he=>hs e (List.mem_of_mem_drop he)),flatten_drop l hs]
 exact (h.drop _).take _
theorem row_sub {w:World} {I:Nat->Nat->Prop} {b o:Nat} {vs:List Value} (h:Row w I ⟨b,o,none⟩ vs) (l n:Nat):Row w I ⟨b,o+l,none⟩ ((vs.drop l).take n):=by
 refine ⟨rfl,λj v hv=>?_⟩
 rw [List.getElem?_take] at hv
 split at hv
 ·rw [List.getElem?_drop] at hv
  have:=h.2 _ v hv
  simp only [] at this ⊢
  rwa [<-Nat.add_assoc] at this
 grind
theorem slice_ok (tabOk:TabOK P tab) (sr:SR σ) {H:Heap} {t:TypeId} {d:TyD} (hd:tab t=some d) {x:AV} {xv:Value} (hx:VR σ x xv) {lo hi mx:Option Int} {lv hv mv:Option Value}
 (hl:OptInt lo lv) (hh:OptInt hi hv) (hm:OptInt mx mv) {r:Res} (h:sliceA tab H d x lo hi mx=some r) (hf:Foot H σ r) :
 (∃rd,r.e=.loc rd [] 0)/\Qt P (Instr.sliceAt t xv lv hv mv) σ r.v:=by
 have D:=tabOk t d hd
 have hu:=D.under
 unfold sliceA at h
 split at h
 ·
  rename_i hk
  simp only [KOK,hk] at hu
  split at h
  ·rename_i s
   split at h
   ·rename_i l hh0 m hb
    cases h
    obtain ⟨rfl,_⟩:=hx.sc_inv
    obtain ⟨h1,h2,h3,_,_,_⟩:=bounds_ok (P:=P) (isSlice:=false) (w:=σ.w) hb hl hh (.inl ⟨rfl,rfl⟩) (Nat.le_refl _) (λc e=>by grind) (Nat.le_refl _) (λe=>by cases e)
    rcases hm with ⟨_,rfl⟩ | ⟨n,k,e,_⟩
    ·refine ⟨⟨[],rfl⟩,_,?_,.tree (.sc rfl)⟩
     simp only [Instr.sliceAt,Instr.slice,Sem.run_bind,run_under hu,Result.andThen_ok,Option.isSome_none,Bool.false_eq_true,if_false,h1]
     rfl
    ·cases e
   ·cases h
  ·cases h
 ·rename_i e hk
  simp only [KOK,hk] at hu
  split at h
  ·rename_i de hde
   have De:=tabOk e de hde
   split at h
   ·
    obtain ⟨rfl,_⟩:=hx.sc_inv
    split at h
    ·rename_i bb hb
     obtain ⟨l,hh0,m⟩:=bb
     cases h
     obtain ⟨h1,h2,h3,h4,h5,h6⟩:=bounds_ok (P:=P) (isSlice:=true) (w:=σ.w) hb hl hh hm (Nat.le_refl 0) (λc e=>by grind) (Nat.le_refl _) (λe=>by cases e)
     have hm0:m.getD 0=0:=by
      cases m with
      |none=>rfl
      |some c=>grind
     rw [hm0] at h1 h3
     have hh00:hh0=0:=by omega
     have hl0:l=0:=by omega
     subst hh00;subst hl0
     refine ⟨⟨[],rfl⟩,_,?_,hx⟩
     simp only [Instr.sliceAt,Instr.slice,Sem.run_bind,run_under hu,Result.andThen_ok,h1,De.run_sizeOf]
     rfl
    ·cases h
   ·
    rename_i es capd
    split at h
    ·rename_i l hh0 m hb
     split at h
     ·rename_i hcond
      obtain ⟨hle,hall⟩:=hcond
      cases h
      obtain ⟨a,vs,s,cap,rfl,ht,hr,hs,hc,hcd⟩:=hx.isl_inv
      obtain ⟨h1,h2,h3,h4,h5,h6⟩:=bounds_ok (P:=P) (isSlice:=true) (w:=σ.w) (cap':=cap) hb hl hh hm hc (λc e=>by
       grind) (Nat.le_refl _) (λ_=>hc)
      have hss:∀e∈es,e.length=de.size:=λe he=>by
       grind
      have hlen:((es.drop l).take (hh0-l)).length=hh0-l:=by grind
      refine ⟨⟨[],rfl⟩,.slice (some (if m.getD cap=l then a else a.add (l*de.size))) (hh0-l) (m.getD cap-l),?_,?_⟩
      ·simp only [Instr.sliceAt,Instr.slice,Sem.run_bind,run_under hu,Result.andThen_ok,h1,De.run_sizeOf,Option.map_some,Sem.run_pure]
       split<;>rfl
      ·have hrow:(es.drop l).take (hh0-l)≠[]->Row σ.w σ.I (if m.getD cap=l then a else a.add (l*de.size)) ((vs.drop (l*de.size)).take ((hh0-l)*de.size)):=λhne=>by
        obtain ⟨b,o,sp⟩:=a
        obtain ⟨rfl,hr2⟩:=hr (λe=>hne (by grind))
        rw [Addr.add_mid]
        split
        ·simp_all
        grind [row_sub]
       have:=TV.isl (capd:=m==some hh0) (cap:=m.getD cap-l) (vrs_sub ht hss l (hh0-l)) hrow (λe he=>hss e (List.mem_of_mem_drop (List.mem_of_mem_take he)))
        (by omega) (λe=>by
         grind)
       rw [hlen] at this
       exact .tree this
     ·cases h
    ·cases h
   ·
    rename_i n g off len cap
    split at h
    ·rename_i es s fz ho
     split at h
     ·rename_i hcond
      obtain ⟨hg,hs⟩:=hcond
      split at h
      ·rename_i l hh0 m hb
       have fin:∀(off':Nat) (c':Option Nat),some r=reads (.sl n g off' (hh0-l) c') n->(σ.h n=some (.cells es s fz)):=λoff' c' e=>by
        cases e
        rw [<-hf _ _ _ rfl n (by simp)];exact ho
       split at h
       ·rename_i c
        split at h
        ·rename_i hoc
         have hn:=fin _ _ h.symm
         cases h
         obtain ⟨cap',arr,t',rg,rfl,hw,hl',hr,hle,hcap⟩:=hx.sl_inv sr hn hg
         obtain ⟨h1,h2,h3,h4,h5,h6⟩:=bounds_ok (P:=P) (isSlice:=true) (w:=σ.w) (cap':=cap') hb hl hh hm hle (λc e=>(hcap.1 c e).1) (by omega) (λe=>by have:=hcap.2 e;omega)
         simp only [Option.getD_some] at h1 h3
         have hcc:=(h5 c rfl).1
         refine ⟨⟨[n],rfl⟩,.slice (some ⟨σ.r n,(if c=l then off else off+l)*s,none⟩) (hh0-l) (c-l),?_,?_⟩
         ·simp only [Instr.sliceAt,Instr.slice,Sem.run_bind,run_under hu,Result.andThen_ok,h1,De.run_sizeOf,Option.map_some,Addr.add_mid,Sem.run_pure]
          grind
         ·rw [<-hg]
          have hb2:((if c=l then off else off+l)+(c-l))*s<=arr.size:=by
           refine Nat.le_trans (Nat.mul_le_mul_right s ?_) hr
           split<;>omega
          refine VR.sl hn hw (by rw [hg];split<;>omega) hb2 (by omega) ⟨λc'' e=>?_,λe=>by cases e⟩
          cases e
          refine ⟨rfl,?_⟩
          rw [hg]
          split<;>omega
        ·cases h
       ·split at h
        ·rename_i hoc
         have hn:=fin _ _ h.symm
         cases h
         obtain ⟨cap',arr,t',rg,rfl,hw,hl',hr,hle,hcap⟩:=hx.sl_inv sr hn hg
         obtain ⟨h1,h2,h3,h4,h5,h6⟩:=bounds_ok (P:=P) (isSlice:=true) (w:=σ.w) (cap':=cap') hb hl hh hm hle (λc e=>(hcap.1 c e).1) (by omega) (λe=>by have:=hcap.2 e;omega)
         have hcn:=h6 rfl
         subst hcn
         have hg2:=hcap.2 rfl
         simp only [Option.getD_none] at h1 h3
         have hne:l=0\/¬(cap'=l):=by
          omega
         refine ⟨⟨[n],rfl⟩,.slice (some ⟨σ.r n,(off+l)*s,none⟩) (hh0-l) (cap'-l),?_,?_⟩
         ·simp only [Instr.sliceAt,Instr.slice,Sem.run_bind,run_under hu,Result.andThen_ok,h1,De.run_sizeOf,Option.map_some,Addr.add_mid,Sem.run_pure]
          grind
         ·rw [<-hg]
          refine VR.sl hn hw (by omega) (Nat.le_trans (Nat.mul_le_mul_right s (by omega)) hr) (by omega) ⟨λc'' e=>by (cases e),λ_=>by omega⟩
        ·split at h
         ·rename_i hlh
          have hn:σ.h n=some (.cells es s fz):=by
           cases h
           rw [<-hf _ _ _ rfl n (by simp)];exact ho
          cases h
          obtain ⟨cap',arr,t',rg,rfl,hw,hl',hr,hle,hcap⟩:=hx.sl_inv sr hn hg
          obtain ⟨h1,h2,h3,h4,h5,h6⟩:=bounds_ok (P:=P) (isSlice:=true) (w:=σ.w) (cap':=cap') hb hl hh hm hle (λc e=>(hcap.1 c e).1) (by omega) (λe=>by have:=hcap.2 e;omega)
          subst hlh
          simp only [Option.getD_none] at h1 h3
          refine ⟨⟨[n],rfl⟩,.slice (some (if cap'=l then ⟨σ.r n,off*s,none⟩ else ⟨σ.r n,off*s+l*de.size,none⟩)) 0 (cap'-l),?_,?_⟩
          ·simp only [Instr.sliceAt,Instr.slice,Sem.run_bind,run_under hu,Result.andThen_ok,h1,De.run_sizeOf,Option.map_some,Addr.add_mid,Sem.run_pure,Nat.sub_self]
           split<;>rfl
          ·refine .tree (TV.isl (es:=[]) (vs:=[]) (s:=0) .nil (λh=>absurd rfl h) (λe he=>by cases he) (Nat.zero_le _) (λe=>by cases e))
         ·cases h
      ·cases h
     ·cases h
    ·cases h
   ·cases h
  ·cases h
 ·rename_i m e hk
  simp only [KOK,hk] at hu
  split at h
  ·rename_i de hde
   have De:=tabOk e de hde
   split at h
   ·rename_i n g k fo
    split at h
    ·rename_i es s fz ho
     split at h
     ·rename_i hcond
      obtain ⟨hg,hs,hfo,hkm⟩:=hcond
      split at h
      ·rename_i l hh0 c hb
       have hn:σ.h n=some (.cells es s fz):=by
        cases h
        rw [<-hf _ _ _ rfl n (by simp)];exact ho
       cases h
       have hp:=hx.pt_inv sr hn hg
       subst hp
       obtain ⟨arr,t0,rg,full,q1,qj,q2,q3,q4,q5,q6,q7⟩:=sr.obj n _ hn
       have hfl:=flatten_length q4
       have hfull:=q3.length
       obtain ⟨h1,h2,h3,h4,h5,h6⟩:=bounds_ok (P:=P) (isSlice:=false) (w:=σ.w) (cap':=m) hb hl hh hm (Nat.le_refl _) (λc e=>by grind) (Nat.le_refl _) (λe=>by cases e)
       simp only [Option.getD_some] at h1 h3
       have hcm:=(h5 c rfl).1
       subst hfo
       refine ⟨⟨[n],rfl⟩,.slice (some ⟨σ.r n,(if c=l then k else k+l)*s,none⟩) (hh0-l) (c-l),?_,?_⟩
       ·simp only [Instr.sliceAt,Sem.run_bind,run_under hu,Result.andThen_ok,h1,De.run_sizeOf,Instr.sureAddr,Addr.add_mid,Sem.run_pure,Nat.add_zero]
        grind
       ·rw [<-hg]
        have hsz:(k+m)*s<=arr.size:=by
         refine Nat.le_trans (Nat.mul_le_mul_right s hkm) ?_
         grind
        refine VR.sl hn q1 (by rw [hg];split<;>omega) (Nat.le_trans (Nat.mul_le_mul_right s (by split<;>omega)) hsz) (by omega) ⟨λc'' e=>?_,λe=>by cases e⟩
        cases e
        refine ⟨rfl,?_⟩
        rw [hg]
        split<;>omega
      ·cases h
     ·cases h
    ·cases h
   ·cases h
  ·cases h
 ·cases h
end Go.Abs
end
section
namespace Go.Abs
variable {P:Program} {tab:Tab} {σ:Sg}
theorem keyOf_vr {kt:TypeId} {dk:TyD} (D:DescOK P kt dk) {k:AV} {kv v:Value} (h:keyOf dk.k k=some kv) (hv:VR σ k v) :
 v=kv/\(∀(b:Bool) w,(Instr.checkKey b 10000 kt kv).run P w=.ok () w)/\
 ∃u,P.underlying kt=some u/\(∀x r,sameKey kv x=some r->Instr.sameNow u kv x=some r):=by
 have hu:=D.under
 have chk:∀(u:TypeDesc),P.underlying kt=some u->(match u,kv with | .interface _,_ | .array _ _,_ | .struct _,_=>False | _,_=>True)->∀(b:Bool) w,(Instr.checkKey b 10000 kt kv).run P w=.ok () w:=by
  intro u hu' hn b w
  have e:Instr.checkKey b 10000 kt kv=Instr.checkKey b (9999+1) kt kv:=rfl
  rw [e]
  unfold Instr.checkKey
  simp only [Sem.run_bind,run_under hu',Result.andThen_ok]
  cases u<;>simp_all
 unfold keyOf at h
 split at h
 ·rename_i kk j n hk _
  cases h
  obtain ⟨rfl,_⟩:=hv.sc_inv
  rw [hk] at hu
  simp only [KOK] at hu
  refine ⟨rfl,chk _ hu trivial,_,hu,λx r hr=>?_⟩
  cases x<;>simp only [sameKey] at hr<;>(try cases hr)
  exact hr
 ·rename_i s hk _
  cases h
  obtain ⟨rfl,_⟩:=hv.sc_inv
  rw [hk] at hu
  simp only [KOK] at hu
  refine ⟨rfl,chk _ hu trivial,_,hu,λx r hr=>?_⟩
  cases x<;>simp only [sameKey] at hr<;>(try cases hr)
  rfl
 ·rename_i b hk _
  cases h
  obtain ⟨rfl,_⟩:=hv.sc_inv
  rw [hk] at hu
  simp only [KOK] at hu
  refine ⟨rfl,chk _ hu trivial,_,hu,λx r hr=>?_⟩
  cases x<;>simp only [sameKey] at hr<;>(try cases hr)
  rfl
 ·cases h
theorem check_pair {kt e:TypeId} {dk de:TyD} (D:DescOK P kt dk) (hk:dk.k=.arr 2 e) (De:DescOK P e de) (hs:de.k=.str) (h1:de.size=1) (a b:ByteArray) (emp:Bool) (w:World) :
 (Instr.checkKey emp 10000 kt (.agg #[.string a,.string b])).run P w=.ok () w:=by
 have hu:=D.under
 rw [hk] at hu
 simp only [KOK] at hu
 have hue:=De.under
 rw [hs] at hue
 simp only [KOK] at hue
 have hag:de.isAgg=false:=by simp [TyD.isAgg,hs]
 have c:∀(s:ByteArray),(Instr.checkKey emp 9999 e (.string s)).run P w=.ok () w:=λs=>by
  have q:Instr.checkKey emp 9999 e (.string s)=Instr.checkKey emp (9998+1) e (.string s):=rfl
  rw [q]
  unfold Instr.checkKey
  simp only [Sem.run_bind,run_under hue,Result.andThen_ok,Sem.run_pure]
 have q:Instr.checkKey emp 10000 kt (.agg #[.string a,.string b])=Instr.checkKey emp (9999+1) kt (.agg #[.string a,.string b]):=rfl
 rw [q]
 unfold Instr.checkKey
 simp only [Sem.run_bind,run_under hu,Result.andThen_ok,Std.Legacy.Range.forIn_eq_forIn_range',Std.Legacy.Range.size,Nat.sub_zero,Nat.add_one_sub_one,Nat.div_one]
 have p:∀i v,(#[Value.string a,Value.string b]:Array Value)[i]?=some v->(part e #[.string a,.string b] i).run P w=.ok v w:=λi v hv=>by
  simp only [part,Sem.run_bind,De.run_isAgg,hag,Result.andThen_ok,Bool.false_eq_true,if_false,hv,Sem.run_pure]
 have r:List.range' 0 2=[0,1]:=rfl
 simp only [r,List.forIn_cons,List.forIn_nil,Sem.run_bind,De.run_sizeOf,Result.andThen_ok,h1,Nat.zero_mul,Nat.one_mul,p 0 (.string a) rfl,p 1 (.string b) rfl,c,Sem.run_pure]
theorem keyA_vr (tabOk:TabOK P tab) {kt:TypeId} {dk:TyD} (D:DescOK P kt dk) {k:AV} {kv v:Value} (h:keyA tab dk k=some kv) (hv:VR σ k v) :
 v=kv/\(∀(b:Bool) w,(Instr.checkKey b 10000 kt kv).run P w=.ok () w)/\
 ∃u,P.underlying kt=some u/\(∀x r,sameKey kv x=some r->Instr.sameNow u kv x=some r):=by
 unfold keyA at h
 split at h
 ·rename_i v0 h0
  cases h
  exact keyOf_vr D h0 hv
 ·split at h
  ·rename_i e a b hk _
   split at h
   ·rename_i de hde
    split at h
    ·rename_i hs
     split at h
     ·rename_i h1
      cases h
      obtain ⟨ds,rfl,hds⟩:=hv.agg_inv
      cases hds with
      |cons q1 hds=>
       cases hds with
       |cons q2 hds=>
        cases hds
        obtain ⟨rfl,_⟩:=q1.sc_inv
        obtain ⟨rfl,_⟩:=q2.sc_inv
        have hu:=D.under
        rw [hk] at hu
        simp only [KOK] at hu
        refine ⟨rfl,λemp w=>check_pair D hk (tabOk e de hde) hs h1 a b emp w,_,hu,λx r hr=>?_⟩
        cases x<;>simp [sameKey] at hr
     ·cases h
    ·cases h
   ·cases h
  ·cases h
theorem findK_ok {u:TypeDesc} {kv:Value} (hs:∀x r,sameKey kv x=some r->Instr.sameNow u kv x=some r):∀{ks vs:List Value} {es:List MapEntry} {i:Nat} {r:Option Nat},
 es.map (·.key)=ks->es.map (·.val)=vs->findK kv ks i=some r->Instr.findNow u kv es i=some (r.bind λj=>(vs[j-i]?).map λv=>(j,v))/\(∀j,r=some j->i<=j/\j-i<ks.length/\(∃x,ks[j-i]?=some x/\sameKey kv x=some true))
 |_,_,[],i,r,rfl,rfl,h=>by cases h;exact ⟨rfl,by simp⟩
 |_,_,e::es,i,r,rfl,rfl,h=>by
  simp only [List.map_cons,findK] at h
  split at h
  ·rename_i hk
   cases h
   refine ⟨?_,λj hj=>?_⟩
   ·simp only [Instr.findNow,hs _ _ hk]
    simp
   ·cases hj
    exact ⟨Nat.le_refl _,by simp,e.key,by simp,hk⟩
  ·rename_i hk
   obtain ⟨h1,h2⟩:=findK_ok hs (es:=es) (i:=i+1) rfl rfl h
   refine ⟨?_,λj hj=>?_⟩
   ·simp only [Instr.findNow,hs _ _ hk,h1]
    congr 1
    cases r with
    |none=>rfl
    |some j=>
     obtain ⟨p,q,_⟩:=h2 j rfl
     simp only [Option.bind_some]
     rw [show j-i=(j-(i+1))+1 by omega]
     simp
   ·obtain ⟨p,q,x,hx,hx2⟩:=h2 j hj
    refine ⟨by omega,by simp at q ⊢;omega,x,?_,hx2⟩
    rw [show j-i=(j-(i+1))+1 by omega]
    simpa using hx
  ·cases h
theorem run_findKey {kt:TypeId} {u:TypeDesc} {kv:Value} (hu:P.underlying kt=some u) (hs:∀x r,sameKey kv x=some r->Instr.sameNow u kv x=some r) {ks vs:List Value} {es:Array MapEntry} (he:Ents ks vs es)
 {r:Option Nat} (h:findK kv ks 0=some r) (w:World) :
 (Instr.findKey kt kv es.toList).run P w=.ok (r.bind λj=>(vs[j]?).map λv=>(j,v)) w/\(∀j,r=some j->j<ks.length/\(∃x,ks[j]?=some x/\sameKey kv x=some true)):=by
 obtain ⟨h1,h2⟩:=findK_ok hs he.1 he.2 h
 refine ⟨?_,λj hj=>?_⟩
 ·simp only [Instr.findKey,Sem.run_bind,run_under hu,Result.andThen_ok,h1,Sem.run_pure,Nat.sub_zero]
 ·obtain ⟨_,a,b⟩:=h2 j hj
  exact ⟨a,b⟩
theorem zeroOf_vr {t:TypeId} {d:TyD} (D:DescOK P t d) {x:AV} (h:zeroOf d=some x):∃z,(zeroValue t).run P σ.w=.ok z σ.w/\VR σ x z:=by
 obtain ⟨z,hz,hzc,ha,hb⟩:=D.run_zero σ.w
 refine ⟨z,hz,?_⟩
 unfold zeroOf at h
 obtain ⟨_,⟨h1,h2⟩ | ⟨h1,v,h2,h3⟩⟩:=ofCells_vr (vrs_sc (σ:=σ) d.zero D.zsc) h
 ·rw [ha h1];exact h2
 ·rw [hb h1] at h2
  cases h2
  exact h3
theorem entriesOf_vr (sr:SR σ) {H:Heap} {x:AV} {xv:Value} (hx:VR σ x xv) {ks:List Value} {xs:List AV} {rd:List Nat} (h:entriesOf H x=some (ks,xs,rd)) (hf:∀m∈rd,look H.objs m=σ.h m) :
 ∃es vs,VRs σ xs vs/\Ents ks vs es/\((xv=.map none/\es=#[])\/∃r clock,xv=.map (some r)/\σ.w.heap[r]?=some (.map es clock)):=by
 unfold entriesOf at h
 split at h
 ·cases h
  obtain ⟨rfl,_⟩:=hx.sc_inv
  exact ⟨#[],[],.nil,⟨rfl,rfl⟩,.inl ⟨rfl,rfl⟩⟩
 ·cases h
  obtain ⟨r,vs,es,clock,rfl,ht,hj,hw,he⟩:=hx.imp_inv
  exact ⟨es,vs,ht.vrs,he,.inr ⟨r,clock,rfl,hw⟩⟩
 ·rename_i n
  split at h
  ·rename_i ks' vs' bs clock fz ho
   cases h
   have hn:σ.h n=some (.map ks xs bs clock fz):=by rw [<-hf n (by simp)];exact ho
   obtain ⟨ents,vs,h1,h2,h3,h4,h5⟩:=sr.obj n _ hn
   exact ⟨ents,vs,h2,h3,.inr ⟨_,clock,hx.mp_inv sr hn,h1⟩⟩
  ·cases h
 ·cases h
theorem run_getObj_map {r:Nat} {es:Array MapEntry} {clock:Nat} {w:World} (h:w.heap[r]?=some (.map es clock)):(getObj r).run P w=.ok (.map es clock) w:=by
 simp [getObj,Sem.run,h]
theorem lookup_ok (tabOk:TabOK P tab) (sr:SR σ) {H:Heap} {t:TypeId} {d:TyD} (hd:tab t=some d) {x k:AV} {xv kv:Value} (hx:VR σ x xv) (hk:VR σ k kv) {ok:Bool} {r:Res}
 (h:lookupA tab H d x k ok=some r) (hf:Foot H σ r):(∃rd,r.e=.loc rd [] 0)/\Qt P (Instr.lookup t xv kv ok) σ r.v:=by
 have D:=tabOk t d hd
 have hu:=D.under
 unfold lookupA at h
 split at h
 ·rename_i kt et hkk
  simp only [KOK,hkk] at hu
  split at h
  ·rename_i dk de hdk hde
   have Dk:=tabOk kt dk hdk
   have De:=tabOk et de hde
   split at h
   ·rename_i kv0 ks xs rd hkv hes
    obtain ⟨rfl,hchk,u,huk,hsame⟩:=keyA_vr tabOk Dk hkv hk
    have fin:(∃v b,r=⟨v,.loc rd [] 0⟩ /\b=true)->∃es vs,VRs σ xs vs/\Ents ks vs es/\((xv=.map none/\es=#[])\/∃r clock,xv=.map (some r)/\σ.w.heap[r]?=some (.map es clock)):=by
     rintro ⟨v,b,rfl,_⟩
     exact entriesOf_vr sr hx hes (hf _ _ _ rfl)
    have run:∀es:Array MapEntry,((xv=.map none/\es=#[])\/∃r clock,xv=.map (some r)/\σ.w.heap[r]?=some (.map es clock))->∀(q:Option (Nat×Value)),(Instr.findKey kt kv es.toList).run P σ.w=.ok q σ.w->
     (Instr.lookup t xv kv ok).run P σ.w=((match q with | some (_,v)=>pure (v,true) | none=>do pure (<-zeroValue et,false):Sem (Value×Bool)).run P σ.w).andThen λp w=>.ok (if ok then .tuple #[p.1,.bool p.2] else p.1) w:=by
     intro es he q hq
     obtain ⟨z,hz,_⟩:=De.run_zero σ.w
     rcases he with ⟨rfl,rfl⟩ | ⟨r',clock,rfl,hw⟩
     ·unfold Instr.lookup
      simp only [Sem.run_bind,run_under hu,Result.andThen_ok,Sem.run_pure,hchk,hq]
      cases q with
      |none=>simp only [Sem.run_bind,hz,Result.andThen_ok,Sem.run_pure]
      |some p=>simp only [Sem.run_bind,Result.andThen_ok,Sem.run_pure]
     ·unfold Instr.lookup
      simp only [Sem.run_bind,run_under hu,Result.andThen_ok,Sem.run_pure,run_getObj_map hw,hchk,hq]
      cases q with
      |none=>simp only [Sem.run_bind,hz,Result.andThen_ok,Sem.run_pure]
      |some p=>simp only [Sem.run_bind,Result.andThen_ok,Sem.run_pure]
    split at h
    ·rename_i i hfk
     split at h
     ·rename_i v hv
      cases h
      obtain ⟨es,vs,hvs,he,hmap⟩:=fin ⟨_,true,rfl,rfl⟩
      obtain ⟨hrun,hj⟩:=run_findKey huk hsame he hfk σ.w
      obtain ⟨y,hy,hyv⟩:=hvs.get hv
      refine ⟨⟨rd,rfl⟩,if ok then .tuple #[y,.bool true] else y,?_,?_⟩
      ·rw [run es hmap _ hrun]
       simp only [Option.bind_some,hy,Option.map_some,Sem.run_pure,Result.andThen_ok]
      ·cases ok with
       |true=>exact VR.tup (ds:=[y,.bool true]) (.cons hyv (.cons (.tree (.sc rfl)) .nil))
       |false=>exact hyv
     ·cases h
    ·rename_i hfk
     split at h
     ·rename_i z hz
      cases h
      obtain ⟨es,vs,hvs,he,hmap⟩:=fin ⟨_,true,rfl,rfl⟩
      obtain ⟨hrun,hj⟩:=run_findKey huk hsame he hfk σ.w
      obtain ⟨y,hy,hyv⟩:=zeroOf_vr (σ:=σ) De hz
      refine ⟨⟨rd,rfl⟩,if ok then .tuple #[y,.bool false] else y,?_,?_⟩
      ·rw [run es hmap _ hrun]
       simp only [Option.bind_none,Sem.run_bind,hy,Result.andThen_ok,Sem.run_pure]
      ·cases ok with
       |true=>exact VR.tup (ds:=[y,.bool false]) (.cons hyv (.cons (.tree (.sc rfl)) .nil))
       |false=>exact hyv
     ·cases h
    ·cases h
   ·cases h
  ·cases h
 ·cases h
theorem len_ok (tabOk:TabOK P tab) (sr:SR σ) {H:Heap} {t:TypeId} {d:TyD} (hd:tab t=some d) {x:AV} {xv:Value} (hx:VR σ x xv) {r:Res} (ts:Array TypeId) (hts:ts[0]?=some t) (ty:TypeId)
 (h:lenA H d x=some r) (hf:Foot H σ r):(∃rd,r.e=.loc rd [] 0)/\Qt P (Builtin.len_ ts ty #[xv]) σ r.v:=by
 have D:=tabOk t d hd
 have hu:=D.under
 have key:∀n:Int,VR σ (.sc (.int .i64 n)) (goInt n):=λn=>.tree (.sc rfl)
 unfold lenA at h
 have e0:(#[xv]:Array Value)[0]?=some xv:=rfl
 split at h
 ·rename_i s hk
  simp only [KOK,hk] at hu
  cases h
  obtain ⟨rfl,_⟩:=hx.sc_inv
  refine ⟨⟨[],rfl⟩,_,?_,key _⟩
  simp only [Builtin.len_,hts,e0,Sem.run_bind,run_under hu,Result.andThen_ok,Sem.run_pure]
 ·rename_i n e hk
  simp only [KOK,hk] at hu
  cases h
  refine ⟨⟨[],rfl⟩,_,?_,key _⟩
  simp only [Builtin.len_,hts,e0,Sem.run_bind,run_under hu,Result.andThen_ok,Sem.run_pure]
 ·rename_i e hk
  simp only [KOK,hk] at hu
  cases h
  obtain ⟨rfl,_⟩:=hx.sc_inv
  refine ⟨⟨[],rfl⟩,_,?_,key _⟩
  simp only [Builtin.len_,hts,e0,Sem.run_bind,run_under hu,Result.andThen_ok,Sem.run_pure]
  rfl
 ·rename_i e es c hk
  simp only [KOK,hk] at hu
  cases h
  obtain ⟨a,vs,s,cap,rfl,_⟩:=hx.isl_inv
  refine ⟨⟨[],rfl⟩,_,?_,key _⟩
  simp only [Builtin.len_,hts,e0,Sem.run_bind,run_under hu,Result.andThen_ok,Sem.run_pure]
 ·rename_i e n g off len cap hk
  simp only [KOK,hk] at hu
  cases h
  have:∃a c,xv=.slice a len c:=by
   cases hx with
   |tree h=>cases h
   |sl=>exact ⟨_,_,rfl⟩
   |stale h=>obtain ⟨_,a,c,rfl,_⟩:=h;exact ⟨_,_,rfl⟩
  obtain ⟨a,c,rfl⟩:=this
  refine ⟨⟨[],rfl⟩,_,?_,key _⟩
  simp only [Builtin.len_,hts,e0,Sem.run_bind,run_under hu,Result.andThen_ok,Sem.run_pure]
 ·rename_i kt et x hk
  simp only [KOK,hk] at hu
  split at h
  ·rename_i ks xs rd hes
   cases h
   obtain ⟨es,vs,hvs,he,hmap⟩:=entriesOf_vr sr hx hes (hf _ _ _ rfl)
   have hsz:(es.size:Int)=ks.length:=by rw [<-he.1];simp
   refine ⟨⟨rd,rfl⟩,goInt ks.length,?_,key _⟩
   rcases hmap with ⟨rfl,rfl⟩ | ⟨r',clock,rfl,hw⟩
   ·simp only [Builtin.len_,hts,e0,Sem.run_bind,run_under hu,Result.andThen_ok,Sem.run_pure]
    rw [<-hsz];rfl
   ·simp only [Builtin.len_,hts,e0,Sem.run_bind,run_under hu,Result.andThen_ok,Sem.run_pure,run_getObj_map hw,hsz]
  ·cases h
 ·cases h
end Go.Abs
end
section
namespace Go.Abs
variable {P:Program} {tab:Tab} {σ:Sg}
theorem cap_ok (sr:SR σ) {H:Heap} {t:TypeId} {e:TypeId} (hu:P.underlying t=some (.slice e)) {x:AV} {xv:Value} (hx:VR σ x xv) {r:Res} (ts:Array TypeId) (hts:ts[0]?=some t) (ty:TypeId)
 (h:capA H x=some r) (hf:Foot H σ r):(∃rd,r.e=.loc rd [] 0)/\Qt P (Builtin.cap_ ts ty #[xv]) σ r.v:=by
 have e0:(#[xv]:Array Value)[0]?=some xv:=rfl
 have key:∀n:Int,VR σ (.sc (.int .i64 n)) (goInt n):=λn=>.tree (.sc rfl)
 unfold capA at h
 split at h
 ·cases h
  obtain ⟨rfl,_⟩:=hx.sc_inv
  refine ⟨⟨[],rfl⟩,_,?_,key _⟩
  simp only [Builtin.cap_,hts,e0,Sem.run_bind,run_under hu,Result.andThen_ok,Sem.run_pure]
  rfl
 ·cases h
  obtain ⟨a,vs,s,cap,rfl,_,_,_,_,hc⟩:=hx.isl_inv
  have hce:=hc rfl
  subst hce
  refine ⟨⟨[],rfl⟩,_,?_,key _⟩
  simp only [Builtin.cap_,hts,e0,Sem.run_bind,run_under hu,Result.andThen_ok,Sem.run_pure]
 ·rename_i n g off len c
  split at h
  ·rename_i es s fz ho
   split at h
   ·rename_i hg
    cases h
    have hn:σ.h n=some (.cells es s fz):=by rw [<-hf _ _ _ rfl n (by simp)];exact ho
    obtain ⟨cap',arr,t',rg,rfl,hw,hl,hr,hle,hcap⟩:=hx.sl_inv sr hn hg
    have hce:=(hcap.1 c rfl).1
    subst hce
    refine ⟨⟨[n],rfl⟩,_,?_,key _⟩
    simp only [Builtin.cap_,hts,e0,Sem.run_bind,run_under hu,Result.andThen_ok,Sem.run_pure]
   ·cases h
  ·cases h
 ·cases h
theorem pureVal_run {s:Sem Value} {v:Value} (h:pureVal s=some v) (w:World):s.run P w=.ok v w:=by
 cases s<;>simp only [pureVal,reduceCtorEq,Option.some.injEq] at h
 subst h
 rfl
theorem intOp_scalar {op:BinOp} {t:TypeId} {k j:IntKind} {a b:Int} {v:Value} (h:pureVal (binOp op t (.int k a) (.int j b))=some v):scalarB v=true:=by
 have:∀s:Sem Value,pureVal s=some v->(∀x,s=.pure x->scalarB x=true)->scalarB v=true:=by
  intro s hs hx
  cases s<;>simp only [pureVal,reduceCtorEq,Option.some.injEq] at hs
  subst hs
  exact hx _ rfl
 refine this _ h (λx hx=>?_)
 cases op<;>simp only [binOp,Op.intArith,Op.intDiv,Op.intBits,Op.intCmp,Op.shift] at hx<;>(repeat' split at hx)<;>(first | (cases hx;rfl) | cases hx)
theorem stringOp_scalar {op:BinOp} {a b:ByteArray} {v:Value} (h:pureVal (Op.stringOp op a b)=some v):scalarB v=true:=by
 have:∀s:Sem Value,pureVal s=some v->(∀x,s=.pure x->scalarB x=true)->scalarB v=true:=by
  intro s hs hx
  cases s<;>simp only [pureVal,reduceCtorEq,Option.some.injEq] at hs
  subst hs
  exact hx _ rfl
 refine this _ h (λx hx=>?_)
 cases op<;>simp only [Op.stringOp] at hx<;>(repeat' split at hx)<;>(first | (cases hx;rfl) | cases hx)
theorem scs_vr:∀{cs:List AV} {xs:List Value} {ds:List Value},scs cs=some xs->VRs σ cs ds->ds=xs
 |[],_,_,h,.nil=>by cases h;rfl
 |c::cs,xs,_,h,.cons hv hs=>by
  cases c<;>simp only [scs,reduceCtorEq] at h
  split at h
  ·rename_i l hl
   cases h
   obtain ⟨rfl,_⟩:=hv.sc_inv
   rw [scs_vr hl hs]
  ·cases h
section equal
variable {t:TypeId} (w:World)
theorem eq_bool (hu:P.underlying t=some .bool) (a b:Bool):(Op.equal t (.bool a) (.bool b)).run P w=.ok (a==b) w:=by
 show (Op.equalIn (9999+1) t _ _).run P w=_
 unfold Op.equalIn
 simp only [Sem.run_bind,run_under hu,Result.andThen_ok,Sem.run_pure]
theorem eq_ptr {e:TypeId} (hu:P.underlying t=some (.pointer e)) (a:Option Addr):(Op.equal t (.pointer a) (.pointer none)).run P w=.ok a.isNone w:=by
 show (Op.equalIn (9999+1) t _ _).run P w=_
 unfold Op.equalIn
 cases a<;>simp only [Sem.run_bind,run_under hu,Result.andThen_ok,Sem.run_pure]<;>rfl
theorem eq_slice {e:TypeId} (hu:P.underlying t=some (.slice e)) (a:Option Addr) (l c:Nat):(Op.equal t (.slice a l c) (.slice none 0 0)).run P w=.ok a.isNone w:=by
 show (Op.equalIn (9999+1) t _ _).run P w=_
 unfold Op.equalIn
 cases a<;>simp only [Sem.run_bind,run_under hu,Result.andThen_ok,Sem.run_pure]<;>rfl
theorem eq_nilIface {ms:Array (String×TypeId)} (hu:P.underlying t=some (.interface ms)):(Op.equal t .nilIface .nilIface).run P w=.ok true w:=by
 show (Op.equalIn (9999+1) t _ _).run P w=_
 unfold Op.equalIn
 simp only [Sem.run_bind,run_under hu,Result.andThen_ok,Sem.run_pure]
theorem eq_iface {ms:Array (String×TypeId)} (hu:P.underlying t=some (.interface ms)) (u:TypeId) (v:Value):(Op.equal t (.iface u v) .nilIface).run P w=.ok false w:=by
 show (Op.equalIn (9999+1) t _ _).run P w=_
 unfold Op.equalIn
 simp only [Sem.run_bind,run_under hu,Result.andThen_ok,Sem.run_pure]
end equal
def odd (x:Value):Prop:=(∀k n,x≠.int k n)/\(∀s,x≠.string s)/\(∀k n,x≠.float k n)/\(∀k n m,x≠.complex k n m)
theorem eqA_ok (tabOk:TabOK P tab) {t:TypeId} {d:TyD} (hd:tab t=some d) {x y:AV} {xv yv:Value} (hx:VR σ x xv) (hy:VR σ y yv) {b:Bool}
 (X Y:Operand) (h:eqA d (isConst X || isConst Y) x y=some b) (op:BinOp) :
 (Op.equal t xv yv).run P σ.w=.ok b σ.w/\(eqGuard op t X Y xv yv).run P σ.w=.ok () σ.w/\odd xv:=by
 have D:=tabOk t d hd
 have hu:=D.under
 have ptrs:∀e,P.underlying t=some (.pointer e)->∀a,xv=.pointer a->yv=.pointer none->(Op.equal t xv yv).run P σ.w=.ok a.isNone σ.w/\(eqGuard op t X Y xv yv).run P σ.w=.ok () σ.w/\odd xv:=by
  rintro e hu a rfl rfl
  exact ⟨eq_ptr σ.w hu a,by cases op<;>rfl,by simp [odd]⟩
 have slcs:∀e,P.underlying t=some (.slice e)->∀a l c,xv=.slice a l c->yv=.slice none 0 0->(Op.equal t xv yv).run P σ.w=.ok a.isNone σ.w/\(eqGuard op t X Y xv yv).run P σ.w=.ok () σ.w/\odd xv:=by
  rintro e hu a l c rfl rfl
  exact ⟨eq_slice σ.w hu a l c,by cases op<;>rfl,by simp [odd]⟩
 unfold eqA at h
 split at h
 ·rename_i a b'
  split at h
  ·rename_i hk
   cases h
   obtain ⟨rfl,_⟩:=hx.sc_inv
   obtain ⟨rfl,_⟩:=hy.sc_inv
   simp only [KOK,hk] at hu
   exact ⟨eq_bool σ.w hu a b',by cases op<;>rfl,by simp [odd]⟩
  ·cases h
 ·rename_i as bs
  split at h
  ·rename_i ks xs ys hfl hxs hys
   obtain ⟨ds,rfl,hds⟩:=hx.agg_inv
   obtain ⟨es,rfl,hes⟩:=hy.agg_inv
   rw [scs_vr hxs hds,scs_vr hys hes]
   obtain ⟨h1,h2⟩:=D.flat _ hfl
   refine ⟨h2 _ _ _ h _,?_,by simp [odd]⟩
   cases op<;>first | rfl | (show (eqGuard _ t X Y (.agg xs.toArray) (.agg ys.toArray)).run P σ.w=_;unfold eqGuard;simp [h1])
  ·cases h
 ·unfold nilEq at h
  split at h<;>(try (cases h;done))<;>split at h<;>(try (cases h;done))<;>rename_i hk<;>simp only [KOK,hk] at hu
  ·cases h
   obtain ⟨rfl,_⟩:=hx.sc_inv;obtain ⟨rfl,_⟩:=hy.sc_inv
   exact slcs _ hu none 0 0 rfl rfl
  ·cases h
   obtain ⟨rfl,_⟩:=hy.sc_inv
   obtain ⟨a,vs,s,cap,rfl,_⟩:=hx.isl_inv
   exact slcs _ hu (some a) _ _ rfl rfl
  ·cases h
   obtain ⟨rfl,_⟩:=hy.sc_inv
   cases hx with
   |tree h=>cases h
   |sl=>exact slcs _ hu (some _) _ _ rfl rfl
   |stale h=>obtain ⟨_,a,c,rfl,_⟩:=h;exact slcs _ hu (some a) _ _ rfl rfl
  ·cases h
   obtain ⟨rfl,_⟩:=hx.sc_inv;obtain ⟨rfl,_⟩:=hy.sc_inv
   obtain ⟨e,hu⟩:=hu
   exact ptrs _ hu none rfl rfl
  ·cases h
   obtain ⟨rfl,_⟩:=hy.sc_inv
   obtain ⟨e,hu⟩:=hu
   obtain ⟨a,vs,rfl,_⟩:=hx.ipt_inv
   exact ptrs _ hu (some a) rfl rfl
  ·cases h
   obtain ⟨rfl,_⟩:=hy.sc_inv
   obtain ⟨e,hu⟩:=hu
   cases hx with
   |tree h=>cases h
   |pt=>exact ptrs _ hu (some _) rfl rfl
   |stale h=>obtain ⟨_,b,o,rfl⟩:=h;exact ptrs _ hu (some _) rfl rfl
  ·split at h
   ·rename_i hcc
    cases h
    obtain ⟨rfl,_⟩:=hx.sc_inv;obtain ⟨rfl,_⟩:=hy.sc_inv
    obtain ⟨e,hu⟩:=hu
    refine ⟨eq_nilIface σ.w hu,?_,by simp [odd]⟩
    cases op<;>first | rfl | (cases X<;>cases Y<;>first | rfl | (simp [isConst] at hcc))
   ·cases h
  ·cases h
   obtain ⟨rfl,_⟩:=hy.sc_inv
   obtain ⟨e,hu⟩:=hu
   obtain ⟨a,rfl,_⟩:=hx.ifc_inv
   exact ⟨eq_iface σ.w hu _ _,by cases op<;>rfl,by simp [odd]⟩
theorem binOp_ok (tabOk:TabOK P tab) {op:BinOp} {t:TypeId} {x y:AV} {xv yv:Value} (hx:VR σ x xv) (hy:VR σ y yv) (X Y:Operand) {r:Res}
 (h:binOpA tab op t (isConst X || isConst Y) x y=some r):r.e=.loc [] [] 0/\Qt P (do eqGuard op t X Y xv yv;binOp op t xv yv) σ r.v:=by
 unfold binOpA at h
 split at h
 ·rename_i k a j b
  split at h
  ·rename_i v hv
   cases h
   obtain ⟨rfl,_⟩:=hx.sc_inv
   obtain ⟨rfl,_⟩:=hy.sc_inv
   refine ⟨rfl,v,?_,.tree (.sc (intOp_scalar hv))⟩
   have:(eqGuard op t X Y (.int k a) (.int j b)).run P σ.w=.ok () σ.w:=by cases op<;>rfl
   simp only [Sem.run_bind,this,Result.andThen_ok,pureVal_run hv]
  ·cases h
 ·rename_i a b
  obtain ⟨rfl,_⟩:=hx.sc_inv
  obtain ⟨rfl,_⟩:=hy.sc_inv
  have hg:(eqGuard op t X Y (.string a) (.string b)).run P σ.w=.ok () σ.w:=by cases op<;>rfl
  have hb:binOp op t (.string a) (.string b)=Op.stringOp op a b:=by cases op<;>rfl
  split at h
  ·split at h
   ·rename_i hle
    cases h
    refine ⟨rfl,_,?_,.tree (.sc rfl)⟩
    have h63:¬(((a.size+b.size:Nat):Int)>IntKind.i64.max):=by
     have:(IntKind.i64.max:Int)=2 ^ 63-1:=rfl
     rw [this];omega
    simp only [Sem.run_bind,hg,Result.andThen_ok,hb,Op.stringOp,if_neg h63,Sem.run_pure]
   ·cases h
  ·split at h
   ·rename_i v hv
    cases h
    refine ⟨rfl,v,?_,.tree (.sc (stringOp_scalar hv))⟩
    simp only [Sem.run_bind,hg,Result.andThen_ok,hb,pureVal_run hv]
   ·cases h
 ·split at h
  ·rename_i d hd
   split at h
   ·rename_i b hb
    cases h
    obtain ⟨h1,h2,o1,o2,o3,o4⟩:=eqA_ok tabOk hd hx hy X Y hb .eql
    refine ⟨rfl,.bool b,?_,.tree (.sc rfl)⟩
    have:binOp .eql t xv yv=(do pure (.bool (<-Op.equal t xv yv))):=by
     cases xv<;>first | rfl | (exact absurd rfl (o1 _ _)) | (exact absurd rfl (o2 _)) | (exact absurd rfl (o3 _ _)) | (exact absurd rfl (o4 _ _ _))
    simp only [Sem.run_bind,h2,Result.andThen_ok,this,h1,Sem.run_pure]
   ·cases h
  ·cases h
 ·split at h
  ·rename_i d hd
   split at h
   ·rename_i b hb
    cases h
    obtain ⟨h1,h2,o1,o2,o3,o4⟩:=eqA_ok tabOk hd hx hy X Y hb .neq
    refine ⟨rfl,.bool (!b),?_,.tree (.sc rfl)⟩
    have:binOp .neq t xv yv=(do pure (.bool (!(<-Op.equal t xv yv)))):=by
     cases xv<;>first | rfl | (exact absurd rfl (o1 _ _)) | (exact absurd rfl (o2 _)) | (exact absurd rfl (o3 _ _)) | (exact absurd rfl (o4 _ _ _))
    simp only [Sem.run_bind,h2,Result.andThen_ok,this,h1,Sem.run_pure]
   ·cases h
  ·cases h
 ·cases h
theorem unOp_ok {op:UnOp} {v r:Value} (hs:(match v with | .int _ _ | .bool _=>True | _=>False)) (h:pureVal (Op.unary op v)=some r):Qt P (Op.unary op v) σ (.sc r):=by
 refine ⟨r,pureVal_run h _,.tree (.sc ?_)⟩
 have key:∀s:Sem Value,pureVal s=some r->(∀x,s=.pure x->scalarB x=true)->scalarB r=true:=by
  intro s hs hx
  cases s<;>simp only [pureVal,reduceCtorEq,Option.some.injEq] at hs
  subst hs
  exact hx _ rfl
 refine key _ h (λx hx=>?_)
 cases v<;>simp only [] at hs<;>cases op<;>simp only [Op.unary,Op.intArith,Op.intBits] at hx<;>first | (cases hx;rfl) | cases hx
theorem convert_ok (tabOk:TabOK P tab) {s d:TypeId} {ds dd:TyD} (hs:tab s=some ds) (hd:tab d=some dd) {x:AV} {xv:Value} (hx:VR σ x xv) {r:Res} (h:convertA ds dd x=some r) :
 r.e=.loc [] [] 0/\Qt P (convert s d xv) σ r.v:=by
 have Ds:=(tabOk _ _ hs).under
 have Dd:=(tabOk _ _ hd).under
 unfold convertA at h
 split at h
 ·rename_i h1 h2
  cases h
  obtain ⟨rfl,_⟩:=hx.sc_inv
  simp only [KOK,h1] at Ds
  simp only [KOK,h2] at Dd
  refine ⟨rfl,_,?_,.tree (.sc rfl)⟩
  unfold convert
  simp only [Sem.run_bind,run_under Ds,run_under Dd,Result.andThen_ok]
  rfl
 ·rename_i h1 h2
  cases h
  obtain ⟨rfl,_⟩:=hx.sc_inv
  simp only [KOK,h1] at Ds
  simp only [KOK,h2] at Dd
  refine ⟨rfl,_,?_,.tree (.sc rfl)⟩
  unfold convert
  simp only [Sem.run_bind,run_under Ds,run_under Dd,Result.andThen_ok]
  rfl
 ·cases h
theorem makeInterface_ok (tabOk:TabOK P tab) {t:TypeId} {d:TyD} (hd:tab t=some d) {x:AV} {xv:Value} (hx:VR σ x xv) {r:Res}
 (h:(match d.k with | .other | .iface=>none | _=>quiet (.ifc t x))=some r):r.e=.loc [] [] 0/\Qt P (Instr.makeInterface t xv) σ r.v:=by
 have D:=(tabOk _ _ hd).under
 have key:∀u,P.underlying t=some u->(match u with | .interface _=>False | _=>True)->Qt P (Instr.makeInterface t xv) σ (.ifc t x):=by
  intro u hu hn
  refine ⟨.iface t xv,?_,.ifc hx⟩
  unfold Instr.makeInterface
  simp only [Sem.run_bind,run_under hu,Result.andThen_ok]
  cases u<;>first | rfl | exact hn.elim
 split at h
 ·cases h
 ·cases h
 ·rename_i h1 h2
  cases h
  refine ⟨rfl,?_⟩
  cases hk:d.k<;>simp only [KOK,hk] at D
  case strct=>obtain ⟨f,D,_⟩:=D;exact key _ D trivial
  case ptr=>obtain ⟨f,D⟩:=D;exact key _ D trivial
  case iface=>exact absurd hk h2
  case other=>exact absurd hk h1
  all_goals exact key _ D trivial
theorem typeAssert_ok (tabOk:TabOK P tab) {X t:TypeId} {d:TyD} (hd:tab t=some d) {u:TypeId} {x:AV} {xv:Value} (hx:VR σ (.ifc u x) xv) {ok:Bool} {r:Res}
 (h:(match d.k with
   |.other | .iface=>none
   |_=>if u=t then quiet (if ok then .tup [x,.sc (.bool true)] else x)
    else if ok then (match zeroOf d with | some z=>quiet (.tup [z,.sc (.bool false)]) | none=>none) else none)=some r) :
 r.e=.loc [] [] 0/\Qt P (Instr.typeAssert xv X t ok) σ r.v:=by
 have T:=tabOk _ _ hd
 have D:=T.under
 obtain ⟨v,rfl,hv⟩:=hx.ifc_inv
 have key:∀ud,P.underlying t=some ud->(match ud with | .interface _=>False | _=>True)->
  (if u=t then quiet (if ok then .tup [x,.sc (.bool true)] else x)
    else if ok then (match zeroOf d with | some z=>quiet (.tup [z,.sc (.bool false)]) | none=>none) else none)=some r->
  r.e=.loc [] [] 0/\Qt P (Instr.typeAssert (.iface u v) X t ok) σ r.v:=by
  intro ud hu hn h
  split at h
  ·rename_i hut
   cases h
   refine ⟨rfl,if ok then .tuple #[v,.bool true] else v,?_,?_⟩
   ·unfold Instr.typeAssert
    simp only [Sem.run_bind,run_under hu,Result.andThen_ok]
    cases ud<;>first | exact hn.elim | (simp only [if_pos hut];rfl)
   ·cases ok with
    |true=>exact VR.tup (ds:=[v,.bool true]) (.cons hv (.cons (.tree (.sc rfl)) .nil))
    |false=>exact hv
  ·rename_i hut
   cases ok with
   |false=>simp at h
   |true=>
    simp only [if_true] at h
    split at h
    ·rename_i z hz
     cases h
     obtain ⟨zv,hzv,hzr⟩:=zeroOf_vr (σ:=σ) T hz
     refine ⟨rfl,.tuple #[zv,.bool false],?_,VR.tup (ds:=[zv,.bool false]) (.cons hzr (.cons (.tree (.sc rfl)) .nil))⟩
     unfold Instr.typeAssert
     simp only [Sem.run_bind,run_under hu,Result.andThen_ok]
     cases ud<;>first | exact hn.elim | (simp only [if_neg hut,if_true,Sem.run_bind,hzv,Result.andThen_ok,Sem.run_pure])
    ·cases h
 split at h
 ·cases h
 ·cases h
 ·rename_i h1 h2
  cases hk:d.k<;>simp only [KOK,hk] at D
  case strct=>obtain ⟨f,D,_⟩:=D;exact key _ D trivial h
  case ptr=>obtain ⟨f,D⟩:=D;exact key _ D trivial h
  case iface=>exact absurd hk h2
  case other=>exact absurd hk h1
  all_goals exact key _ D trivial h
end Go.Abs
end
section
namespace Go.Abs
variable {P:Program} {tab:Tab} {σ:Sg}
def Md (P:Program) (s:Sem Value) (σ:Sg) (v:AV) (h':Nat->Option AO):Prop:=
 ∃σ' x,s.run P σ.w=.ok x σ'.w/\σ'.h=h'/\σ'.dead=σ.dead/\Le σ σ'/\SR σ'/\VR σ' v x
def MdU (P:Program) (s:Sem Unit) (σ:Sg) (h':Nat->Option AO):Prop:=
 ∃σ',s.run P σ.w=.ok () σ'.w/\σ'.h=h'/\σ'.dead=σ.dead/\Le σ σ'/\SR σ'
def Fresh (σ:Sg) (st:Nat):Prop:=σ.h st=none/\¬σ.dead st
theorem chunks_flatten (s:Nat):∀(k:Nat) (cs:List AV),cs.length=k*s->(chunks s k cs).flatten=cs
 |0,cs,h=>by simp at h;subst h;rfl
 |k+1,cs,h=>by
  simp only [chunks,List.flatten_cons]
  rw [chunks_flatten s k (cs.drop s) (by rw [List.length_drop,h,Nat.succ_mul];omega)]
  exact List.take_append_drop s cs
theorem chunks_length (s:Nat):∀(k:Nat) (cs:List AV),(chunks s k cs).length=k
 |0,_=>rfl
 |k+1,cs=>by simp [chunks,chunks_length s k]
theorem chunks_all (s:Nat):∀(k:Nat) (cs:List AV),cs.length=k*s->∀e∈chunks s k cs,e.length=s
 |0,_,_=>by simp [chunks]
 |k+1,cs,h=>by
  intro e he
  simp only [chunks,List.mem_cons] at he
  rcases he with rfl | he
  ·rw [List.length_take,h,Nat.succ_mul];omega
  ·exact chunks_all s k (cs.drop s) (by rw [List.length_drop,h,Nat.succ_mul];omega) e he
theorem make_md (sr:SR σ) {st:Nat} (hfr:Fresh σ st) (es:List (List AV)) (s:Nat) {vs:List Value} (tail:List Value) (t:TypeId) (hv:VRs σ es.flatten vs) (hs:∀e∈es,e.length=s) :
 ∃σ',σ'.w=σ.w.alloc (.cells (vs++tail).toArray t)/\σ'.h=upd σ.h st (some (.cells es s 0))/\σ'.dead=σ.dead/\Le σ σ'/\SR σ'/\σ'.r st=σ.w.heap.size/\
  σ'.w.heap[σ'.r st]?=some (.cells (vs++tail).toArray t (0,0)):=by
 obtain ⟨l,sr'⟩:=new_row sr (n:=st) es s 0 tail t (0,0) hfr.2 (.inl hfr.1) hv hs (by omega)
 refine ⟨σ.make st (.cells (vs++tail).toArray t (0,0)) (.cells es s 0),rfl,rfl,rfl,l,sr',upd_same _ _ _,?_⟩
 rw [show (σ.make st (.cells (vs++tail).toArray t (0,0)) (.cells es s 0)).r st=σ.w.heap.size from upd_same _ _ _]
 exact heap_alloc_at _ _
theorem newVar_ok (tabOk:TabOK P tab) (sr:SR σ) {st:Nat} (hfr:Fresh σ st) {t:TypeId} {d:TyD} (hd:tab t=some d) {cs:List AV} {v:Value} {vs:List Value} (hc:v.cells=vs.toArray) (hv:VRs σ cs vs) {r:Res}
 (h:newVarA tab st d cs=some r):∃o,r.e=.loc [] [(st,o)] 1/\Md P (do pure (.pointer (some (<-newVar t v)))) σ r.v (upd σ.h st (some o)):=by
 have run:(do pure (.pointer (some (<-newVar t v))):Sem Value).run P σ.w=.ok (.pointer (some ⟨σ.w.heap.size,0,none⟩)) (σ.w.alloc (.cells vs.toArray t)):=by
  simp only [newVar,newRow,Sem.run_bind,run_newObj,Result.andThen_ok,Sem.run_pure,hc]
  rfl
 have fin:∀es s g,es.flatten=cs->(∀e∈es,e.length=s)->es.length=g->Md P (do pure (.pointer (some (<-newVar t v)))) σ (.pt st g 0 0) (upd σ.h st (some (.cells es s 0))):=by
  intro es s g he hs hg
  obtain ⟨σ',h1,h2,h3,l,sr',hr,_⟩:=make_md sr hfr es s [] t (by rw [he];exact hv) hs
  refine ⟨σ',.pointer (some ⟨σ.w.heap.size,0,none⟩),by rw [run,h1];simp,h2,h3,l,sr',?_⟩
  have:=VR.pt (σ:=σ') (n:=st) (i:=0) (fo:=0) (es:=es) (s:=s) (fz:=0) (by rw [h2];exact upd_same _ _ _)
  rw [hg,hr] at this
  simpa using this
 unfold newVarA at h
 split at h
 ·split at h
  ·rename_i n e hk de hde
   split at h
   ·rename_i hl
    cases h
    exact ⟨_,rfl,fin _ _ _ (chunks_flatten _ _ _ hl) (chunks_all _ _ _ hl) (chunks_length _ _ _)⟩
   ·cases h
  ·cases h
 ·cases h
  exact ⟨_,rfl,fin _ _ _ (by simp) (by simp) rfl⟩
theorem alloc_ok (tabOk:TabOK P tab) (sr:SR σ) {st:Nat} (hfr:Fresh σ st) {t:TypeId} {d:TyD} (hd:tab t=some d) {r:Res} (h:newVarA tab st d (d.zero.map .sc)=some r) :
 ∃o,r.e=.loc [] [(st,o)] 1/\Md P (Instr.alloc t true (.tuple #[])) σ r.v (upd σ.h st (some o)):=by
 have D:=tabOk t d hd
 obtain ⟨z,hz,hzc,_⟩:=D.run_zero σ.w
 obtain ⟨o,h1,σ',x,h2,h3⟩:=newVar_ok (P:=P) tabOk sr hfr hd (v:=z) (vs:=d.zero) (by rw [<-hzc]) (vrs_sc _ D.zsc) h
 refine ⟨o,h1,σ',x,?_,h3⟩
 have:Instr.alloc t true (.tuple #[])=(do let zero <-zeroValue t;pure (.pointer (some (<-newVar t zero)))):=rfl
 rw [this]
 simp only [Sem.run_bind,hz,Result.andThen_ok]
 simpa only [Sem.run_bind] using h2
theorem box_ok (tabOk:TabOK P tab) (sr:SR σ) {st:Nat} (hfr:Fresh σ st) {t:TypeId} {d:TyD} (hd:tab t=some d) {x:AV} {xv:Value} (hx:VR σ x xv) {cs:List AV} (hc:cellsOf x=some cs) {r:Res}
 (h:newVarA tab st d cs=some r):∃o,r.e=.loc [] [(st,o)] 1/\Md P (Instr.box t xv) σ r.v (upd σ.h st (some o)):=by
 obtain ⟨vs,h1,h2,_⟩:=cells_vr hx hc
 exact newVar_ok tabOk sr hfr hd h1 h2 h
theorem store_ok (tabOk:TabOK P tab) (sr:SR σ) {H:Heap} {t:TypeId} {d:TyD} (hd:tab t=some d) {a x:AV} {av xv:Value} (ha:VR σ a av) (hx:VR σ x xv) {r:Res}
 (h:storeA H d a x=some r) (hf:Foot H σ r):∃rd m o,r.e=.loc rd [(m,o)] 0/\r.v=undefA/\MdU P (Instr.storeAt t av xv) σ (upd σ.h m (some o)):=by
 have D:=tabOk t d hd
 unfold storeA at h
 split at h
 ·rename_i m g i fo cs hcs
  split at h
  ·rename_i es s fz ho
   split at h
   ·rename_i hcond
    obtain ⟨hg,hcl,hst,hfz⟩:=hcond
    obtain ⟨vs,hc1,hc2,_⟩:=cells_vr hx hcs
    have hvl:=hc2.length
    have fin:∀(es':List (List AV)) (o:Nat),σ.h m=some (.cells es s fz)->es'.flatten=es.flatten.take o++cs++es.flatten.drop (o+cs.length)->o+cs.length<=es.flatten.length->fz*s<=o->es.length<=es'.length->(∀e∈es',e.length=s)->o=i*s+fo->
     MdU P (Instr.storeAt t av xv) σ (upd σ.h m (some (.cells es' s fz))):=by
     intro es' o hm hfl hle hfo hlen hall ho
     subst ho
     obtain ⟨arr,t0,rg,full,q1,qj,q2,q3,q4,q5,q6,q7⟩:=sr.obj m _ hm
     have hfull:=q3.length
     obtain ⟨l,sr'⟩:=write_own sr hm hc2 hfl (by omega) hfo hlen hall q1 (by omega)
     refine ⟨σ.write m (i*s+fo) vs (.cells es' s fz),?_,rfl,rfl,l,sr'⟩
     rw [ha.pt_inv sr hm hg]
     have hone:=storables_vr hc2 hst
     have hrun:(storeCells ⟨σ.r m,i*s+fo,none⟩ vs 0).run P σ.w=.ok () (σ.w.setCells (σ.r m) (i*s+fo+0) vs):=by
      refine run_storeCells_cells (P:=P) (σ.r m) (i*s+fo) vs 0 σ.w (λj hj=>?_) (λj hj=>?_) hone
      ·rw [cell_of_heap q1]
       simp only [Option.isSome_iff_exists]
       exact ⟨_,Array.getElem?_eq_getElem (by omega)⟩
      ·have:=q2 (i*s+fo+0+j) (by omega)
       simp only [World.frozen?,q1]
       simpa using λh1=>Nat.le_of_not_lt λh2=>this ⟨h1,h2⟩
     simp only [Nat.add_zero] at hrun
     simp only [Instr.storeAt,Instr.sureAddr,Sem.run_bind,Sem.run_pure,Result.andThen_ok,storeVar,D.run_sizeOf,hc1]
     have hsz:vs.toArray.size=d.size:=by simp;omega
     rw [if_neg (by simpa using hsz)]
     simpa [Sg.write] using hrun
    split at h
    ·rename_i e he
     have hil:=(List.getElem?_eq_some_iff.1 he).1
     split at h
     ·rename_i hle
      cases h
      have hm:σ.h m=some (.cells es s fz):=by rw [<-hf _ _ _ rfl m (by simp)];exact ho
      obtain ⟨arr,t0,rg,full,q1,qj,q2,q3,q4,q5,q6,q7⟩:=sr.obj m _ hm
      have hel:=q4 e (List.mem_of_getElem? he)
      have hfl:=flatten_length q4
      have hspl:(splice e fo cs).length=s:=by simp [splice];omega
      refine ⟨_,m,_,rfl,rfl,fin _ (i*s+fo) hm ?_ ?_ ?_ (by simp) ?_ rfl⟩
      ·have hset:es.set i (splice e fo cs)=es.take i++splice e fo cs::es.drop (i+1):=List.set_eq_take_append_cons_drop.trans (by simp [hil])
       have hes:es=es.take i++e::es.drop (i+1):=by
        rw [<-(List.getElem?_eq_some_iff.1 he).2,List.getElem_cons_drop hil,List.take_append_drop]
       have htl:(es.take i).flatten.length=i*s:=by rw [flatten_take i q4,List.length_take];have:=Nat.mul_le_mul_right s (Nat.le_of_lt hil);omega
       have key:∀(A B C:List AV),A.length=i*s->B.length=s->A++splice B fo cs++C=(A++B++C).take (i*s+fo)++cs++(A++B++C).drop (i*s+fo+cs.length):=by
        intro A B C hA hB
        rw [List.append_assoc A B C,List.take_append,List.drop_append,List.take_append,List.drop_append,hA,hB]
        rw [List.take_of_length_le (by omega),List.drop_of_length_le (show A.length<=i*s+fo+cs.length by omega)]
        rw [show i*s+fo-i*s=fo by omega,show i*s+fo+cs.length-i*s=fo+cs.length by omega,show fo-s=0 by omega,show fo+cs.length-s=0 by omega]
        simp [splice,List.append_assoc]
       rw [hset]
       have e1:(es.take i++splice e fo cs::es.drop (i+1)).flatten=(es.take i).flatten++splice e fo cs++(es.drop (i+1)).flatten:=by simp
       have e2:es.flatten=(es.take i).flatten++e++(es.drop (i+1)).flatten:=by
        conv=>lhs;rw [hes]
        simp [List.append_assoc]
       rw [e1,key _ _ _ htl hel,<-e2]
      ·rw [hfl]
       have:=Nat.mul_le_mul_right s (show i+1<=es.length by omega)
       rw [Nat.succ_mul] at this
       omega
      ·exact Nat.le_trans (Nat.mul_le_mul_right s hfz) (Nat.le_add_right _ _)
      ·intro x hx
       rcases List.mem_or_eq_of_mem_set hx with hx | rfl
       ·exact q4 x hx
       ·exact hspl
     ·split at h
      ·rename_i hsp
       obtain ⟨hfo,hs0,hmod,hig⟩:=hsp
       cases h
       subst hfo
       have hm:σ.h m=some (.cells es s fz):=by rw [<-hf _ _ _ rfl m (by simp)];exact ho
       obtain ⟨arr,t0,rg,full,q1,qj,q2,q3,q4,q5,q6,q7⟩:=sr.obj m _ hm
       have hfl:=flatten_length q4
       have hks:cs.length=d.size / s*s:=by
        have:=Nat.div_add_mod d.size s
        rw [hmod,Nat.mul_comm] at this
        omega
       have hb:=Nat.mul_le_mul_right s hig
       rw [Nat.add_mul] at hb
       refine ⟨_,m,_,rfl,rfl,fin _ (i*s) hm ?_ ?_ ?_ ?_ ?_ (by omega)⟩
       ·rw [List.flatten_append,List.flatten_append,chunks_flatten s _ _ hks,flatten_take i q4,flatten_drop _ q4,hks,Nat.add_mul]
       ·rw [hfl,hks,hg];omega
       ·exact Nat.mul_le_mul_right s hfz
       ·simp [chunks_length];omega
       ·intro x hx
        simp only [List.mem_append] at hx
        rcases hx with (hx | hx) | hx
        ·exact q4 x (List.mem_of_mem_take hx)
        ·exact chunks_all s _ _ hks x hx
        ·exact q4 x (List.mem_of_mem_drop hx)
      ·cases h
    ·cases h
   ·cases h
  ·cases h
 ·cases h
end Go.Abs
end
section
namespace Go.Abs
variable {P:Program} {tab:Tab} {σ:Sg}
theorem range_repeat {s:Nat} (zl:List Value) (hz:zl.length=s):∀n,(List.range (n*s)).map (λj=>zl.toArray[j % zl.toArray.size]!)=(List.replicate n zl).flatten
 |0=>by simp
 |n+1=>by
  rw [Nat.succ_mul,Nat.add_comm (n*s) s,List.range_add,List.map_append,List.replicate_succ,List.flatten_cons,List.map_map]
  have hsz:zl.toArray.size=s:=by simpa using hz
  congr 1
  ·apply List.ext_getElem?
   intro j
   rw [List.getElem?_map]
   by_cases hj:j<s
   ·have h1:j<zl.length:=by omega
    rw [List.getElem?_range hj]
    simp only [Option.map_some,hsz,Nat.mod_eq_of_lt hj]
    simp [h1]
   ·rw [List.getElem?_eq_none (by simp;omega),List.getElem?_eq_none (by omega)]
    rfl
  ·rw [<-range_repeat zl hz n]
   apply List.map_congr_left
   intro j _
   simp only [Function.comp,hsz,Nat.add_mod_left]
theorem replicate_vr {l:List Value} (h:l.all scalarB=true):∀n,VRs σ (List.replicate n (l.map AV.sc)).flatten (List.replicate n l).flatten
 |0=>.nil
 |n+1=>by
  simp only [List.replicate_succ,List.flatten_cons]
  exact (vrs_sc l h).append (replicate_vr h n)
theorem flatten_set {s:Nat} {es:List (List AV)} (hs:∀e∈es,e.length=s) {i:Nat} (hi:i<es.length) {c:List AV} (hc:c.length=s) :
 (es.set i c).flatten=es.flatten.take (i*s)++c++es.flatten.drop (i*s+c.length):=by
 rw [List.set_eq_take_append_cons_drop,if_pos hi,List.flatten_append,List.flatten_cons,flatten_take i hs,flatten_drop (i+1) hs,Nat.succ_mul,hc,List.append_assoc]
theorem setParts_fill {s:Nat}:∀{ps:List (Nat×AV)} {es es':List (List AV)},setParts s es ps=some es'->(∀e∈es,e.length=s)->
 fillParts (λi=>some (i*s,s)) es.flatten ps=some es'.flatten/\(∀e∈es',e.length=s)/\es'.length=es.length
 |[],es,es',h,hs=>by cases h;exact ⟨rfl,hs,rfl⟩
 |(i,v)::r,es,es',h,hs=>by
  simp only [setParts] at h
  split at h
  ·rename_i cs hcs
   split at h
   ·rename_i hcond
    obtain ⟨hl,hi⟩:=hcond
    have hset:∀e∈es.set i cs,e.length=s:=λe he=>by
     rcases List.mem_or_eq_of_mem_set he with he | rfl
     ·exact hs e he
     ·exact hl
    obtain ⟨h1,h2,h3⟩:=setParts_fill h hset
    refine ⟨?_,h2,by simpa using h3⟩
    have hfl:=flatten_length hs
    have:=Nat.mul_le_mul_right s (show i+1<=es.length by omega)
    rw [Nat.succ_mul] at this
    simp only [fillParts,hcs]
    rw [if_pos ⟨hl,by omega⟩]
    rw [flatten_set hs hi hl] at h1
    exact h1
   ·cases h
  ·cases h
theorem buildSlice_ok (tabOk:TabOK P tab) (sr:SR σ) {st:Nat} (hfr:Fresh σ st) {t e:TypeId} (hu:P.underlying t=some (.slice e)) {de:TyD} (hde:tab e=some de) {len:Nat}
 (hc:len*de.size<=2 ^ 20/\de.zero.length=de.size/\de.size≠0) {aps:List (Nat×AV)} {ps:Array (Nat×Value)} (h1:aps.map (·.1)=ps.toList.map (·.1))
 (h2:VRs σ (aps.map (·.2)) (ps.toList.map (·.2))) {es:List (List AV)} (h:setParts de.size (List.replicate len (de.zero.map .sc)) aps=some es) :
 Md P (Instr.buildSlice t len ps) σ (.sl st len 0 len (some len)) (upd σ.h st (some (.cells es de.size 0))):=by
 have De:=tabOk e de hde
 obtain ⟨z,hz,hzc,_⟩:=De.run_zero σ.w
 obtain ⟨hf,hall,hlen⟩:=setParts_fill h (λx hx=>by rw [List.eq_of_mem_replicate hx];simpa using hc.2.1)
 rw [List.length_replicate] at hlen
 let arr0:Array Value:=(List.replicate len de.zero).flatten.toArray
 obtain ⟨arr',ha,hb,_⟩:=fill_vr h1 h2 (arr:=arr0) (by simpa [arr0] using replicate_vr De.zsc len) hf
 obtain ⟨σ',w1,w2,w3,l,sr',hr,hblk⟩:=make_md sr hfr es de.size [] e hb hall
 refine ⟨σ',.slice (some ⟨σ.w.heap.size,0,none⟩) len len,?_,w2,w3,l,sr',?_⟩
 ·have hzl:z.cells.toList.length=de.size:=by rw [hzc];exact hc.2.1
  have e0:(Array.range (len*de.size)).map (λx=>z.cells[x % z.cells.size]!)=arr0:=by
   apply Array.ext'
   rw [Array.toList_map,Array.toList_range]
   have:=range_repeat (s:=de.size) z.cells.toList hzl len
   rw [show z.cells.toList.toArray=z.cells from Array.toArray_toList] at this
   rw [this,hzc]
  have e1:(Array.range (len*de.size)).map (λx=>(if len*de.size=0 then #[] else z.cells)[x % (if len*de.size=0 then #[] else z.cells).size]!)=arr0:=by
   split
   ·rename_i h0
    have:len=0:=by
     rcases Nat.mul_eq_zero.1 h0 with h | h
     ·exact h
     ·exact absurd h hc.2.2
    subst this
    simp [arr0]
   ·exact e0
  unfold Instr.buildSlice
  simp only [Sem.run_bind,run_under hu,Result.andThen_ok,De.run_sizeOf]
  rw [if_neg (by omega)]
  by_cases h0:len*de.size=0
  ·rw [if_pos h0] at e1 ⊢
   simp only [Sem.run_bind,Sem.run_pure,Result.andThen_ok,e1,ha,newRow,run_newObj,w1,List.append_nil,Array.toArray_toList]
   rfl
  ·rw [if_neg h0] at e1 ⊢
   simp only [Sem.run_bind,Sem.run_pure,Result.andThen_ok,hz,e1,ha,newRow,run_newObj,w1,List.append_nil,Array.toArray_toList]
   rfl
 ·have hlen':=hb.length
  rw [flatten_length hall,hlen] at hlen'
  have:=VR.sl (σ:=σ') (n:=st) (off:=0) (len:=len) (cap':=len) (cap:=some len) (es:=es) (s:=de.size) (fz:=0) (by rw [w2];exact upd_same _ _ _) hblk (by omega)
   (by simp only [List.append_nil,List.size_toArray,Nat.zero_add];omega) (Nat.le_refl _) ⟨λc e=>by cases e;exact ⟨rfl,by omega⟩,λe=>by cases e⟩
  rw [hr,hlen] at this
  simpa using this
theorem makeMap_ok (sr:SR σ) {st:Nat} (hfr:Fresh σ st) {t kt et:TypeId} (hu:P.underlying t=some (.map kt et)) {r:Option Value} (hr:∀v,r=some v->∃k n,v=.int k n) :
 Md P (Instr.makeMap t r) σ (.mp st) (upd σ.h st (some (.map [] [] [] 0 false))):=by
 obtain ⟨l,sr'⟩:=new_map sr hfr.2 hfr.1
 refine ⟨σ.make st (.map #[] 0) (.map [] [] [] 0 false),.map (some σ.w.heap.size),?_,rfl,rfl,l,sr',?_⟩
 ·have fin:(do pure (.map (some (<-newObj (.map #[] 0)))):Sem Value).run P σ.w=.ok (.map (some σ.w.heap.size)) (σ.w.alloc (.map #[] 0)):=by
   simp only [Sem.run_bind,run_newObj,Result.andThen_ok,Sem.run_pure];rfl
  cases r with
  |none=>exact fin
  |some v=>
   obtain ⟨k,n,rfl⟩:=hr v rfl
   unfold Instr.makeMap
   simp only [Sem.run_bind,run_under hu,Result.andThen_ok,asInt,asIntOf,Sem.run_pure,run_newObj]
   rfl
 ·have:=VR.mp (σ:=σ.make st (.map #[] 0) (.map [] [] [] 0 false)) (n:=st) (upd_same _ _ _)
  rwa [show (σ.make st (.map #[] 0) (.map [] [] [] 0 false)).r st=σ.w.heap.size from upd_same _ _ _] at this
theorem makeSlice_ok (tabOk:TabOK P tab) (sr:SR σ) {st:Nat} (hfr:Fresh σ st) {t e:TypeId} (hu:P.underlying t=some (.slice e)) {de:TyD} (hde:tab e=some de) {li ci:Int} {lk ck:IntKind}
 (hc:0<=li/\li<=ci/\ci<=2 ^ 40/\de.bytes*ci<=2 ^ 47/\de.zero.length=de.size) :
 Md P (Instr.makeSlice t (.int lk li) (.int ck ci)) σ (.sl st li.toNat 0 li.toNat (if li=ci then some li.toNat else none)) (upd σ.h st (some (.cells (List.replicate li.toNat (de.zero.map .sc)) de.size 0))):=by
 have De:=tabOk e de hde
 obtain ⟨z,hz,hzc,_⟩:=De.run_zero σ.w
 obtain ⟨i,hi,hisz,hib⟩:=De.run_info σ.w
 obtain ⟨h0,hle,h40,h47,hzl0⟩:=hc
 have hall:∀x∈List.replicate li.toNat (de.zero.map AV.sc),x.length=de.size:=λx hx=>by rw [List.eq_of_mem_replicate hx];simpa using hzl0
 have hallc:∀x∈List.replicate ci.toNat (de.zero.map AV.sc),x.length=de.size:=λx hx=>by rw [List.eq_of_mem_replicate hx];simpa using hzl0
 obtain ⟨σ',w1,w2,w3,l,sr',hr,hblk⟩:=make_md sr hfr (List.replicate li.toNat (de.zero.map .sc)) de.size (List.replicate (ci.toNat-li.toNat) de.zero).flatten e (replicate_vr De.zsc li.toNat) hall
 have happ:(List.replicate li.toNat de.zero).flatten++(List.replicate (ci.toNat-li.toNat) de.zero).flatten=(List.replicate ci.toNat de.zero).flatten:=by
  rw [<-List.flatten_append,List.replicate_append_replicate,show li.toNat+(ci.toNat-li.toNat)=ci.toNat by omega]
 refine ⟨σ',.slice (some ⟨σ.w.heap.size,0,none⟩) li.toNat ci.toNat,?_,w2,w3,l,sr',?_⟩
 ·have hzl:z.cells.toList.length=de.size:=by rw [hzc];exact hzl0
  have wr:∀x:Int,0<=x->x<=2 ^ 40->IntKind.i64.wrap x=x:=λx h1 h2=>by
   rw [show IntKind.i64.wrap x=if x % 18446744073709551616>=9223372036854775808 then x % 18446744073709551616-18446744073709551616 else x % 18446744073709551616 by simp [IntKind.wrap,IntKind.bits,IntKind.signed]]
   split<;>omega
  have e1:(Array.range (ci.toNat*de.size)).map (λx=>(if ci.toNat*de.size=0 then #[] else z.cells)[x % (if ci.toNat*de.size=0 then #[] else z.cells).size]!)=((List.replicate li.toNat de.zero).flatten++(List.replicate (ci.toNat-li.toNat) de.zero).flatten).toArray:=by
   rw [happ]
   split
   ·rename_i hq
    have:(List.replicate ci.toNat de.zero).flatten=[]:=by
     apply List.eq_nil_of_length_eq_zero
     have:=(replicate_vr (σ:=σ) De.zsc ci.toNat).length
     rw [flatten_length hallc,List.length_replicate] at this
     omega
    rw [this,hq]
    simp
   ·apply Array.ext'
    rw [Array.toList_map,Array.toList_range]
    have:=range_repeat (s:=de.size) z.cells.toList hzl ci.toNat
    rw [show z.cells.toList.toArray=z.cells from Array.toArray_toList] at this
    rw [this,hzc]
  have tl:∀x:Int,0<=x->x<=ci->(decide (x<0) || decide ((i.bytes:Int)*x>2 ^ 48))=false:=by
   intro x h1 h2
   have h3:(i.bytes:Int)*x<=(i.bytes:Int)*ci:=Int.mul_le_mul_of_nonneg_left h2 (by omega)
   rw [hib] at h3 ⊢
   simp
   omega
  unfold Instr.makeSlice
  simp only [Sem.run_bind,run_under hu,Result.andThen_ok,asInt,asIntOf,Sem.run_pure,hi,wr li h0 (by omega),wr ci (by omega) h40]
  have hcnd:((decide (ci<0) || decide ((i.bytes:Int)*ci>2 ^ 48)) || decide (li<0) || decide (li>ci))=false:=by
   rw [tl ci (by omega) (Int.le_refl _)]
   simp
   omega
  simp only [hcnd,Bool.false_eq_true,if_false,Sem.run_bind,run_askRoom,Result.andThen_ok,De.run_sizeOf]
  by_cases h0:ci.toNat*de.size=0
  ·rw [if_pos h0] at e1 ⊢
   simp only [Sem.run_bind,Sem.run_pure,Result.andThen_ok,e1,newRow,run_newObj,w1]
   rfl
  ·rw [if_neg h0] at e1 ⊢
   simp only [Sem.run_bind,Sem.run_pure,Result.andThen_ok,hz,e1,newRow,run_newObj,w1]
   rfl
 ·have hlen':=(replicate_vr (σ:=σ) De.zsc ci.toNat).length
  rw [flatten_length hallc,List.length_replicate] at hlen'
  rw [happ] at hblk
  have:=VR.sl (σ:=σ') (n:=st) (off:=0) (len:=li.toNat) (cap':=ci.toNat) (cap:=if li=ci then some li.toNat else none) (s:=de.size) (fz:=0) (by rw [w2];exact upd_same _ _ _) hblk (by simp)
   (by simp only [List.size_toArray,Nat.zero_add];omega) (by omega) ⟨λc e=>by
    split at e
    ·rename_i hq;cases e;subst hq;exact ⟨rfl,by simp⟩
    ·(cases e),λ_=>by rw [List.length_replicate];omega⟩
  rw [hr,List.length_replicate] at this
  simpa using this
end Go.Abs
end
section
namespace Go.Abs
variable {P:Program} {tab:Tab} {σ:Sg}
theorem ba_eq {a b:ByteArray} (h:(a==b)=true):a=b:=by
 obtain ⟨a⟩:=a
 obtain ⟨b⟩:=b
 have:(a==b)=true:=h
 rw [eq_of_beq this]
theorem ba_refl (a:ByteArray):(a==a)=true:=by
 obtain ⟨a⟩:=a
 show (a==a)=true
 simp
theorem sameKey_eq {a b:Value} (h:sameKey a b=some true):a=b:=by
 unfold sameKey at h
 split at h
 ·split at h
  ·rename_i hk
   simp only [Option.some.injEq,beq_iff_eq] at h
   rw [hk,h]
  ·cases h
 ·simp only [Option.some.injEq] at h
  rw [ba_eq h]
 ·simp only [Option.some.injEq,beq_iff_eq] at h
  rw [h]
 ·cases h
theorem sameBits_key {kv x:Value} (h:sameKey kv x=some true) (n:Nat):Instr.sameBits n x kv=true:=by
 have e:=sameKey_eq h
 subst e
 unfold sameKey at h
 split at h
 ·simp [Instr.sameBits]
 ·simp [Instr.sameBits,ba_refl]
 ·simp [Instr.sameBits]
 ·cases h
theorem run_setObj {r:Nat} {es:Array MapEntry} {clock:Nat} {w:World} (h:w.heap[r]?=some (.map es clock)) (o:Obj):(setObj r o).run P w=.ok () { w with heap:=w.heap.setIfInBounds r o }:=by
 simp [setObj,Sem.run,h]
theorem map_modify_same {α β:Type} (f:α->β) (g:α->α):∀(l:List α) (i:Nat),(∀a,l[i]?=some a->f (g a)=f a)->(l.modify i g).map f=l.map f
 |[],_,_=>by simp
 |a::r,0,h=>by simp [h a rfl]
 |a::r,i+1,h=>by simp [map_modify_same f g r i (λb hb=>h b (by simpa using hb))]
theorem map_modify_set {α β:Type} (f:α->β) (g:α->α) (b:β) (h:∀a,f (g a)=b):∀(l:List α) (i:Nat),(l.modify i g).map f=(l.map f).set i b
 |[],_=>by simp
 |a::r,0=>by simp [h]
 |a::r,i+1=>by simp [map_modify_set f g b h r i]
theorem find_entry {kt:TypeId} {u:TypeDesc} {kv:Value} (huk:P.underlying kt=some u) (hsame:∀x r,sameKey kv x=some r->Instr.sameNow u kv x=some r) {ks vs:List Value} {es:Array MapEntry} (he:Ents ks vs es)
 {i:Nat} (h:findK kv ks 0=some (some i)) (w:World):∃e,es[i]?=some e/\(Instr.findKey kt kv es.toList).run P w=.ok (some (i,e.val)) w/\e.key=kv/\vs[i]?=some e.val:=by
 obtain ⟨h1,h2⟩:=run_findKey huk hsame he h w
 obtain ⟨hi,x,hx,hsx⟩:=h2 i rfl
 have hes:∃e,es.toList[i]?=some e:=by
  have:i<es.toList.length:=by rw [<-he.1] at hi;simpa using hi
  exact ⟨_,List.getElem?_eq_getElem this⟩
 obtain ⟨e,hee⟩:=hes
 have hv:vs[i]?=some e.val:=by rw [<-he.2,List.getElem?_map,hee];rfl
 have hk:ks[i]?=some e.key:=by rw [<-he.1,List.getElem?_map,hee];rfl
 rw [hx] at hk
 cases hk
 refine ⟨e,by rw [<-Array.getElem?_toList];exact hee,?_,(sameKey_eq hsx).symm,hv⟩
 rw [h1]
 simp [hv]
theorem update_ok (tabOk:TabOK P tab) (sr:SR σ) {H:Heap} {t:TypeId} {d:TyD} (hd:tab t=some d) {m k x:AV} {mv kv xv:Value} (hm:VR σ m mv) (hk:VR σ k kv) (hx:VR σ x xv) {r:Res}
 (h:updateA tab H d m k x=some r) (hf:Foot H σ r):∃rd n o,r.e=.loc rd [(n,o)] 0/\r.v=undefA/\MdU P (Instr.mapUpdate t mv kv xv) σ (upd σ.h n (some o)):=by
 have D:=tabOk t d hd
 have hu:=D.under
 unfold updateA at h
 split at h
 ·rename_i kt et hkk
  simp only [KOK,hkk] at hu
  split at h
  ·rename_i dk hdk
   have Dk:=tabOk kt dk hdk
   split at h
   ·rename_i n kv0 hkv
    obtain ⟨rfl,hchk,u,huk,hsame⟩:=keyA_vr tabOk Dk hkv hk
    split at h
    ·rename_i ks vs bs clock ho
     have main:σ.h n=some (.map ks vs bs clock false)->∀(ks':List Value) (vs':List AV) (bs':List Nat) (clock':Nat) (es':Array MapEntry) (vv:List Value),VRs σ vs' vv->Ents ks' vv es'->es'.toList.map (·.born)=bs'->
      (∀ents,σ.w.heap[σ.r n]?=some (.map ents clock)->(Instr.mapUpdate t mv kv xv).run P σ.w=.ok () { σ.w with heap:=σ.w.heap.setIfInBounds (σ.r n) (.map es' clock') })->
      MdU P (Instr.mapUpdate t mv kv xv) σ (upd σ.h n (some (.map ks' vs' bs' clock' false))):=by
      intro hn ks' vs' bs' clock' es' vv h1 h2 h3 h4
      obtain ⟨ents,vs0,q1,_⟩:=sr.obj n _ hn
      obtain ⟨l,sr'⟩:=write_map sr hn (clock':=clock') h1 h2 h3
      exact ⟨σ.setMap n es' clock' (.map ks' vs' bs' clock' false),h4 ents q1,rfl,rfl,l,sr'⟩
     split at h
     ·rename_i i hfk
      split at h
      ·rename_i hi
       cases h
       have hn:σ.h n=some (.map ks vs bs clock false):=by rw [<-hf _ _ _ rfl n (by simp)];exact ho
       refine ⟨_,n,_,rfl,rfl,?_⟩
       obtain ⟨ents,vs0,q1,q2,q3,q4,q5⟩:=sr.obj n _ hn
       obtain ⟨e,he,hrun,hek,hev⟩:=find_entry huk hsame q3 hfk σ.w
       refine main hn ks (vs.set i x) bs clock (ents.modify i λe=>{ e with key:=kv,val:=xv }) (vs0.set i xv) (q2.set i hx) ⟨?_,?_⟩ ?_ (λents' he'=>?_)
       ·rw [Array.toList_modify,map_modify_same MapEntry.key _ _ _ (λa ha=>by
         rw [Array.getElem?_toList,he] at ha;cases ha;exact hek.symm)]
        exact q3.1
       ·rw [Array.toList_modify,map_modify_set MapEntry.val _ xv (λ_=>rfl),q3.2]
       ·rw [Array.toList_modify,map_modify_same MapEntry.born _ _ _ (by intros;rfl)]
        exact q4
       ·rw [q1] at he'
        cases he'
        have hst:(Instr.keyThatStays (((ents[i]?).map (·.key)).getD kv) kv).run P σ.w=.ok kv σ.w:=by
         rw [he]
         simp only [Option.map_some,Option.getD_some,hek,Instr.keyThatStays]
         have:sameKey kv kv=some true:=by
          obtain ⟨_,h2⟩:=run_findKey (P:=P) huk hsame q3 hfk σ.w
          obtain ⟨_,y,_,hy⟩:=h2 i rfl
          have:=sameKey_eq hy
          rwa [<-this] at hy
         rw [if_pos (sameBits_key this _)]
         rfl
        rw [hm.mp_inv sr hn]
        simp only [Instr.mapUpdate,Sem.run_bind,run_under hu,Result.andThen_ok,run_getObj_map q1,hchk,hrun,hst,run_setObj q1]
      ·cases h
     ·rename_i hfk
      cases h
      have hn:σ.h n=some (.map ks vs bs clock false):=by rw [<-hf _ _ _ rfl n (by simp)];exact ho
      refine ⟨_,n,_,rfl,rfl,?_⟩
      obtain ⟨ents,vs0,q1,q2,q3,q4,q5⟩:=sr.obj n _ hn
      obtain ⟨hrun,_⟩:=run_findKey (P:=P) huk hsame q3 hfk σ.w
      refine main hn (ks++[kv]) (vs++[x]) (bs++[clock]) (clock+1) (ents.push { key:=kv,val:=xv,born:=clock }) (vs0++[xv]) (q2.append (VRs.one hx)) ⟨by simp [q3.1],by simp [q3.2]⟩ (by simp [q4]) (λents' he'=>?_)
      rw [q1] at he'
      cases he'
      rw [hm.mp_inv sr hn]
      simp only [Instr.mapUpdate,Sem.run_bind,run_under hu,Result.andThen_ok,run_getObj_map q1,hchk,hrun,Option.bind_none,run_setObj q1]
     ·cases h
    ·cases h
   ·cases h
  ·cases h
 ·cases h
theorem entry_ok (tabOk:TabOK P tab) (sr:SR σ) {H:Heap} {t:TypeId} {d:TyD} (hd:tab t=some d) {m k:AV} {mv kv:Value} (hm:VR σ m mv) (hk:VR σ k kv) {r:Res}
 (h:entryA tab H d m k=some r) (hf:Foot H σ r):∃rd n o,r.e=.loc rd [(n,o)] 0/\Md P (Instr.mapEntry t mv kv) σ r.v (upd σ.h n (some o)):=by
 have D:=tabOk t d hd
 have hu:=D.under
 unfold entryA at h
 split at h
 ·rename_i kt et hkk
  simp only [KOK,hkk] at hu
  split at h
  ·rename_i dk de hdk hde
   have Dk:=tabOk kt dk hdk
   have De:=tabOk et de hde
   split at h
   ·rename_i n kv0 hkv
    obtain ⟨rfl,hchk,u,huk,hsame⟩:=keyA_vr tabOk Dk hkv hk
    split at h
    ·rename_i ks vs bs clock ho
     have main:σ.h n=some (.map ks vs bs clock false)->∀(ks':List Value) (vs':List AV) (bs':List Nat) (clock':Nat) (es':Array MapEntry) (vv:List Value) (z:AV) (zv:Value),VRs σ vs' vv->Ents ks' vv es'->es'.toList.map (·.born)=bs'->VR σ z zv->
      (∀ents,σ.w.heap[σ.r n]?=some (.map ents clock)->(Instr.mapEntry t mv kv).run P σ.w=.ok zv { σ.w with heap:=σ.w.heap.setIfInBounds (σ.r n) (.map es' clock') })->
      Md P (Instr.mapEntry t mv kv) σ z (upd σ.h n (some (.map ks' vs' bs' clock' false))):=by
      intro hn ks' vs' bs' clock' es' vv z zv h1 h2 h3 hz h4
      obtain ⟨ents,vs0,q1,_⟩:=sr.obj n _ hn
      obtain ⟨l,sr'⟩:=write_map sr hn (clock':=clock') h1 h2 h3
      exact ⟨σ.setMap n es' clock' (.map ks' vs' bs' clock' false),zv,h4 ents q1,rfl,rfl,l,sr',hz.mono l⟩
     split at h
     ·rename_i i hfk
      split at h
      ·rename_i v b hv hb
       cases h
       have hn:σ.h n=some (.map ks vs bs clock false):=by rw [<-hf _ _ _ rfl n (by simp)];exact ho
       refine ⟨_,n,_,rfl,?_⟩
       obtain ⟨ents,vs0,q1,q2,q3,q4,q5⟩:=sr.obj n _ hn
       obtain ⟨e,he,hrun,hek,hev⟩:=find_entry huk hsame q3 hfk σ.w
       obtain ⟨y,hy,hyv⟩:=q2.get hv
       rw [hev] at hy
       cases hy
       have hborn:e.born=b:=by
        have:(ents.toList.map (·.born))[i]?=some e.born:=by rw [List.getElem?_map,Array.getElem?_toList,he];rfl
        rw [q4,hb] at this
        cases this;rfl
       refine main hn ks vs bs clock (ents.modify i λe=>{ e with key:=kv }) vs0 _ (.tuple #[e.val,goInt b]) q2 ⟨?_,?_⟩ ?_ (.tup (ds:=[e.val,goInt b]) (.cons hyv (.cons (.tree (.sc rfl)) .nil))) (λents' he'=>?_)
       ·rw [Array.toList_modify,map_modify_same MapEntry.key _ _ _ (λa ha=>by
         rw [Array.getElem?_toList,he] at ha;cases ha;exact hek.symm)]
        exact q3.1
       ·rw [Array.toList_modify,map_modify_same MapEntry.val _ _ _ (by intros;rfl)]
        exact q3.2
       ·rw [Array.toList_modify,map_modify_same MapEntry.born _ _ _ (by intros;rfl)]
        exact q4
       ·rw [q1] at he'
        cases he'
        have hst:(Instr.keyThatStays (((ents[i]?).map (·.key)).getD kv) kv).run P σ.w=.ok kv σ.w:=by
         rw [he]
         simp only [Option.map_some,Option.getD_some,hek,Instr.keyThatStays]
         have:sameKey kv kv=some true:=by
          obtain ⟨_,h2⟩:=run_findKey (P:=P) huk hsame q3 hfk σ.w
          obtain ⟨_,y,_,hy⟩:=h2 i rfl
          have:=sameKey_eq hy
          rwa [<-this] at hy
         rw [if_pos (sameBits_key this _)]
         rfl
        rw [hm.mp_inv sr hn]
        simp only [Instr.mapEntry,Sem.run_bind,run_under hu,Result.andThen_ok,run_getObj_map q1,hchk,hrun,hst,run_setObj q1,Sem.run_pure]
        rw [he]
        simp [hborn]
      ·cases h
     ·rename_i hfk
      split at h
      ·rename_i z hz
       cases h
       have hn:σ.h n=some (.map ks vs bs clock false):=by rw [<-hf _ _ _ rfl n (by simp)];exact ho
       refine ⟨_,n,_,rfl,?_⟩
       obtain ⟨ents,vs0,q1,q2,q3,q4,q5⟩:=sr.obj n _ hn
       obtain ⟨hrun,_⟩:=run_findKey (P:=P) huk hsame q3 hfk σ.w
       obtain ⟨zv,hzr,hzv⟩:=zeroOf_vr (σ:=σ) De hz
       refine main hn (ks++[kv]) (vs++[z]) (bs++[clock]) (clock+1) (ents.push { key:=kv,val:=zv,born:=clock }) (vs0++[zv]) _ (.tuple #[zv,goInt clock]) (q2.append (VRs.one hzv)) ⟨by simp [q3.1],by simp [q3.2]⟩ (by simp [q4])
        (.tup (ds:=[zv,goInt clock]) (.cons hzv (.cons (.tree (.sc rfl)) .nil))) (λents' he'=>?_)
       rw [q1] at he'
       cases he'
       rw [hm.mp_inv sr hn]
       simp only [Instr.mapEntry,Sem.run_bind,run_under hu,Result.andThen_ok,run_getObj_map q1,hchk,hrun,Option.bind_none,hzr,run_setObj q1,Sem.run_pure]
      ·cases h
     ·cases h
    ·cases h
   ·cases h
  ·cases h
 ·cases h
theorem findIdx_born:∀(es:List MapEntry) (bs:List Nat) (b:Int),es.map (·.born)=bs->es.findIdx? (λe=>(e.born:Int)==b)=bs.findIdx? (λc:Nat=>Int.ofNat c==b)
 |[],_,_,rfl=>rfl
 |e::es,_,b,rfl=>by
  simp only [List.map_cons,List.findIdx?_cons]
  rw [findIdx_born es _ b rfl]
  rfl
theorem entryStore_ok (sr:SR σ) {H:Heap} {t:TypeId} {m s x:AV} {mv sv xv:Value} (hm:VR σ m mv) (hs:VR σ s sv) (hx:VR σ x xv) {r:Res}
 (h:entryStoreA H m s x=some r) (hf:Foot H σ r):∃rd n o,r.e=.loc rd [(n,o)] 0/\r.v=undefA/\MdU P (Instr.entryStore t mv sv xv) σ (upd σ.h n (some o)):=by
 unfold entryStoreA at h
 split at h
 ·rename_i n b hb
  split at h
  ·rename_i ks vs bs clock ho
   split at h
   ·rename_i i hi
    split at h
    ·rename_i hlt
     cases h
     have hn:σ.h n=some (.map ks vs bs clock false):=by rw [<-hf _ _ _ rfl n (by simp)];exact ho
     refine ⟨_,n,_,rfl,rfl,?_⟩
     obtain ⟨ents,vs0,q1,q2,q3,q4,q5⟩:=sr.obj n _ hn
     obtain ⟨k,rfl,rfl⟩:=hs.int_inv hb
     have h2:Ents ks (vs0.set i xv) (ents.modify i λe=>{ e with val:=xv }):=by
      refine ⟨?_,?_⟩
      ·rw [Array.toList_modify,map_modify_same MapEntry.key _ _ _ (by intros;rfl)];exact q3.1
      ·rw [Array.toList_modify,map_modify_set MapEntry.val _ xv (λ_=>rfl),q3.2]
     obtain ⟨l,sr'⟩:=write_map sr hn (clock':=clock) (q2.set i hx) h2 (bs':=bs) (by rw [Array.toList_modify,map_modify_same MapEntry.born _ _ _ (by intros;rfl)];exact q4)
     refine ⟨σ.setMap n (ents.modify i λe=>{ e with val:=xv }) clock (.map ks (vs.set i x) bs clock false),?_,rfl,rfl,l,sr'⟩
     rw [hm.mp_inv sr hn]
     have hfi:ents.findIdx? (λe=>(e.born:Int)==b)=some i:=by
      have:=List.findIdx?_toArray (λe:MapEntry=>(e.born:Int)==b) ents.toList
      rw [Array.toArray_toList] at this
      rw [this,findIdx_born _ _ _ q4]
      exact hi
     simp only [Instr.entryStore,Sem.run_bind,run_getObj_map q1,Result.andThen_ok,asInt,asIntOf,Sem.run_pure,hfi,run_setObj q1]
     rfl
    ·cases h
   ·cases h
  ·cases h
 ·cases h
theorem delete_ok (tabOk:TabOK P tab) (sr:SR σ) {H:Heap} {t:TypeId} {d:TyD} (hd:tab t=some d) {m k:AV} {mv kv:Value} (hm:VR σ m mv) (hk:VR σ k kv) {r:Res} (ts:Array TypeId) (hts:ts[0]?=some t) (ty:TypeId)
 (h:deleteA tab H d m k=some r) (hf:Foot H σ r):∃rd n o,r.e=.loc rd [(n,o)] 0/\Md P (Builtin.delete_ ts ty #[mv,kv]) σ r.v (upd σ.h n (some o)):=by
 have D:=tabOk t d hd
 have hu:=D.under
 unfold deleteA at h
 split at h
 ·rename_i kt et hkk
  simp only [KOK,hkk] at hu
  split at h
  ·rename_i dk hdk
   have Dk:=tabOk kt dk hdk
   split at h
   ·rename_i n kv0 hkv
    obtain ⟨rfl,hchk,u,huk,hsame⟩:=keyA_vr tabOk Dk hkv hk
    have e0:(#[mv,kv]:Array Value)[0]?=some mv:=rfl
    have e1:(#[mv,kv]:Array Value)[1]?=some kv:=rfl
    split at h
    ·rename_i ks vs bs clock ho
     split at h
     ·rename_i i hfk
      cases h
      have hn:σ.h n=some (.map ks vs bs clock false):=by rw [<-hf _ _ _ rfl n (by simp)];exact ho
      refine ⟨_,n,_,rfl,?_⟩
      obtain ⟨ents,vs0,q1,q2,q3,q4,q5⟩:=sr.obj n _ hn
      obtain ⟨e,he,hrun,hek,hev⟩:=find_entry huk hsame q3 hfk σ.w
      have era:∀{xs:List AV} {ds:List Value} (j:Nat),VRs σ xs ds->VRs σ (xs.eraseIdx j) (ds.eraseIdx j):=by
       intro xs ds j hh
       rw [List.eraseIdx_eq_take_drop_succ,List.eraseIdx_eq_take_drop_succ]
       exact (hh.take j).append (hh.drop (j+1))
      have mapE:∀{β:Type} (f:MapEntry->β) (l:List MapEntry) (j:Nat),(l.eraseIdx j).map f=(l.map f).eraseIdx j:=by
       intro β f l j
       rw [List.eraseIdx_eq_take_drop_succ,List.eraseIdx_eq_take_drop_succ,List.map_append,List.map_take,List.map_drop]
      obtain ⟨l,sr'⟩:=write_map sr hn (clock':=clock) (es':=ents.eraseIdxIfInBounds i) (era i q2) (ks':=ks.eraseIdx i) ⟨by rw [Array.toList_eraseIdxIfInBounds,mapE,q3.1],by rw [Array.toList_eraseIdxIfInBounds,mapE,q3.2]⟩ (bs':=bs.eraseIdx i)
       (by rw [Array.toList_eraseIdxIfInBounds,mapE,q4])
      refine ⟨σ.setMap n (ents.eraseIdxIfInBounds i) clock (.map (ks.eraseIdx i) (vs.eraseIdx i) (bs.eraseIdx i) clock false),_,?_,rfl,rfl,l,sr',.tree (.sc rfl)⟩
      rw [hm.mp_inv sr hn] at e0 e1 ⊢
      simp only [Builtin.delete_,hts,e0,e1,Sem.run_bind,run_under hu,Result.andThen_ok,run_getObj_map q1,hchk,hrun,run_setObj q1,Sem.run_pure]
      rfl
     ·rename_i hfk
      cases h
      have hn:σ.h n=some (.map ks vs bs clock false):=by rw [<-hf _ _ _ rfl n (by simp)];exact ho
      refine ⟨_,n,_,rfl,?_⟩
      obtain ⟨ents,vs0,q1,q2,q3,q4,q5⟩:=sr.obj n _ hn
      obtain ⟨hrun,_⟩:=run_findKey (P:=P) huk hsame q3 hfk σ.w
      obtain ⟨l,sr'⟩:=write_map sr hn (clock':=clock) q2 q3 q4
      refine ⟨σ.setMap n ents clock (.map ks vs bs clock false),_,?_,rfl,rfl,l,sr',.tree (.sc rfl)⟩
      rw [hm.mp_inv sr hn] at e0 e1 ⊢
      simp only [Builtin.delete_,hts,e0,e1,Sem.run_bind,run_under hu,Result.andThen_ok,run_getObj_map q1,hchk,hrun,Option.bind_none,run_setObj q1,Sem.run_pure]
      rfl
     ·cases h
    ·cases h
   ·cases h
  ·cases h
 ·cases h
end Go.Abs
end
section
namespace Go.Abs
variable {P:Program} {tab:Tab} {σ:Sg}
structure Src (P:Program) (σ:Sg) (s:Nat) (xs:List (List AV)) (xv:Value) (vs:List Value):Prop where
 len:∀w,(Builtin.lenOf xv).run P w=.ok xs.length w
 vrs:VRs σ xs.flatten vs
 all:∀e∈xs,e.length=s
 cells:∀k w,k<=xs.length->w.heap=σ.w.heap->(Builtin.firstCells s k xv).run P w=.ok (vs.take (k*s)).toArray w
theorem cell_heap {w w':World} (h:w'.heap=w.heap) (a:Addr):w'.cell? a=w.cell? a:=by simp [World.cell?,h]
theorem run_loads {w:World} {b o:Nat} {vs:List Value} (h:w.rangeAt b o vs) (k:Nat) (hk:k<=vs.length):(loadCells ⟨b,o,none⟩ k).run P w=.ok (vs.take k).toArray w:=by
 have:=run_loadCells_list (P:=P) w ⟨b,o,none⟩ (vs.take k) (λj v hv=>by
  rw [Addr.add_mid]
  refine h j v ?_
  rw [List.getElem?_take] at hv
  split at hv
  ·exact hv
  ·cases hv)
 rwa [List.length_take,Nat.min_eq_left hk] at this
theorem run_loadsR {w w':World} {I:Nat->Nat->Prop} {J:Nat->Prop} {es:List (List AV)} {a:Addr} {vs:List Value} (ht:TVs w I J es.flatten vs) (hr:es≠[]->Row w I a vs) (hw:w'.heap=w.heap) (k:Nat) (hk:k<=vs.length):(loadCells a k).run P w'=.ok (vs.take k).toArray w':=by
 cases es with
 |nil=>
  cases ht
  cases Nat.le_zero.1 hk
  rfl
 |cons e es=>
  obtain ⟨b,o,sp⟩:=a
  obtain ⟨rfl,hr⟩:=hr (by simp)
  exact run_loads (λj v hv=>by rw [cell_heap hw];exact (hr j v hv).2) k hk
theorem shown_src (sr:SR σ) {H:Heap} {s:Nat} {x:AV} {xv:Value} (hx:VR σ x xv) {xs:List (List AV)} {rd:List Nat} (h:shown H s x=some (xs,rd)) (hf:∀m∈rd,look H.objs m=σ.h m) :
 (∃vs,Src P σ s xs xv vs)/\∃a l c,xv=.slice a l c:=by
 unfold shown at h
 split at h
 ·cases h
  obtain ⟨rfl,_⟩:=hx.sc_inv
  exact ⟨⟨[],λ_=>rfl,.nil,by simp,λk w _ _=>by simp only [Builtin.firstCells,List.take_nil];rfl⟩,_,_,_,rfl⟩
 ·rename_i es c
  split at h
  ·rename_i hall
   cases h
   obtain ⟨a,vs,s',cap,rfl,ht,hr,hs,_,_⟩:=hx.isl_inv
   have hss:∀e∈xs,e.length=s:=λe he=>by have:=(List.all_eq_true.1 hall) e he;simpa using this
   refine ⟨⟨vs,λ_=>rfl,ht.vrs,hss,λk w hk hw=>?_⟩,_,_,_,rfl⟩
   have hl:=ht.length
   rw [flatten_length hss] at hl
   simp only [Builtin.firstCells]
   exact run_loadsR ht hr hw _ (by rw [hl];exact Nat.mul_le_mul_right s hk)
  ·cases h
 ·rename_i n g off len cap
  split at h
  ·rename_i es s' fz ho
   split at h
   ·rename_i hcond
    obtain ⟨hg,hs,hol⟩:=hcond
    cases h
    subst hs
    have hn:σ.h n=some (.cells es s' fz):=by rw [<-hf n (by simp)];exact ho
    obtain ⟨cap',arr,t',rg,rfl,hw,hl,hr,hle,hcap⟩:=hx.sl_inv sr hn hg
    obtain ⟨arr0,t0,rg0,full,q1,qj,q2,q3,q4,q5,q6,q7⟩:=sr.obj n _ hn
    have hsub:∀e∈(es.drop off).take len,e.length=s':=λe he=>q4 e (List.mem_of_mem_drop (List.mem_of_mem_take he))
    have hv:VRs σ ((es.drop off).take len).flatten ((full.drop (off*s')).take (len*s')):=by
     rw [flatten_take len (λe he=>q4 e (List.mem_of_mem_drop he)),flatten_drop off q4]
     exact (q3.drop _).take _
    have hlen:((es.drop off).take len).length=len:=by simp;omega
    refine ⟨⟨_,λ_=>by rw [hlen];rfl,hv,hsub,λk w hk hw'=>?_⟩,_,_,_,rfl⟩
    have hvl:=hv.length
    rw [flatten_length hsub,hlen] at hvl
    simp only [Builtin.firstCells]
    refine run_loads (λj v hjv=>?_) _ (by rw [hvl];exact Nat.mul_le_mul_right s' (by omega))
    rw [cell_heap hw',cell_of_heap q1]
    refine q6 _ v ?_
    rw [List.getElem?_take] at hjv
    split at hjv
    ·rw [List.getElem?_drop] at hjv;exact hjv
    ·cases hjv
   ·cases h
  ·cases h
 ·cases h
theorem string_src (x:ByteArray):Src P σ 1 (bytesOf x) (.string x) (x.data.toList.map λb=>.int .u8 b.toNat):=by
 have hfl:(bytesOf x).flatten=x.data.toList.map λb=>AV.sc (.int .u8 b.toNat):=by
  unfold bytesOf
  induction x.data.toList with
  |nil=>rfl
  |cons b r ih=>simp [ih]
 have hlen:(bytesOf x).length=x.size:=by
  show (x.data.toList.map _).length=x.data.size
  simp
 refine ⟨λw=>by rw [hlen];rfl,?_,by simp [bytesOf],λk w hk _=>?_⟩
 ·rw [hfl]
  have:∀l:List UInt8,VRs σ (l.map λb=>AV.sc (.int .u8 b.toNat)) (l.map λb=>.int .u8 b.toNat):=by
   intro l
   induction l with
   |nil=>exact .nil
   |cons b r ih=>exact .cons (.tree (.sc rfl)) ih
  exact this _
 ·simp only [Builtin.firstCells,Sem.run_pure]
  congr 1
  apply Array.ext'
  rw [Array.toList_map,Nat.mul_one,List.toList_toArray,<-List.map_take]
  congr 1
  simp [ByteArray.extract,ByteArray.copySlice]
theorem over_ok (sr:SR σ) {n g off len:Nat} {cap:Option Nat} {xv:Value} {es:List (List AV)} {s fz:Nat} (hx:VR σ (.sl n g off len cap) xv) (hn:σ.h n=some (.cells es s fz)) (hg:es.length=g)
 {new:List (List AV)} {vs:List Value} (hv:VRs σ new.flatten vs) (hall:∀e∈new,e.length=s) {at_:Nat} (hat:at_+new.length<=g) (hfz:fz<=at_) (hst:∀e∈new,e.all AV.storable=true) :
 ∃σ',(∀w,w.heap=σ.w.heap->(storeCells ⟨σ.r n,at_*s,none⟩ vs 0).run P w=.ok () (w.setCells (σ.r n) (at_*s) vs))/\σ'.w=σ.w.setCells (σ.r n) (at_*s) vs/\
  σ'.h=upd σ.h n (some (.cells (es.take at_++new++es.drop (at_+new.length)) s fz))/\σ'.dead=σ.dead/\σ'.r=σ.r/\Le σ σ'/\SR σ':=by
 obtain ⟨arr,t0,rg,full,q1,qj,q2,q3,q4,q5,q6,q7⟩:=sr.obj n _ hn
 have hfl:=flatten_length q4
 have hfull:=q3.length
 have hnl:=flatten_length hall
 have hvl:=hv.length
 have hb:=Nat.mul_le_mul_right s hat
 rw [Nat.add_mul] at hb
 have e1:(es.take at_++new++es.drop (at_+new.length)).flatten=es.flatten.take (at_*s)++new.flatten++es.flatten.drop (at_*s+new.flatten.length):=by
  rw [List.flatten_append,List.flatten_append,flatten_take at_ q4,flatten_drop _ q4,hnl,Nat.add_mul]
 obtain ⟨l,sr'⟩:=write_own sr hn hv e1 (by rw [hfl,hg];omega) (Nat.mul_le_mul_right s hfz) (by simp;omega) (λe he=>by
  simp only [List.mem_append] at he
  rcases he with (he | he) | he
  ·exact q4 e (List.mem_of_mem_take he)
  ·exact hall e he
  ·exact q4 e (List.mem_of_mem_drop he)) q1 (by rw [hvl,hnl];rw [hfl,hg] at hfull;omega)
 refine ⟨σ.write n (at_*s) vs (.cells (es.take at_++new++es.drop (at_+new.length)) s fz),λw hw=>?_,rfl,rfl,rfl,rfl,l,sr'⟩
 have hone:∀v∈vs,v.oneCell'=true:=storables_vr hv (by
  rw [List.all_eq_true]
  intro x hx
  obtain ⟨e,he,hxe⟩:=List.mem_flatten.1 hx
  exact (List.all_eq_true.1 (hst e he)) x hxe)
 have:=run_storeCells_cells (P:=P) (σ.r n) (at_*s) vs 0 w (λj hj=>by
  rw [cell_heap hw,cell_of_heap q1]
  simp only [Option.isSome_iff_exists]
  exact ⟨_,Array.getElem?_eq_getElem (by rw [hvl,hnl] at hj;rw [hfl,hg] at hfull;omega)⟩) (λj hj=>by
  have:=q2 (at_*s+0+j) (by rw [hvl,hnl] at hj;rw [hfl,hg] at hfull;omega)
  simp only [World.frozen?,hw,q1]
  simpa using λh1=>Nat.le_of_not_lt λh2=>this ⟨h1,h2⟩) hone
 simpa using this
end Go.Abs
end
