/- Of ServerHides: lemmas. -/
import Derived.Test.YtlhdbnmgiaoeeaaGreatUAg
set_option linter.all false
section
namespace Go.Abs
variable {P:Program} {tab:Tab} {R:Rn} {T:WT} {W:WH} {H:Heap} {Tc:TL} {o:Oper} {K:WK}
theorem leaf_view {v:WV} {x:AV} {k:Nat} (hl:leafB v=true) (h:WR R v x):viewA H (k+1) x=some (x,[]):=by
 have h:=leaf_pr hl h
 cases h with
 |sc=>rfl
 |agg=>cases hl
 |tup=>cases hl
 |emp=>rfl
 |lst=>rfl
 |ipt=>rfl
 |imb=>rfl
 |@fnp f a b xs ys ha hb=>
  cases a with
  |cons c a=>cases hl
  |nil=>
   cases b with
   |cons c b=>cases hl
   |nil=>cases ha;cases hb;rfl
 |ifc=>cases hl
 |lsc=>cases hl
 |lsc0=>cases hl
 |pin hq=>cases hq<;>rfl
theorem leafs_view1 {k:Nat}:∀{cs:List WV} {xs:List AV},cs.all leafB=true->WRs R cs xs->viewList (viewA H (k+1)) xs=some (xs,[])
 |_,_,_,.nil=>rfl
 |_,_,hl,.cons h hs=>by
  simp only [List.all_cons,Bool.and_eq_true] at hl
  simp only [viewList,leaf_view hl.1 h,leafs_view1 hl.2 hs,List.append_nil]
theorem leafs_view {k:Nat} {es:List (List WV)} {xs:List (List AV)} (hl:leafs es) (h:WRss R es xs):viewLists (viewA H (k+1)) xs=some (xs,[]):=by
 induction h with
 |nil=>rfl
 |cons h _ ih=>simp only [viewLists,leafs_view1 (hl _ (by simp)) h,ih λe he=>hl e (by simp [he]),List.append_nil]
theorem viewA_sl {k n g off len:Nat} {cap:Option Nat} {es:List (List AV)} {s fz:Nat} (h:look H.objs n=some (.cells es s fz)) (hg:es.length=g) :
 viewA H (k+1) (.sl n g off len cap)=match viewLists (viewA H k) ((es.drop off).take len) with | some (ds,ns)=>some (AV.isl ds (cap==some len),n::ns) | none=>none:=by
 show (match look H.objs n with
  |some (.cells es _ _)=>if es.length=g then (match viewLists (viewA H k) ((es.drop off).take len) with | some (ds,ns)=>some (AV.isl ds (cap==some len),n::ns) | none=>none) else none
  |_=>none)=_
 grind
theorem viewA_agg {k:Nat} {cs:List AV}:viewA H (k+1) (.agg cs)=match viewList (viewA H k) cs with | some (ds,ns)=>some (AV.agg ds,ns) | none=>none:=rfl
def noSet:WO->Prop
 |.set _ _=>False
 |.loop _ _ _ _=>False
 |.frm _ _=>False
 |_=>True
def Lent (R:Rn) (W:WH) (ns ms:List Nat):Prop:=∀c∈ms,∃n∈ns,∃o,lk W.objs n=some o/\hasO R n o/\R.ob n=c/\noSet o
theorem Lent.append {a b c d:List Nat} (h:Lent R W a c) (h':Lent R W b d):Lent R W (a++b) (c++d):=λm hm=>by
 rcases List.mem_append.1 hm with q | q
 ·obtain ⟨n,hn,h⟩:=h m q;grind
 ·obtain ⟨n,hn,h⟩:=h' m q;grind
theorem boxesC_ok (rh:RelH R W H) {k:Nat} {b d:List WV} {ns:List Nat} (h:BoxesC W b d ns):∀{xs:List AV},WRs R b xs->∃ys ms,viewList (viewA H (k+2)) xs=some (ys,ms)/\PRs d ys/\Lent R W ns ms/\d.all leafB=true:=by
 induction h with
 |nil=>intro xs hx;cases hx;exact ⟨[],[],rfl,.nil,(λ_ h=>by cases h),rfl⟩
 |@box n c b d fz ns hes hl _ ih=>
  intro xs hx
  cases hx with
  |cons hx hs=>
   obtain ⟨ys,ms,h1,h2,h3,h4⟩:=ih hs
   obtain ⟨hal,zs,fz',hlook,hz,_⟩:=rh.box_obj hes
   obtain rfl:=hx.box_inv.2.2 hal
   have e0:viewA H (k+2) (.pt (R.ob n) 1 0 0)=some (.ipt zs,[R.ob n]):=by
    show (match look H.objs (R.ob n) with
     |some (.cells es _ _)=>if es.length=1 then (match viewList (viewA H (k+1)) (((es.drop 0).flatten).drop 0) with | some (ds,ns)=>some (AV.ipt ds,R.ob n::ns) | none=>none) else none
     |_=>none)=_
    rw [hlook]
    have e1:(List.drop 0 (List.drop 0 [zs]).flatten)=zs:=by simp
    simp only [e1,List.length_singleton,if_true]
    rw [leafs_view1 hl hz]
   refine ⟨.ipt zs::ys,R.ob n::ms,by simp only [viewList,e0,h1];rfl,.cons (.ipt (leaf_prs hl hz)) h2,λc hc=>?_,by simp [leafB,h4]⟩
   rcases List.mem_cons.1 hc with rfl | hc
   ·exact ⟨n,by simp,_,hes,trivial,rfl,trivial⟩
   ·obtain ⟨m,a,b⟩:=h3 c hc
    grind
theorem deepC_ok (rh:RelH R W H) {k:Nat} {cs ds:List WV} {ns:List Nat} (h:DeepC W cs ds ns):∀{xs:List AV},WRs R cs xs->∃ys ms,viewList (viewA H (k+3)) xs=some (ys,ms)/\PRs ds ys/\Lent R W ns ms:=by
 induction h with
 |nil=>intro xs hx;cases hx;exact ⟨[],[],rfl,.nil,λ_ h=>by cases h⟩
 |leaf h _ ih=>
  intro xs hx
  cases hx with
  |cons hx hs=>
   obtain ⟨ys,ms,h1,h2,h3⟩:=ih hs
   exact ⟨_,ms,by simp only [viewList,leaf_view h hx,h1,List.nil_append],.cons (leaf_pr h hx) h2,h3⟩
 |@fn f b d cs ds ns ms hb _ ih=>
  intro xs hx
  cases hx with
  |cons hx hs=>
   obtain ⟨ys,ms',h1,h2,h3⟩:=ih hs
   obtain ⟨fs,bs,rfl,ha,hbs⟩:=hx.fn_inv
   cases ha
   obtain ⟨zs,ms1,q1,q2,q3,q4⟩:=boxesC_ok (k:=k) rh hb hbs
   refine ⟨.fn (.func f) [] zs::ys,ms1++ms',?_,.cons (.fnp .nil q2 rfl q4) h2,q3.append h3⟩
   have e0:viewA H (k+3) (.fn (.func f) [] bs)=some (.fn (.func f) [] zs,ms1):=by
    show (match viewList (viewA H (k+2)) [],viewList (viewA H (k+2)) bs with | some (p,ns),some (q,ms)=>some (AV.fn (.func f) p q,ns++ms) | _,_=>none)=_
    rw [q1]
    rfl
   simp only [viewList,e0,h1]
 |@row m s rt fz es cs ds ns hes hl _ ih=>
  intro xs hx
  cases hx with
  |cons hx hs=>
   obtain ⟨ys,ms,h1,h2,h3⟩:=ih hs
   obtain ⟨hal,hlen,hrow⟩:=rh.row_obj hes
   have hq:=hx.row_inv.2.2 hal
   rcases hrow with ⟨hav,rfl⟩ | ⟨g,cap,xs',fz',hav,hlook,hg,hxs,_⟩
   ·rw [hav] at hq
    subst hq
    exact ⟨.sc (.slice none 0 0)::ys,ms,by simp only [viewList,h1];rfl,.cons .emp h2,λc hc=>let ⟨n,a,b⟩:=h3 c hc;⟨n,by simp [a],b⟩⟩
   ·rw [hav] at hq
    subst hq
    refine ⟨.isl xs' (cap==some g)::ys,R.ob m::ms,?_,.cons (.lst (leafs_prss hl hxs)) h2,λc hc=>?_⟩
    ·have e1:(List.drop 0 xs').take g=xs':=by grind
     simp only [viewList]
     grind [viewA_sl,leafs_view]
    ·rcases List.mem_cons.1 hc with rfl | hc
     ·exact ⟨m,by simp,_,hes,(show R.av m≠nilA by rw [hav];intro e;cases e),rfl,trivial⟩
     ·obtain ⟨n,a,b⟩:=h3 c hc
      grind
theorem deep_ok (rh:RelH R W H) {k:Nat} {es zs:List (List WV)} {ns:List Nat} (h:Deep W es zs ns):∀{xs:List (List AV)},WRss R es xs->∃ys ms,viewLists (viewA H (k+3)) xs=some (ys,ms)/\PRss zs ys/\Lent R W ns ms:=by
 induction h with
 |nil=>intro xs hx;cases hx;exact ⟨[],[],rfl,.nil,λ_ h=>by cases h⟩
 |leaf h _ ih=>
  intro xs hx
  cases hx with
  |cons hx hs=>
   obtain ⟨ys,ms,h1,h2,h3⟩:=ih hs
   exact ⟨_,ms,by simp only [viewLists,leafs_view1 h hx,h1,List.nil_append],.cons (leaf_prs h hx) h2,h3⟩
 |deep h _ ih=>
  intro xs hx
  cases hx with
  |cons hx hs=>
   obtain ⟨ys,ms,h1,h2,h3⟩:=ih hs
   obtain ⟨y,ms',h4,h5,h6⟩:=deepC_ok (k:=k) rh h hx
   exact ⟨_,ms'++ms,by simp only [viewLists,h4,h1],.cons h5 h2,h6.append h3⟩
theorem leafs_viewP {k:Nat}:∀{vs:List AV},(∀x∈vs,∃v,leafB v=true/\PR v x)->viewList (viewA H (k+1)) vs=some (vs,[])
 |[],_=>rfl
 |x::vs,h=>by
  obtain ⟨v,hl,hp⟩:=h x (by simp)
  have e2:=leafs_viewP (k:=k) (vs:=vs) λy hy=>h y (List.mem_cons_of_mem _ hy)
  simp only [viewList,leaf_view (R:=⟨0,λ_=>False,λ_=>0,λ_=>nilA⟩) hl (.pure hp),e2,List.append_nil]
theorem viewMs_ok (rh:RelH R W H) (k:Nat):∀{cs:List WV} {xs:List AV} {X:List WV->List Nat->Prop},WRs R cs xs->viewMs W cs X->∃ds ns ys ms,X ds ns/\viewList (viewA H (k+3)) xs=some (ys,ms)/\PRs ds ys/\Lent R W ns ms
 |_,_,_,.nil,h=>⟨[],[],[],[],h,rfl,.nil,λ_ h=>by cases h⟩
 |c::cs,x::xs,X,.cons hr hs,hall=>by
  have one:∃d ns y ms,viewMs W cs (λds ms=>X (d::ds) (ns++ms))/\viewA H (k+3) x=some (y,ms)/\PR d y/\Lent R W ns ms:=by
   have h:viewM W c λd ns=>viewMs W cs λds ms=>X (d::ds) (ns++ms):=hall
   clear hall
   unfold viewM at h
   split at h
   ·rename_i n
    split at h
    ·rename_i G fz pe hes
     obtain ⟨_,hal,ks,vs,bs,clock,fz',hlook,hlen,hbo,hvl,_,hvs⟩:=rh.obj n _ hes
     obtain rfl:=hr.mp_inv.2.2 hal
     refine ⟨_,_,.imp ks vs,[R.ob n],h,?_,.imb hlen hvs,λc hc=>?_⟩
     ·show (match look H.objs (R.ob n) with
       |some (.map ks vs bs c _)=>match viewList (viewA H (k+2)) vs with | some (ds,ns)=>if bornsOk c bs then some (AV.imp ks ds,R.ob n::ns) else none | none=>none
       |_=>none)=_
      rw [hlook]
      simp only [leafs_viewP hvl,hbo.1,if_true]
     ·simp only [List.mem_singleton] at hc
      subst hc
      exact ⟨n,by simp,_,hes,trivial,rfl,trivial⟩
    grind
   ·obtain ⟨hl,h⟩:=beq_of_bif h
    exact ⟨_,_,x,[],h,leaf_view hl hr,leaf_pr hl hr,λ_ h=>by cases h⟩
  obtain ⟨d,ns,y,ms,h,h1,h2,h3⟩:=one
  obtain ⟨ds,ns',ys,ms',h,h4,h5,h6⟩:=viewMs_ok rh k hs h
  exact ⟨_,_,y::ys,ms++ms',h,by simp only [viewList,h1,h4],.cons h2 h5,h3.append h6⟩
theorem viewC_ok (rh:RelH R W H) {v:WV} {x:AV} {X:WV->List Nat->Prop} (k:Nat) (hr:WR R v x) (h:viewC W v X):∃d ns y ms,X d ns/\viewA H (k+4) x=some (y,ms)/\PR d y/\Lent R W ns ms:=by
 have nl:∀{ns:List Nat},Lent R W ns []:=λ_ h=>by cases h
 unfold viewC at h
 split at h
 ·obtain rfl:=hr.sc_inv
  exact ⟨_,_,_,_,h,rfl,.emp,nl⟩
 ·obtain rfl:=hr.sc_inv
  exact ⟨_,_,_,_,h,rfl,.sc,nl⟩
 ·rcases hr.lst_inv with ⟨rfl,rfl⟩ | ⟨xs,c,rfl,hx⟩
  ·exact ⟨_,_,_,_,h,rfl,.emp,nl⟩
  ·exact ⟨_,_,_,_,h,rfl,.lst hx,nl⟩
 ·obtain ⟨xs,rfl,hx⟩:=hr.ipt_inv
  exact ⟨_,_,_,_,h,rfl,.ipt hx,nl⟩
 ·obtain ⟨ks,vs,rfl,hl,hx⟩:=hr.imb_inv
  exact ⟨_,_,_,_,h,rfl,.imb hl hx,nl⟩
 ·exact ⟨_,_,_,_,h,leaf_view (k:=k+3) rfl hr,leaf_pr rfl hr,nl⟩
 ·rename_i n
  split at h
  ·rename_i es s fz rt hes
   obtain ⟨zs,ns,hd,h⟩:=h
   obtain ⟨hal,hlen,hrow⟩:=rh.row_obj hes
   have hq:=hr.row_inv.2.2 hal
   rcases hrow with ⟨hav,rfl⟩ | ⟨g,cap,xs,fz',hav,hlook,hg,hxs,_⟩
   ·rw [hav] at hq
    subst hq
    cases hd
    exact ⟨_,_,_,_,h,rfl,.emp,nl⟩
   ·rw [hav] at hq
    subst hq
    obtain ⟨ys,ms,h1,h2,h3⟩:=deep_ok (k:=k) rh hd hxs
    refine ⟨_,_,.isl ys (cap==some g),R.ob n::ms,h,?_,.lst h2,λc hc=>?_⟩
    ·have e1:(List.drop 0 xs).take g=xs:=by grind
     rw [viewA_sl hlook hg,e1,h1]
    ·rcases List.mem_cons.1 hc with rfl | hc
     ·exact ⟨n,by simp,_,hes,(show R.av n≠nilA by rw [hav];intro e;cases e),rfl,trivial⟩
     ·obtain ⟨n',a,b⟩:=h3 c hc
      grind
  grind
 ·rename_i n lo len cp
  split at h
  ·rename_i es s fz rt hes
   obtain ⟨hl,zs0,rfl,h⟩:=h
   obtain ⟨hal,hlen,hrow⟩:=rh.row_obj hes
   rcases hr.win_inv hal with ⟨rfl,hx⟩ | ⟨g,cap,c',lo',hav,rfl,hlo,hle,_⟩
   ·have e0:List.take 0 (List.drop lo es)=[]:=by simp
    rw [e0] at h
    rcases hx with rfl | ⟨cb,rfl,_⟩
    ·exact ⟨_,[n],.sc (.slice none 0 0),[],h,rfl,.emp,λ_ h=>by cases h⟩
    ·exact ⟨_,[n],.isl [] cb,[],h,rfl,.lst .nil,λ_ h=>by cases h⟩
   ·rcases hrow with ⟨hav0,_⟩ | ⟨g',cap',xs,fz',hav',hlook,hg,hxs,_⟩
    ·rw [hav0] at hav;cases hav
    ·rw [hav] at hav'
     cases hav'
     have key:WRss R ((es.drop lo).take len) ((xs.drop lo').take len):=by
      by_cases h0:len=0
      ·subst h0;simpa using All2.nil
      ·rw [hlo h0];exact (All2.drop _ hxs).take _
     have hl':leafs ((es.drop lo).take len):=λe he=>hl e (List.mem_of_mem_drop (List.mem_of_mem_take he))
     refine ⟨_,[n],.isl ((xs.drop lo').take len) (c'==some len),[R.ob n],h,?_,.lst (leafs_prss hl' key),λc hc=>?_⟩
     ·rw [viewA_sl hlook hg,leafs_view hl' key]
     ·simp only [List.mem_singleton] at hc
      subst hc
      exact ⟨n,by simp,_,hes,(show R.av n≠nilA by rw [hav];intro e;cases e),rfl,trivial⟩
  grind
 ·rename_i n
  split at h
  ·rename_i cs fz hes
   obtain ⟨hal,xs,fz',hlook,hx,_⟩:=rh.box_obj hes
   obtain rfl:=hr.box_inv.2.2 hal
   have e0:∀{ys ms},viewList (viewA H (k+3)) xs=some (ys,ms)->viewA H (k+4) (.pt (R.ob n) 1 0 0)=some (.ipt ys,R.ob n::ms):=λ{ys ms} q=>by
    show (match look H.objs (R.ob n) with
     |some (.cells es _ _)=>if es.length=1 then (match viewList (viewA H (k+3)) (((es.drop 0).flatten).drop 0) with | some (ds,ns)=>some (AV.ipt ds,R.ob n::ns) | none=>none) else none
     |_=>none)=_
    rw [hlook]
    have e1:(List.drop 0 (List.drop 0 [xs]).flatten)=xs:=by simp
    simp only [e1,List.length_singleton,if_true]
    rw [q]
   cases hl:cs.all leafB with
   |true=>
    rw [hl] at h
    refine ⟨_,_,.ipt xs,[R.ob n],h,e0 (leafs_view1 hl hx),.ipt (leaf_prs hl hx),λc hc=>?_⟩
    simp only [List.mem_singleton] at hc
    subst hc
    exact ⟨n,by simp,_,hes,trivial,rfl,trivial⟩
   |false=>
    rw [hl] at h
    obtain ⟨ds,ns,ys,ms,h,h1,h2,h3⟩:=viewMs_ok rh k hx h
    refine ⟨_,_,.ipt ys,R.ob n::ms,h,e0 h1,.ipt h2,λc hc=>?_⟩
    rcases List.mem_cons.1 hc with rfl | hc
    ·exact ⟨n,by simp,_,hes,trivial,rfl,trivial⟩
    ·obtain ⟨m,hm,q⟩:=h3 c hc
     grind
  grind
 ·rename_i n
  split at h
  ·rename_i G fz pe hes
   obtain ⟨_,hal,ks,vs,bs,clock,fz',hlook,hlen,hbo,hvl,_,hvs⟩:=rh.obj n _ hes
   obtain rfl:=hr.mp_inv.2.2 hal
   refine ⟨_,_,.imp ks vs,[R.ob n],h,?_,.imb hlen hvs,λc hc=>?_⟩
   ·show (match look H.objs (R.ob n) with
     |some (.map ks vs bs c _)=>match viewList (viewA H (k+3)) vs with | some (ds,ns)=>if bornsOk c bs then some (AV.imp ks ds,R.ob n::ns) else none | none=>none
     |_=>none)=_
    rw [hlook]
    simp only [leafs_viewP hvl,hbo.1,if_true]
   ·simp only [List.mem_singleton] at hc
    subst hc
    exact ⟨n,by simp,_,hes,trivial,rfl,trivial⟩
  grind
 grind
theorem viewCs_ok (rh:RelH R W H) (k:Nat):∀{cs:List WV} {xs:List AV} {X:List WV->List Nat->Prop},WRs R cs xs->viewCs W cs X->∃ds ns ys ms,X ds ns/\viewList (viewA H (k+4)) xs=some (ys,ms)/\PRs ds ys/\Lent R W ns ms
 |_,_,_,.nil,h=>⟨[],[],[],[],h,rfl,.nil,λ_ h=>by cases h⟩
 |_,_,_,.cons hr hs,h=>by
  obtain ⟨d,ns,y,ms,h,h1,h2,h3⟩:=viewC_ok rh k hr h
  obtain ⟨ds,ns',ys,ms',h,h4,h5,h6⟩:=viewCs_ok rh k hs h
  exact ⟨_,_,y::ys,ms++ms',h,by simp only [viewList,h1,h4],.cons h2 h5,h3.append h6⟩
theorem viewI_ok (rh:RelH R W H) {v:WV} {x:AV} {X:WV->List Nat->Prop} (k:Nat) (hr:WR R v x) (h:viewI W v X):∃d ns y ms,X d ns/\viewA H (k+5) x=some (y,ms)/\PR d y/\Lent R W ns ms:=by
 unfold viewI at h
 split at h
 ·rename_i cs
  obtain ⟨xs,rfl,hx⟩:=hr.agg_inv
  obtain ⟨ds,ns,ys,ms,h,h1,h2,h3⟩:=viewCs_ok rh k hx h
  exact ⟨_,_,.agg ys,ms,h,by rw [viewA_agg,h1],.agg h2,h3⟩
 ·exact viewC_ok rh (k+1) hr h
theorem viewV_ok (rh:RelH R W H) {v:WV} {x:AV} {X:WV->List Nat->Prop} (k:Nat) (hr:WR R v x) (h:viewV W v X):∃d ns y ms,X d ns/\viewA H (k+6) x=some (y,ms)/\PR d y/\Lent R W ns ms:=by
 unfold viewV at h
 split at h
 ·rename_i t v
  obtain ⟨y,rfl,hr2⟩:=hr.ifc_inv
  obtain ⟨d,ns,z,ms,h,h1,h2,h3⟩:=viewI_ok rh k hr2 h
  refine ⟨_,_,.ifc t z,ms,h,?_,.ifc h2,h3⟩
  show (match viewA H (k+5) y with | some (z,ns)=>some (AV.ifc t z,ns) | none=>none)=_
  rw [h1]
 ·rename_i cs
  obtain ⟨xs,rfl,hx⟩:=hr.agg_inv
  cases hb:cs.all leafB with
  |true=>
   rw [hb] at h
   exact ⟨_,_,.agg xs,[],h,by rw [viewA_agg,leafs_view1 hb hx],.agg (leaf_prs hb hx),λ_ h=>by cases h⟩
  |false=>
   rw [hb] at h
   obtain ⟨ds,ns,ys,ms,h,h1,h2,h3⟩:=viewCs_ok rh (k+1) hx h
   exact ⟨_,_,.agg ys,ms,h,by rw [viewA_agg,h1],.agg h2,h3⟩
 ·rename_i f a b
  obtain ⟨xs,ys,rfl,ha,hb,hl,hm⟩:=hr.fnp_inv
  refine ⟨_,_,.fn (.func f) xs ys,[],h,?_,.fnp ha hb hl hm,λ_ h=>by cases h⟩
  show (match viewList (viewA H (k+5)) xs,viewList (viewA H (k+5)) ys with | some (p,ns),some (q,ms)=>some (AV.fn (.func f) p q,ns++ms) | _,_=>none)=_
  rw [leafs_view1 (R:=R) hl ha.wrs,leafs_view1 (R:=R) hm hb.wrs]
  rfl
 ·rename_i f a b
  obtain ⟨xs,ys,rfl,ha,hb⟩:=hr.fn_inv
  obtain ⟨as,ns,xs',ms,h,h1,h2,h3⟩:=viewCs_ok rh (k+1) ha h
  obtain ⟨bs,ns',ys',ms',h,h4,h5,h6⟩:=viewCs_ok rh (k+1) hb h
  obtain ⟨hl,h⟩:=beq_of_bif h
  simp only [Bool.and_eq_true] at hl
  refine ⟨_,_,.fn (.func f) xs' ys',ms++ms',h,?_,.fnp h2 h5 hl.1 hl.2,h3.append h6⟩
  show (match viewList (viewA H (k+5)) xs,viewList (viewA H (k+5)) ys with | some (p,ns),some (q,ms)=>some (AV.fn (.func f) p q,ns++ms) | _,_=>none)=_
  rw [h1,h4]
 ·exact viewC_ok rh (k+2) hr h
theorem viewVs_ok (rh:RelH R W H) (k:Nat):∀{cs:List WV} {xs:List AV} {X:List WV->List Nat->Prop},WRs R cs xs->viewVs W cs X->∃ds ns ys ms,X ds ns/\viewList (viewA H (k+6)) xs=some (ys,ms)/\PRs ds ys/\Lent R W ns ms
 |_,_,_,.nil,h=>⟨[],[],[],[],h,rfl,.nil,λ_ h=>by cases h⟩
 |_,_,_,.cons hr hs,h=>by
  obtain ⟨d,ns,y,ms,h,h1,h2,h3⟩:=viewV_ok rh k hr h
  obtain ⟨ds,ns',ys,ms',h,h4,h5,h6⟩:=viewVs_ok rh k hs h
  exact ⟨_,_,y::ys,ms++ms',h,by simp only [viewList,h1,h4],.cons h2 h5,h3.append h6⟩
theorem lk_freeze (ns:List Nat):∀(objs:List (Nat×WO)) (n:Nat),lk (freezeW objs ns) n=(lk objs n).map (freezeO ns n)
 |[],_=>rfl
 |(m,o)::r,n=>by
  show lk ((m,freezeO ns m o)::freezeW r ns) n=_
  rw [lk_cons,lk_cons,lk_freeze ns r n]
  split
  ·rename_i e;subst e;rfl
  ·rfl
theorem look_marks:∀(ms:List Nat) (objs0 objs:List (Nat×AO)) (nx c:Nat),(∀m∈ms,∃o,look objs0 m=some o)->look (putAll objs (marks ⟨objs0,nx⟩ ms)) c=if c∈ms then (look objs0 c).map frozenO else look objs c
 |[],_,_,_,_,_=>by rfl
 |m::ms,objs0,objs,nx,c,h=>by
  obtain ⟨o,ho⟩:=h m (by simp)
  simp only [marks,ho,putAll]
  rw [look_marks ms objs0 _ nx c (λk hk=>h k (by simp [hk])),look_put]
  by_cases hc:c∈ms
  ·simp [hc]
  ·rw [if_neg hc]
   by_cases hm:m=c
   ·subst hm;simp [ho]
   ·rw [if_neg hm,if_neg]
    intro q
    rcases List.mem_cons.1 q with rfl | q
    ·exact hm rfl
    ·exact hc q
theorem Lent.some (rh:RelH R W H) {ns ms:List Nat} (h:Lent R W ns ms):∀m∈ms,∃o,look H.objs m=some o:=λm hm=>by
 obtain ⟨n,_,o,h1,h2,rfl,_⟩:=h m hm
 exact rh.ob_look h1 h2
theorem relH_freeze (rh:RelH R W H) {ns ms:List Nat} (hl:Lent R W ns ms) {objs:List (Nat×AO)} (hobj:∀c,look objs c=(if c∈ms then (look H.objs c).map frozenO else look H.objs c)\/look objs c=look H.objs c) :
 RelH R ⟨freezeW W.objs ns,W.nx⟩ ⟨objs,H.next⟩:=by
 have inv:∀{n:Nat} {o:WO},lk (freezeW W.objs ns) n=some o->∃p,lk W.objs n=some p/\o=freezeO ns n p:=λ{n o} h=>by
  rw [lk_freeze] at h
  obtain ⟨p,hp,rfl⟩:=map_some h
  grind
 have has:∀{n:Nat} {p:WO},hasO R n (freezeO ns n p)->hasO R n p:=λ{n p} h=>by
  cases p with
  |box cs fz=>trivial
  |set ks v=>trivial
  |bag G fz pe=>trivial
  |loop=>trivial
  |frm=>exact h
  |row es s fz rt=>
   simp only [freezeO] at h
   cases hc:ns.contains n<;>rw [hc] at h<;>exact h
 refine ⟨rh.nx,λn o h=>?_,λn m o p h1 h2 h3 h4 e=>?_,λm hm=>?_⟩
 ·obtain ⟨p,hp,rfl⟩:=inv h
  obtain ⟨q1,q2,q3⟩:=rh.obj n p hp
  refine ⟨q1,q2,?_⟩
  cases p with
  |box cs fz=>
   obtain ⟨xs,fz',hx,hxr,hf1,hf0⟩:=q3
   have main:∀fz1:Bool,(fz1=false->fz=false/\n∉ns)->ObjR R ⟨objs,H.next⟩ n (.box cs fz1):=λfz1 hf=>by
    rcases hobj (R.ob n) with q | q
    ·by_cases hm:R.ob n∈ms
     ·rw [if_pos hm,hx] at q
      refine ⟨xs,max fz' 1,q,hxr,by omega,λhfalse=>?_⟩
      exfalso
      obtain ⟨n',hn',o',h1,h2,h3,_⟩:=hl _ hm
      have:=rh.inj n' n _ _ h1 hp h2 trivial h3
      grind
     ·rw [if_neg hm] at q
      exact ⟨xs,fz',q.trans hx,hxr,hf1,λh=>hf0 (hf h).1⟩
    ·exact ⟨xs,fz',q.trans hx,hxr,hf1,λh=>hf0 (hf h).1⟩
   simp only [freezeO]
   grind
  |set ks v=>
   obtain ⟨vs,bs,clock,hx,hv⟩:=q3
   refine ⟨vs,bs,clock,?_,hv⟩
   have hne:R.ob n∉ms:=λhm=>by
    obtain ⟨n',_,o',h1,h2,h3,h4⟩:=hl _ hm
    have:=rh.inj n' n _ _ h1 hp h2 trivial h3
    subst this
    rw [hp] at h1
    cases h1
    exact h4
   grind
  |bag G fz pe=>
   obtain ⟨ks,vs,bs,clock,fz',hx,r1,r2,r3,hf0,r4⟩:=q3
   have main:∀fz1:Bool,(fz1=false->fz=false/\n∉ns)->ObjR R ⟨objs,H.next⟩ n (.bag G fz1 pe):=λfz1 hf=>by
    rcases hobj (R.ob n) with q | q
    ·by_cases hm:R.ob n∈ms
     ·rw [if_pos hm,hx] at q
      refine ⟨ks,vs,bs,clock,true,q,r1,r2,r3,λhfalse=>?_,r4⟩
      exfalso
      obtain ⟨n',hn',o',h1,h2,h3,_⟩:=hl _ hm
      have:=rh.inj n' n _ _ h1 hp h2 trivial h3
      grind
     ·rw [if_neg hm] at q
      exact ⟨ks,vs,bs,clock,fz',q.trans hx,r1,r2,r3,λh=>hf0 (hf h).1,r4⟩
    ·exact ⟨ks,vs,bs,clock,fz',q.trans hx,r1,r2,r3,λh=>hf0 (hf h).1,r4⟩
   simp only [freezeO]
   grind
  |loop D T st pend=>
   have hne:R.ob n∉ms:=λhm=>by
    obtain ⟨n',_,o',h1,h2,h3,h4⟩:=hl _ hm
    have:=rh.inj n' n _ _ h1 hp h2 trivial h3
    subst this
    rw [hp] at h1
    cases h1
    exact h4
   obtain ⟨p1,p2,p3⟩:=q3
   refine ⟨p1,p2,?_⟩
   grind
  |frm T Tc=>exact q3
  |row es s fz rt=>
   obtain ⟨q4,q5⟩:=q3
   have main:∀fz1:Bool,(fz1=false->fz=false/\n∉ns)->ObjR R ⟨objs,H.next⟩ n (.row es s fz1 rt):=λfz1 hf=>by
    refine ⟨q4,?_⟩
    rcases q5 with h | ⟨g,cap,xs,fz',hav,hlook,hg,hxs,hcap,hfg,hfz⟩
    ·exact .inl h
    ·have hh:hasO R n (.row es s fz rt):=by intro e;rw [hav] at e;cases e
     have same:look objs (R.ob n)=look H.objs (R.ob n)->RowR R ⟨objs,H.next⟩ n es s fz1:=λq=>.inr ⟨g,cap,xs,fz',hav,q.trans hlook,hg,hxs,hcap,hfg,λh=>hfz (hf h).1⟩
     rcases hobj (R.ob n) with q | q
     ·by_cases hm:R.ob n∈ms
      ·rw [if_pos hm,hlook] at q
       refine .inr ⟨g,cap,xs,max fz' xs.length,hav,q,hg,hxs,hcap,by omega,λhfalse=>?_⟩
       exfalso
       obtain ⟨n',hn',o',h1,h2,h3,_⟩:=hl _ hm
       have:=rh.inj n' n _ _ h1 hp h2 hh h3
       grind
      grind
     grind
   simp only [freezeO]
   grind
 ·obtain ⟨o',ho',rfl⟩:=inv h1
  obtain ⟨p',hp',rfl⟩:=inv h2
  exact rh.inj n m _ _ ho' hp' (has h3) (has h4) e
 ·have hm':m∉ms:=λq=>by
   obtain ⟨n,_,o,h1,h2,h3,_⟩:=hl m q
   have:=rh.ob_lt h1 h2
   grind
  rcases hobj m with q | q
  ·rw [if_neg hm'] at q
   exact q.trans (rh.fresh m hm)
  ·exact q.trans (rh.fresh m hm)
theorem freezeH_eq {ns:List Nat}:freezeH W ns=⟨freezeW W.objs ns,W.nx⟩ \/(ns=[]/\freezeH W ns=W):=by
 cases ns with
 |nil=>exact .inr ⟨rfl,rfl⟩
 |cons n ns=>exact .inl rfl
theorem freezeH_nx {ns:List Nat}:(freezeH W ns).nx=W.nx:=by cases ns<;>rfl
theorem relH_freezeH (rh:RelH R W H) {ns ms:List Nat} (hl:Lent R W ns ms) {objs:List (Nat×AO)} (hobj:∀c,look objs c=(if c∈ms then (look H.objs c).map frozenO else look H.objs c)\/look objs c=look H.objs c) :
 RelH R (freezeH W ns) ⟨objs,H.next⟩:=by
 rcases freezeH_eq (W:=W) (ns:=ns) with h | ⟨rfl,h⟩
 ·grind [relH_freeze]
 ·rw [h]
  have hms:ms=[]:=by
   cases ms with
   |nil=>rfl
   |cons c l=>obtain ⟨n,hn,_⟩:=hl c (by simp);cases hn
  subst hms
  have e:∀c,look objs c=look H.objs c:=λc=>by
   grind
  exact ⟨rh.nx,λn o h=>let ⟨a,b,c⟩:=rh.obj n o h;⟨a,b,c.move (Rn.Le.refl R) rfl rfl λ_=>e _⟩,rh.inj,λm hm=>(e m).trans (rh.fresh m hm)⟩
theorem owns_freeze {ow:Nat->Nat} (h:Owns ow R W) (ns:List Nat):Owns ow R (freezeH W ns):=by
 rcases freezeH_eq (W:=W) (ns:=ns) with q | ⟨rfl,q⟩
 ·rw [q]
  intro n o hn hh
  rw [lk_freeze] at hn
  obtain ⟨p,hp,rfl⟩:=map_some hn
  cases p with
  |box cs fz=>
   have:=h n _ hp trivial
   simp only [freezeO]
   cases hc:ns.contains n<;>exact this
  |set ks v=>exact h n _ hp trivial
  |bag G fz pe=>
   have:=h n _ hp trivial
   simp only [freezeO]
   cases hc:ns.contains n<;>exact this
  |loop D T st pend=>exact h n _ hp trivial
  |frm T Tc=>exact hh.elim
  |row es s fz rt=>
   have:=h n _ hp (by simp only [freezeO] at hh;cases hc:ns.contains n<;>rw [hc] at hh<;>exact hh)
   simp only [freezeO]
   cases hc:ns.contains n<;>exact this
 grind
theorem root_mem {ns:List Nat} {n:Nat} {o:WO} (hn:n∈ns) (h:lk W.objs n=some o):rootO n o∈rootsW W.objs ns:=by
 induction ns with
 |nil=>cases hn
 |cons m ms ih=>
  simp only [rootsW,List.mem_append]
  rcases List.mem_cons.1 hn with rfl | q
  ·exact .inl (by rw [h];cases o<;>simp [rootW,rootO])
  grind
theorem look_of_mem {α:Type}:∀{l:List (Nat×α)} {p:Nat×α},p∈l->look l p.1≠none
 |(m,b)::r,p,h=>by
  simp only [look]
  split
  ·simp
  ·rename_i hne
   rcases List.mem_cons.1 h with rfl | q
   ·exact absurd rfl hne
   ·exact look_of_mem q
theorem upd_sound (rh:RelH R W H) {f:FuncId} {m s rt:Nat} {es:List (List WV)} {post:List WV} {G:List (List WV)->Prop} {xs:List AV} {ob0:List Obl} (hob0:∀ob∈ob0,ob.holds P/\ob.isRound=false) (hcal:∀A,calleeOf (hdA P A) (look Tc) o=some (f,xs,ob0)) (hx:WRs R (.row m::post) xs)
 (hlk:lk W.objs m=some (.row es s false rt)) (hle:leafs es) (hpl:post.all leafB=true) (hup:WUpd P f post s es G) (h:∀es',G es'->newName W m (.row es' s false rt) ⟨[rt],[rt,GL]⟩ K):SteppedG P tab R W H Tc o K:=by
 cases hx with
 |@cons _ _ x ys h1 h2=>
 obtain ⟨hlt,hal,hlen,hrow⟩:=rh.obj m _ hlk
 have hxa:x=R.av m:=h1.row_inv.2.2 hal
 have hs:ShowsR H x es s:=by
  rcases hrow with ⟨a,b⟩ | ⟨g,cap,zs,fz',a,b,c,d,e,_,f'⟩
  ·exact .inl ⟨hxa.trans a,b⟩
  ·have:=f' rfl
   subst this
   exact .inr ⟨_,g,cap,zs,hxa.trans a,b,c,leafs_prss hle d,e⟩
 obtain ⟨es',y,H',hG,hlen',hle',hv2,hnx,hfr,hpres,hkeep,hshow⟩:=hup H x ys rh.fresh hs (leaf_prs hpl h2)
 have old:∀b g o l cp,x=.sl b g o l cp->b=R.ob m/\hasO R m (.row es s false rt):=λb g o l cp e=>by
  rcases hrow with ⟨a,_⟩ | ⟨g',cap,zs,fz',a,_⟩
  ·rw [hxa,a] at e;cases e
  ·refine ⟨?_,λq=>?_⟩
   ·grind
   ·rw [a] at q;cases q
 obtain ⟨b,hb1,hb2⟩:∃b,(∀b' g o l cp,y=.sl b' g o l cp->b'=b)/\refA y=true:=by
  rcases hshow with ⟨rfl,_⟩ | ⟨b,g,cap,zs,rfl,_⟩
  ·exact ⟨0,λ_ _ _ _ _ e=>(by cases e),rfl⟩
  ·exact ⟨b,λ_ _ _ _ _ e=>(by grind),rfl⟩
 have yform:y≠nilA->∃g cap,y=.sl b g 0 g cap:=λhne=>by
  rcases hshow with ⟨e,_⟩ | ⟨b',g,cap,zs,e,_⟩
  ·exact absurd e hne
  grind
 have other:∀n o',n≠m->lk W.objs n=some o'->hasO R n o'->R.ob n<H.next/\notRow x (R.ob n):=λn o' hne hn hh=>by
  refine ⟨rh.ob_lt hn hh,λb' g o l cp e q=>?_⟩
  obtain ⟨e1,e2⟩:=old _ _ _ _ _ e
  exact hne (rh.inj n m _ _ hn hlk hh e2 (by rw [<-q,e1]))
 have a1:(R.add b y).av R.nx=y:=upd_at _ _ _
 have a2:(R.add b y).ob R.nx=b:=upd_at _ _ _
 have a3:∀n,n≠R.nx->(R.add b y).av n=R.av n:=λn hn=>upd_ne _ _ hn
 have a4:∀n,n≠R.nx->(R.add b y).ob n=R.ob n:=λn hn=>upd_ne _ _ hn
 have get:∀n o',lk ((W.nx,WO.row es' s false rt)::rmv W.objs m) n=some o'->(n=R.nx/\o'=.row es' s false rt)\/(n≠R.nx/\n≠m/\lk W.objs n=some o'):=λn o' hn=>by
  rw [lk_cons] at hn
  split at hn
  ·rename_i e
   cases hn
   exact .inl ⟨by rw [<-e,rh.nx],rfl⟩
  ·rename_i e
   rw [lk_rmv] at hn
   split at hn
   ·cases hn
   ·rename_i e2
    exact .inr ⟨λq=>e (by rw [rh.nx,q]),λq=>e2 q.symm,hn⟩
 have relh:RelH (R.add b y) ⟨(W.nx,.row es' s false rt)::rmv W.objs m,W.nx+1⟩ H':=by
  refine ⟨by show W.nx+1=R.nx+1;rw [rh.nx],λn o' hn=>?_,λn1 n2 o1 o2 hn1 hn2 hh1 hh2 e=>?_,hfr⟩
  ·rcases get n o' hn with ⟨rfl,rfl⟩ | ⟨q1,q2,q3⟩
   ·refine ⟨Nat.lt_succ_self _,.inr rfl,hlen',?_⟩
    rcases hshow with ⟨e,e2⟩ | ⟨b',g,cap,zs,e,f1,f2,f3,f4⟩
    ·exact .inl ⟨a1.trans e,e2⟩
    ·have:=hb1 _ _ _ _ _ e
     subst this
     exact .inr ⟨g,cap,zs,0,by rw [a1,a2,e],by grind,f2,f3.wrss,f4,Nat.zero_le _,λ_=>rfl⟩
   ·obtain ⟨p1,p2,p3⟩:=rh.obj n _ q3
    refine ⟨Nat.lt_succ_of_lt p1,.inl p2,p3.move (Rn.add_le _ _) (a4 n q1) (a3 n q1) λhh=>?_⟩
    grind
  ·have newold:∀n o',n≠R.nx->n≠m->lk W.objs n=some o'->hasO R n o'->y≠nilA->b≠R.ob n:=λn o' q1 q2 q3 hh hy e=>by
    obtain ⟨r1,r2⟩:=other n o' q2 q3 hh
    obtain ⟨g,cap,hy⟩:=yform hy
    exact (hkeep _ r1 r2).2 _ _ _ _ _ hy e
   rcases get n1 o1 hn1 with ⟨rfl,rfl⟩ | ⟨q1,q2,q3⟩<;>rcases get n2 o2 hn2 with ⟨rfl,rfl⟩ | ⟨p1,p2,p3⟩
   ·rfl
   ·exfalso
    rw [a2,a4 n2 p1] at e
    exact newold n2 o2 p1 p2 p3 (hh2.move (a3 n2 p1)) (by rw [<-a1];exact hh1) e
   ·exfalso
    rw [a2,a4 n1 q1] at e
    exact newold n1 o1 q1 q2 q3 (hh1.move (a3 n1 q1)) (by rw [<-a1];exact hh2) e.symm
   ·rw [a4 n1 q1,a4 n2 p1] at e
    exact rh.inj n1 n2 _ _ q3 p3 (hh1.move (a3 n1 q1)) (hh2.move (a3 n2 p1)) e
 have hk:=h es' hG
 have hk:K (.row W.nx) ⟨(W.nx,.row es' s false rt)::rmv W.objs m,W.nx+1⟩ ⟨[rt],[rt,GL]⟩:=hk
 refine ⟨_,_,_,hk,.inl (.ret y) H',y,H',R.add b y,λA i hA=>⟨.inl f (x::ys) H (.ret y) H'::ob0,?_,λob hob=>?_⟩,?_,by simp,Rn.add_le _ _,?_,relh,⟨hnx,hpres,λk hk hu=>?_⟩,λow how=>⟨λc=>if c<H.next then ow c else rt,λc hc=>if_pos hc,λn o' hn hh=>?_⟩⟩
 ·have e1:(hdA P A).isInl i f=true:=by simp [hdA,hA]
  have e2:(hdA P A).inl i f (x::ys) H=some (.ret y,H'):=by simp [hdA,hA]
  unfold stepA
  grind
 ·rcases List.mem_cons.1 hob with rfl | hob
  ·exact ⟨hv2,rfl⟩
  grind
 ·simp only [okEff,Bool.and_eq_true,decide_eq_true_eq,List.all_eq_true,Bool.or_eq_true]
  refine ⟨hnx,λp hp=>?_⟩
  rcases hpres p.1 (look_of_mem hp) with q | q
  ·left
   cases hq:look H.objs p.1 with
   |none=>grind
   |some _=>rfl
  omega
 ·refine .row (by rw [rh.nx];exact Nat.lt_succ_self _) hb2 λ_=>?_
  rw [rh.nx]
  grind
 ·have hnr:notRow x k:=λb' g o l cp e=>by
   obtain ⟨e1,e2⟩:=old _ _ _ _ _ e
   rw [e1]
   exact hu m _ hlk e2
  obtain ⟨r1,r2⟩:=hkeep k hk hnr
  refine ⟨r1,λn o' hn hh=>?_⟩
  rcases get n o' hn with ⟨rfl,rfl⟩ | ⟨q1,q2,q3⟩
  ·obtain ⟨g,cap,hy⟩:=yform (by rw [<-a1];exact hh)
   rw [a2]
   exact r2 _ _ _ _ _ hy
  ·rw [a4 n q1]
   exact hu n _ q3 (hh.move (a3 n q1))
 ·rcases get n o' hn with ⟨rfl,rfl⟩ | ⟨q1,q2,q3⟩
  ·rw [a2]
   show (if b<H.next then ow b else rt)=rt
   split
   ·rename_i hlt'
    obtain ⟨g,cap,hy⟩:=yform (by rw [<-a1];exact hh)
    by_cases hnr:notRow x b
    ·exact absurd rfl ((hkeep b hlt' hnr).2 _ _ _ _ _ hy)
    ·unfold notRow at hnr
     simp only [Classical.not_forall,Classical.not_not] at hnr
     obtain ⟨b',g',o2,l',c',e,rfl⟩:=hnr
     obtain ⟨e1,e2⟩:=old _ _ _ _ _ e
     rw [e1]
     exact how m _ hlk e2
   ·rfl
  ·rw [a4 n q1]
   have hh':=hh.move (a3 n q1)
   show (if R.ob n<H.next then ow (R.ob n) else rt)=_
   rw [if_pos (rh.ob_lt q3 hh')]
   exact how n _ q3 hh'
theorem set_sound (rh:RelH R W H) {f:FuncId} {m s rt:Nat} {es:List (List WV)} {post:List WV} {G:List (List WV)->Prop} {xs:List AV} {ob0:List Obl} (hob0:∀ob∈ob0,ob.holds P/\ob.isRound=false) (hcal:∀A,calleeOf (hdA P A) (look Tc) o=some (f,xs,ob0)) (hx:WRs R (.row m::post) xs)
 (hlk:lk W.objs m=some (.row es s false rt)) (hle:leafs es) (hpl:post.all leafB=true) (hup:WSet P f post s es G) (h:∀es',G es'->K undefW ⟨(m,.row es' s false rt)::W.objs,W.nx⟩ ⟨[rt],[rt,GL]⟩):SteppedG P tab R W H Tc o K:=by
 cases hx with
 |@cons _ _ x ys h1 h2=>
 obtain ⟨hlt,hal,hlen,hrow⟩:=rh.obj m _ hlk
 have hxa:x=R.av m:=h1.row_inv.2.2 hal
 have hs:ShowsR H x es s:=by
  rcases hrow with ⟨a,b⟩ | ⟨g,cap,zs,fz',a,b,c,d,e,_,f'⟩
  ·exact .inl ⟨hxa.trans a,b⟩
  ·have:=f' rfl
   subst this
   exact .inr ⟨_,g,cap,zs,hxa.trans a,b,c,leafs_prss hle d,e⟩
 obtain ⟨es',H',hG,hlen',hv2,hnx,hfr,hpres,hkeep,hshow⟩:=hup H x ys rh.fresh hs (leaf_prs hpl h2)
 have old:∀b g o l cp,x=.sl b g o l cp->b=R.ob m/\R.av m≠nilA:=λb g o l cp e=>by
  rcases hrow with ⟨a,_⟩ | ⟨g',cap,zs,fz',a,_⟩
  ·rw [hxa,a] at e;cases e
  ·refine ⟨?_,λq=>?_⟩
   ·grind
   ·rw [a] at q;cases q
 have other:∀n o',n≠m->lk W.objs n=some o'->hasO R n o'->R.ob n<H.next/\notRow x (R.ob n):=λn o' hne hn hh=>by
  refine ⟨rh.ob_lt hn hh,λb' g o l cp e q=>?_⟩
  obtain ⟨e1,e2⟩:=old _ _ _ _ _ e
  exact hne (rh.inj n m _ _ hn hlk hh e2 (by rw [<-q,e1]))
 have get:∀n o',lk ((m,WO.row es' s false rt)::W.objs) n=some o'->(n=m/\o'=.row es' s false rt)\/(n≠m/\lk W.objs n=some o'):=λn o' hn=>by
  grind [lk_cons]
 have back:∀n o',lk ((m,WO.row es' s false rt)::W.objs) n=some o'->hasO R n o'->∃o'',lk W.objs n=some o''/\hasO R n o''/\rootO n o''=rootO n o':=λn o' hn hh=>by
  rcases get n o' hn with ⟨rfl,rfl⟩ | ⟨_,q⟩
  ·exact ⟨_,hlk,hh,rfl⟩
  grind
 have relh:RelH R ⟨(m,.row es' s false rt)::W.objs,W.nx⟩ H':=by
  refine ⟨rh.nx,λn o' hn=>?_,λn1 n2 o1 o2 hn1 hn2 hh1 hh2 e=>?_,hfr⟩
  ·rcases get n o' hn with ⟨rfl,rfl⟩ | ⟨q2,q3⟩
   ·refine ⟨hlt,hal,hlen',?_⟩
    rcases hshow with ⟨e,e2⟩ | ⟨b',g,cap,zs,e,f1,f2,f3,f4⟩
    ·exact .inl ⟨hxa ▸ e,e2⟩
    ·obtain ⟨e1,_⟩:=old _ _ _ _ _ e
     subst e1
     exact .inr ⟨g,cap,zs,0,by rw [<-hxa,e],f1,f2,f3.wrss,f4,Nat.zero_le _,λ_=>rfl⟩
   ·obtain ⟨p1,p2,p3⟩:=rh.obj n _ q3
    refine ⟨p1,p2,p3.move (Rn.Le.refl R) rfl rfl λhh=>?_⟩
    grind
  ·obtain ⟨p1,a1,b1,_⟩:=back n1 o1 hn1 hh1
   obtain ⟨p2,a2,b2,_⟩:=back n2 o2 hn2 hh2
   exact rh.inj n1 n2 _ _ a1 a2 b1 b2 e
 refine ⟨_,_,_,h es' hG,.inl (.ret (.sc (.tuple #[]))) H',.sc (.tuple #[]),H',R,λA i hA=>⟨.inl f (x::ys) H (.ret (.sc (.tuple #[]))) H'::ob0,?_,λob hob=>?_⟩,?_,by simp,Rn.Le.refl R,.pure .sc,relh,⟨hnx,hpres,λk hk hu=>?_⟩,λow how=>⟨ow,λc hc=>rfl,λn o' hn hh=>?_⟩⟩
 ·have e1:(hdA P A).isInl i f=true:=by simp [hdA,hA]
  have e2:(hdA P A).inl i f (x::ys) H=some (.ret (.sc (.tuple #[])),H'):=by simp [hdA,hA]
  unfold stepA
  grind
 ·rcases List.mem_cons.1 hob with rfl | hob
  ·exact ⟨hv2,rfl⟩
  grind
 ·simp only [okEff,Bool.and_eq_true,decide_eq_true_eq,List.all_eq_true,Bool.or_eq_true]
  refine ⟨hnx,λp hp=>?_⟩
  rcases hpres p.1 (look_of_mem hp) with q | q
  ·left
   cases hq:look H.objs p.1 with
   |none=>grind
   |some _=>rfl
  omega
 ·have hnr:notRow x k:=λb' g o l cp e=>by
   obtain ⟨e1,e2⟩:=old _ _ _ _ _ e
   rw [e1]
   exact hu m _ hlk e2
  refine ⟨hkeep k hk hnr,λn o' hn hh=>?_⟩
  obtain ⟨p,a,b,_⟩:=back n o' hn hh
  exact hu n _ a b
 ·obtain ⟨p,a,b,c⟩:=back n o' hn hh
  rw [<-c]
  exact how n _ a b
def FarStep (P:Program) (tab:Tab) (Y:YP) (R:Rn) (W:WH) (H:Heap) (Tc:TL) (o:Oper) (Kf:WKF):Prop:=
 ∃v T' W',Kf v T' W'/\∃a x H' R',(∀A i,A i=a->∃obs,stepA tab (hdA P A) i (look Tc) H o=some ⟨.ret x,.glob H',obs⟩ /\∀ob∈obs,ob.holdsY P/\(Y.out=false->ob.isRound=false))/\okEff H (.glob H')=true/\RelT R' T' Tc/\WR R' v x/\RelH R' W' H'/\Kept R W H R' W' H'
theorem okEff_glob {H H':Heap} (h1:H.next<=H'.next) (h2:∀k,look H'.objs k≠none->look H.objs k≠none\/H.next<=k):okEff H (.glob H')=true:=by
 simp only [okEff,Bool.and_eq_true,decide_eq_true_eq,List.all_eq_true,Bool.or_eq_true]
 refine ⟨h1,λp hp=>?_⟩
 grind [look_of_mem,Option.isSome_iff_ne_none]
def PanS (P:Program) (tab:Tab) (R:Rn) (W:WH) (H:Heap) (Tc:TL) (o:Oper) (Kp:AV->Prop):Prop:=
 ∃v a e' W' e,Kp v/\(∀A i,A i=a->∃obs,stepA tab (hdA P A) i (look Tc) H o=some ⟨.pan v,e',obs⟩ /\∀ob∈obs,ob.holds P/\ob.isRound=false)/\okEff H e'=true/\(∀h,e'≠.glob h)/\RelH R W' (H.apply e')/\EffR R W H R W' e e'
theorem calls_sound (rh:RelH R W H) {f:FuncId} {vs:List WV} {xs:List AV} {ob0:List Obl} (hob0:∀ob∈ob0,ob.holds P/\ob.isRound=false) (hcal:∀A,calleeOf (hdA P A) (look Tc) o=some (f,xs,ob0)) (hx:WRs R vs xs)
 {Kp:AV->Prop} {Y:YP} {Kf:WKF} (rt:RelT R T Tc) (h:callsW P Y T W K Kf Kp f vs):Stepped P tab R W H Tc o K\/SteppedG P tab R W H Tc o K\/FarStep P tab Y R W H Tc o Kf\/PanS P tab R W H Tc o Kp:=by
 unfold callsW at h
 cases hfar:Y.far.contains f with
 |true=>
  rw [hfar] at h
  have h:FarS P f vs T W Kf:=h
  cases h with
  |mk h=>
  obtain ⟨v,T',W',x,H',R',hk,hv2,hv,rt',rh',kp⟩:=h R Tc H xs rt rh hx
  refine .inr (.inr (.inl ⟨v,T',W',hk,.inl (.ret x) H',x,H',R',λA i hA=>⟨.inl f xs H (.ret x) H'::ob0,?_,λob hob=>?_⟩,okEff_glob kp.1 kp.2.1,rt',hv,rh',kp⟩))
  ·have e1:(hdA P A).isInl i f=true:=by simp [hdA,hA]
   have e2:(hdA P A).inl i f xs H=some (.ret x,H'):=by simp [hdA,hA]
   unfold stepA
   grind
  ·rcases List.mem_cons.1 hob with rfl | hob
   ·exact ⟨hv2,λ_=>rfl⟩
   ·obtain ⟨q1,q2⟩:=hob0 ob hob
    refine ⟨?_,λ_=>q2⟩
    cases ob<;>first | exact q1 | cases q2
 |false=>
 rw [hfar] at h
 have h:viewVs W vs _:=h
 obtain ⟨ds,ns,ys,ms,h,hv,hp,hl⟩:=viewVs_ok rh 2 hx h
 have hsome:=hl.some rh
 have hmk:∀c,look (putAll H.objs (marks H ms)) c=if c∈ms then (look H.objs c).map frozenO else look H.objs c:=λc=>look_marks ms H.objs H.objs H.next c hsome
 have hmem:∀p∈marks H ms,p.1∈ms:=by
  have:∀(l:List Nat),∀p∈marks H l,p.1∈l:=by
   intro l
   induction l with
   |nil=>intro p hp;cases hp
   |cons m l ih=>
    intro p hp
    simp only [marks] at hp
    grind
  grind
 have told:∀{ow:Nat->Nat},Owns ow R W->∀m∈ms,m<H.next/\ow m∈rootsW W.objs ns:=λ{ow} how m hm=>by
  obtain ⟨n,hn,o,h1,h2,h3,_⟩:=hl m hm
  have:=rh.ob_lt h1 h2
  rw [h3] at this
  refine ⟨this,?_⟩
  rw [<-h3,how n _ h1 h2]
  exact root_mem hn h1
 have ret:∀{r:WV} {x:AV},PR r x->Valid P f ys (.ret x)->K r (thawW r W ns) ⟨[],rootsW W.objs ns⟩ ->Stepped P tab R W H Tc o K:=λ{r x} hr hvalid hk=>by
  refine ⟨r,_,_,hk,.call (.ret x),x,.loc ms (if plain x then [] else marks H ms) 0,R,?_,?_,Rn.Le.refl R,.pure hr,?_,?_⟩
  ·intro A i hA
   refine ⟨.pure f ys (.ret x)::ob0,?_,λob hob=>?_⟩
   ·have h1:(hdA P A).isInl i f=false:=by simp [hdA,hA]
    have h2:ownA (hdA P A) i H f xs=none:=by simp [ownA,hdA,hA]
    have h3:(hdA P A).call i f ys=some (.ret x):=by simp [hdA,hA]
    unfold stepA
    rw [hcal A]
    simp only [h1,h2,h3,hv,Out.val]
    rfl
   ·rcases List.mem_cons.1 hob with rfl | hob
    ·exact ⟨hvalid,rfl⟩
    grind
  ·simp only [okEff,List.all_eq_true]
   intro p hp
   split at hp
   ·cases hp
   ·have:=hmem p hp
    obtain ⟨q,hq⟩:=hsome _ this
    grind
  ·have:RelH R (thawW r W ns) ⟨(H.apply (.loc ms (if plain x then [] else marks H ms) 0)).objs,H.next⟩:=by
    have frz:RelH R (freezeH W ns) ⟨(H.apply (.loc ms (if plain x then [] else marks H ms) 0)).objs,H.next⟩:=by
     refine relH_freezeH rh hl λc=>?_
     simp only [Heap.apply]
     split
     ·exact .inr rfl
     grind
    unfold thawW
    split
    ·rename_i v
     obtain rfl:=hr.sc_inv
     exact rh
    omega
   exact ⟨this.nx,this.obj,this.inj,λm hm=>this.fresh m (by simp only [Heap.apply] at hm ⊢;omega)⟩
  ·intro ow how
   refine ⟨ow,λ_ _=>rfl,?_,λm hm=>?_,λp hp=>?_⟩
   ·unfold thawW
    grind [owns_freeze]
   ·obtain ⟨q1,q2⟩:=told how m hm
    exact ⟨by simp [Heap.apply];omega,.inr q2⟩
   ·split at hp
    ·cases hp
    ·obtain ⟨q1,q2⟩:=told how _ (hmem p hp)
     exact ⟨by simp [Heap.apply];omega,q2⟩
 have own_:∀(W2:WH) (rs ws:List Nat) {s:Nat} {z:Bool} {G:List (List WV)->Prop},((∃es zs fz,PRss es zs/\G es/\(∀e∈es,e.length=s)/\fz<=zs.length/\(z=false->fz=0)/\ValidOwn P f ys zs s fz)\/(G []/\Valid P f ys (.ret (.sc (.slice none 0 0)))))->W2.nx=W.nx->RelH R W2 ⟨H.objs,H.next⟩ ->(∀es zs,G es->PRss es zs->RelH R W2 ⟨putAll H.objs (if zs.all (·.all plain) then [] else marks H ms),H.next⟩ /\(zs.all (·.all plain)=true\/ws=rootsW W.objs ns))->(∀x∈rootsW W.objs ns,x∈rs\/x∈ws)->
  (∀{ow:Nat->Nat},Owns ow R W->Owns ow R W2)->(∀es,G es->newRow W2 es s z [] λv H' e=>K v H' ⟨rs,e.wr++ws⟩)->Stepped P tab R W H Tc o K:=λW2 rs ws {s z G} hown hnx hR0 hR hrw how2 h=>by
  rcases hown with ⟨es,zs,fz,hes,hG,hlen,hfz,hz0,hvo⟩ | ⟨hG,hvn⟩
  case inr=>
   have hk:K (.row W.nx) ⟨(W.nx,.row [] s z W.nx)::W2.objs,W.nx+1⟩ ⟨rs,[W.nx]++ws⟩:=by
    have this:K (.row W2.nx) ⟨(W2.nx,.row [] s z W2.nx)::W2.objs,W2.nx+1⟩ ⟨rs,[W2.nx]++ws⟩:=h [] hG
    grind
   have rh1:RelH R W2 ⟨(H.apply (.loc ms [] 0)).objs,H.next⟩:=hR0
   have a1:(R.add H.next nilA).av R.nx=nilA:=upd_at _ _ _
   have hno:¬hasO (R.add H.next nilA) R.nx (.row [] s z W.nx):=λh=>h a1
   refine ⟨_,_,_,hk,.call (.ret nilA),nilA,.loc ms [] 0,R.add H.next nilA,?_,rfl,Rn.add_le _ _,?_,?_,?_⟩
   ·intro A i hA
    refine ⟨.pure f ys (.ret nilA)::ob0,?_,λob hob=>?_⟩
    ·have h1:(hdA P A).isInl i f=false:=by simp [hdA,hA]
     have h2:ownA (hdA P A) i H f xs=none:=by simp [ownA,hdA,hA]
     have h3:(hdA P A).call i f ys=some (.ret nilA):=by simp [hdA,hA]
     unfold stepA
     rw [hcal A]
     simp only [h1,h2,h3,hv,Out.val]
     rfl
    ·rcases List.mem_cons.1 hob with rfl | hob
     ·exact ⟨hvn,rfl⟩
     grind
   ·refine .row (by rw [rh.nx];exact Nat.lt_succ_self _) rfl λ_=>?_
    rw [rh.nx]
    grind
   ·have:=relH_new (W':=⟨(W.nx,.row [] s z W.nx)::W2.objs,W.nx+1⟩) (H':=⟨H.objs,H.next⟩) rh1 (c:=H.next) (x:=nilA) (wo:=.row [] s z W.nx) (by rw [rh.nx]) (by show W.nx+1=_;rw [rh.nx]) (λm _=>rfl) rh.fresh (λh=>absurd h hno) ⟨λ_ h=>(by cases h),.inl ⟨a1,rfl⟩⟩
    exact ⟨this.nx,this.obj,this.inj,λm hm=>this.fresh m (by simp only [Heap.apply] at hm ⊢;omega)⟩
   ·intro ow how
    refine ⟨ow,λ_ _=>rfl,λn o' h1 h2=>?_,λm hm=>?_,λp hp=>by cases hp⟩
    ·rw [lk_cons] at h1
     by_cases hn:W.nx=n
     ·rw [if_pos hn] at h1
      cases h1
      subst hn
      rw [rh.nx] at h2
      exact absurd (show hasO (R.add H.next nilA) R.nx (.row [] s z W.nx) from by rw [rh.nx];exact h2) hno
     ·rw [if_neg hn] at h1
      have hne:n≠R.nx:=λe=>hn (by rw [rh.nx,e])
      have h3:hasO R n o':=h2.move (upd_ne _ _ hne)
      have h5:(R.add H.next nilA).ob n=R.ob n:=upd_ne _ _ hne
      rw [h5]
      exact how2 how n o' h1 h3
    ·obtain ⟨q1,q2⟩:=told how m hm
     exact ⟨by simp [Heap.apply];omega,(hrw _ q2).imp id (List.mem_append_right _)⟩
  obtain ⟨us,hus⟩:∃us,us=(if zs.all (·.all plain) then [] else marks H ms):=⟨_,rfl⟩
  have hmem:∀p∈us,p.1∈ms:=λp hp=>by
   grind
  have hlz:=(prss_all2.1 hes).length
  have hk:=h es hG
  have hk:K (.row W.nx) ⟨(W.nx,.row es s z W.nx)::W2.objs,W.nx+1⟩ ⟨rs,[W.nx]++ws⟩:=by
   have this:K (.row W2.nx) ⟨(W2.nx,.row es s z W2.nx)::W2.objs,W2.nx+1⟩ ⟨rs,[W2.nx]++ws⟩:=hk
   grind
  have hl2:∀c,look (H.apply (.loc ms (us++[(H.next,.cells zs s fz)]) 1)).objs c=if H.next=c then some (.cells zs s fz) else look (putAll H.objs (us)) c:=λc=>by
   have:∀(a:List (Nat×AO)) (objs:List (Nat×AO)) (q:Nat×AO),putAll objs (a++[q])=put (putAll objs a) q.1 q.2:=by
    intro a
    induction a with
    |nil=>intro objs q;rfl
    |cons p l ih=>intro objs q;exact ih _ q
   simp only [Heap.apply,this,look_put]
  have rh1:RelH R W2 ⟨putAll H.objs us,H.next⟩:=hus ▸ (hR es zs hG hes).1
  refine ⟨_,_,_,hk,.own zs s fz,.sl H.next zs.length 0 zs.length none,.loc ms (us++[(H.next,.cells zs s fz)]) 1,R.add H.next (.sl H.next zs.length 0 zs.length none),?_,?_,Rn.add_le _ _,?_,?_,?_⟩
  ·intro A i hA
   refine ⟨.own f ys zs s fz::ob0,?_,λob hob=>?_⟩
   ·have h1:(hdA P A).isInl i f=false:=by simp [hdA,hA]
    have h2:ownA (hdA P A) i H f xs=some ⟨.ret (.sl H.next zs.length 0 zs.length none),.loc ms (us++[(H.next,.cells zs s fz)]) 1,[.own f ys zs s fz]⟩:=by
     simp [ownA,hdA,hA,hv,hus]
    unfold stepA
    grind
   ·rcases List.mem_cons.1 hob with rfl | hob
    ·exact ⟨hvo,rfl⟩
    grind
  ·simp only [okEff,List.all_eq_true]
   intro p hp
   rcases List.mem_append.1 hp with q | q
   ·have:=hmem p q
    obtain ⟨r,hr⟩:=hsome _ this
    grind
   grind
  ·refine .row (by rw [rh.nx];exact Nat.lt_succ_self _) rfl λ_=>?_
   rw [rh.nx]
   exact (upd_at _ _ _).symm
  ·have a1:(R.add H.next (.sl H.next zs.length 0 zs.length none)).av R.nx=.sl H.next zs.length 0 zs.length none:=upd_at _ _ _
   have a2:(R.add H.next (.sl H.next zs.length 0 zs.length none)).ob R.nx=H.next:=upd_at _ _ _
   have hh:hasO (R.add H.next (.sl H.next zs.length 0 zs.length none)) R.nx (.row es s z W.nx):=by
    show (R.add _ _).av R.nx≠nilA
    rw [a1]
    intro e;cases e
   refine relH_new rh1 (c:=H.next) (x:=.sl H.next zs.length 0 zs.length none) (wo:=.row es s z W.nx) (by rw [rh.nx]) (by show W.nx+1=_;rw [rh.nx]) (λm hm=>?_) (λm hm=>?_) (λ_=>?_) ⟨hlen,.inr ⟨zs.length,none,zs,fz,by rw [a1,a2],?_,rfl,WRss.mono (Rn.add_le _ _) hes.wrss,.inl rfl,hfz,hz0⟩⟩
   ·grind
   ·simp only [Heap.apply] at hm
    rw [hl2,if_neg (by omega)]
    exact rh1.fresh m (by grind)
   ·exact rh1.fresh _ (Nat.le_refl _)
   grind
  ·intro ow how
   refine ⟨upd ow H.next W.nx,λc hc=>upd_ne _ _ (by omega),λn o' h1 h2=>?_,λm hm=>?_,λp hp=>?_⟩
   ·rw [lk_cons] at h1
    by_cases hn:W.nx=n
    ·rw [if_pos hn] at h1
     cases h1
     subst hn
     have:(R.add H.next (.sl H.next zs.length 0 zs.length none)).ob W.nx=H.next:=by rw [rh.nx];exact upd_at _ _ _
     rw [this]
     exact upd_at _ _ _
    ·rw [if_neg hn] at h1
     have hne:n≠R.nx:=λe=>hn (by rw [rh.nx,e])
     have h3:hasO R n o':=h2.move (upd_ne _ _ hne)
     have h4:=rh1.ob_lt h1 h3
     have h5:(R.add H.next (.sl H.next zs.length 0 zs.length none)).ob n=R.ob n:=upd_ne _ _ hne
     rw [h5,upd_ne _ _ (Nat.ne_of_lt h4)]
     exact how2 how n o' h1 h3
   ·obtain ⟨q1,q2⟩:=told how m hm
    refine ⟨by simp [Heap.apply];omega,?_⟩
    grind [upd_ne,List.mem_append_right]
   ·rcases List.mem_append.1 hp with q | q
    ·obtain ⟨q1,q2⟩:=told how _ (hmem p q)
     refine ⟨by simp [Heap.apply];omega,?_⟩
     grind [upd_ne,List.mem_append_right]
    ·simp only [List.mem_singleton] at q
     subst q
     refine ⟨by simp [Heap.apply];omega,?_⟩
     grind [upd_at]
 rcases h with ⟨G,hval,h⟩ | ⟨s,z,G,hown,h⟩ | ⟨m,post,es,s,rt,G,rfl,hlk,hle,hpl,hup,h⟩ | ⟨m,post,es,s,rt,G,rfl,hlk,hle,hpl,hup,h⟩ | h | ⟨G,Gp,hval,hk,hkp⟩ | ⟨s,G,hown,h,hl0⟩
 ·obtain ⟨r,x,hr,hG,hvalid⟩:=hval ys hp
  grind
 ·exact .inl (own_ (freezeH W ns) [] (rootsW W.objs ns) (hown ys hp) freezeH_nx (relH_freezeH rh hl λc=>.inr rfl) (λes zs _ _=>by
   refine ⟨?_,.inr rfl⟩
   split
   ·exact relH_freezeH rh hl λc=>.inr rfl
   grind [relH_freezeH]) (λx hx=>.inr hx) (λhow=>owns_freeze how ns) h)
 ·exact .inr (.inl (upd_sound rh hob0 hcal hx hlk hle hpl hup h))
 ·exact .inr (.inl (set_sound rh hob0 hcal hx hlk hle hpl hup h))
 ·right
  left
  obtain ⟨h⟩:=h
  obtain ⟨v,W',e,x,H',R',hk,hgl,hv2,hle,hwr,hrel,hkept,how⟩:=h R H xs rh hx
  refine ⟨v,W',e,hk,.inl (.ret x) H',x,H',R',λA i hA=>⟨.inl f xs H (.ret x) H'::ob0,?_,λob hob=>?_⟩,?_,hgl,hle,hwr,hrel,hkept,how⟩
  ·have e1:(hdA P A).isInl i f=true:=by simp [hdA,hA]
   have e2:(hdA P A).inl i f xs H=some (.ret x,H'):=by simp [hdA,hA]
   unfold stepA
   grind
  ·rcases List.mem_cons.1 hob with rfl | hob
   ·exact ⟨hv2,rfl⟩
   grind
  ·simp only [okEff,Bool.and_eq_true,decide_eq_true_eq,List.all_eq_true,Bool.or_eq_true]
   refine ⟨hkept.1,λp hp=>?_⟩
   rcases hkept.2.1 p.1 (look_of_mem hp) with q | q
   ·left
    cases hq:look H.objs p.1 with
    |none=>grind
    |some _=>rfl
   omega
 ·rcases hval ys hp with ⟨r,x,hr,hG,hvalid⟩ | ⟨x,hG,hvalid⟩
  ·grind
  ·refine .inr (.inr (.inr ⟨x,.call (.pan x),.loc ms (if plain x then [] else marks H ms) 0,freezeH W ns,⟨[],rootsW W.objs ns⟩,hkp x hG,λA i hA=>⟨.pure f ys (.pan x)::ob0,?_,λob hob=>?_⟩,?_,(λh e=>by cases e),?_,?_⟩))
   ·have h1:(hdA P A).isInl i f=false:=by simp [hdA,hA]
    have h2:ownA (hdA P A) i H f xs=none:=by simp [ownA,hdA,hA]
    have h3:(hdA P A).call i f ys=some (.pan x):=by simp [hdA,hA]
    unfold stepA
    rw [hcal A]
    simp only [h1,h2,h3,hv,Out.val]
    rfl
   ·rcases List.mem_cons.1 hob with rfl | hob
    ·exact ⟨hvalid,rfl⟩
    grind
   ·simp only [okEff,List.all_eq_true]
    intro p hp
    split at hp
    ·cases hp
    ·have:=hmem p hp
     obtain ⟨q,hq⟩:=hsome _ this
     grind
   ·have frz:RelH R (freezeH W ns) ⟨(H.apply (.loc ms (if plain x then [] else marks H ms) 0)).objs,H.next⟩:=by
     refine relH_freezeH rh hl λc=>?_
     simp only [Heap.apply]
     split
     ·exact .inr rfl
     grind
    exact ⟨frz.nx,frz.obj,frz.inj,λm hm=>frz.fresh m (by simp only [Heap.apply] at hm ⊢;omega)⟩
   ·intro ow how
    refine ⟨ow,λ_ _=>rfl,owns_freeze how ns,λm hm=>?_,λp hp=>?_⟩
    ·obtain ⟨q1,q2⟩:=told how m hm
     exact ⟨by simp [Heap.apply];omega,.inr q2⟩
    ·split at hp
     ·cases hp
     ·obtain ⟨q1,q2⟩:=told how _ (hmem p hp)
      exact ⟨by simp [Heap.apply];omega,q2⟩
 ·rcases hown ys hp with ⟨es,zs,h1,h2,h3,h4⟩ | ⟨hG,x,hr,hvalid⟩
  ·exact .inl (own_ W (rootsW W.objs ns) [] (z:=false) (.inl ⟨es,zs,0,h1,h2,h3,Nat.zero_le _,λ_=>rfl,h4⟩) rfl rh (λes zs hG hz=>⟨by rw [if_pos (plain_of_scss hz (h es hG).1)];exact rh,.inl (plain_of_scss hz (h es hG).1)⟩) (λx hx=>.inl hx) (λhow=>how) λes hG=>(h es hG).2)
  ·have hpl:plain x=true:=by
    cases hr with
    |emp=>rfl
    |lst h=>cases h;rfl
   refine .inl ⟨.lst [],_,_,hl0 hG,.call (.ret x),x,.loc ms [] 0,R,?_,rfl,Rn.Le.refl R,.pure hr,?_,?_⟩
   ·intro A i hA
    refine ⟨.pure f ys (.ret x)::ob0,?_,λob hob=>?_⟩
    ·have h1:(hdA P A).isInl i f=false:=by simp [hdA,hA]
     have h2:ownA (hdA P A) i H f xs=none:=by simp [ownA,hdA,hA]
     have h3:(hdA P A).call i f ys=some (.ret x):=by simp [hdA,hA]
     unfold stepA
     rw [hcal A]
     simp only [h1,h2,h3,hv,Out.val,hpl]
     rfl
    ·rcases List.mem_cons.1 hob with rfl | hob
     ·exact ⟨hvalid,rfl⟩
     grind
   ·exact ⟨rh.nx,rh.obj,rh.inj,λm hm=>rh.fresh m (by simp only [Heap.apply] at hm ⊢;omega)⟩
   ·intro ow how
    refine ⟨ow,λ_ _=>rfl,how,λm hm=>?_,λp hp=>by cases hp⟩
    obtain ⟨q1,q2⟩:=told how m hm
    exact ⟨by simp [Heap.apply];omega,.inl q2⟩
end Go.Abs
end
section
namespace Go.Abs
variable {P:Program} {tab:Tab} {R:Rn} {T:WT} {W:WH} {H:Heap} {Tc:TL} {o:Oper} {K:WK}
theorem mapO_ev (rt:RelT R T Tc):∀{l:List Operand} {vs:List WV},mapO (evW T) l=some vs->∃xs,mapOpt (aev (look Tc)) l=some xs/\WRs R vs xs
 |[],_,h=>by cases h;exact ⟨[],rfl,.nil⟩
 |p::l,vs,h=>by
  simp only [mapO] at h
  split at h
  ·cases h
  ·rename_i a ha
   split at h
   ·cases h
   ·rename_i bs hbs
    cases h
    obtain ⟨y,hy,hr⟩:=ev_ok rt ha
    obtain ⟨ys,hys,hrs⟩:=mapO_ev rt hbs
    exact ⟨y::ys,by simp [mapOpt,hy,hys],.cons hr hrs⟩
theorem holdsY_near {l:List Obl} {b:Bool} (h:∀ob∈l,ob.holds P/\ob.isRound=false):∀ob∈l,ob.holdsY P/\(b=false->ob.isRound=false):=λob hob=>by
 obtain ⟨q1,q2⟩:=h ob hob
 refine ⟨?_,λ_=>q2⟩
 cases ob<;>first | exact q1 | cases q2
theorem panic_sound {Kp:AV->Prop} (rt:RelT R T Tc) (rh:RelH R W H) {x:Operand} (ho:o.op=.panic x) (h:panicW T Kp x):PanS P tab R W H Tc o Kp:=by
 unfold panicW at h
 split at h
 ·rename_i t cs hx
  obtain ⟨y,hy,hr⟩:=ev_ok rt hx
  obtain ⟨z,rfl,hz⟩:=hr.ifc_inv
  obtain ⟨xs,rfl,hxs⟩:=hz.agg_inv
  cases hb:cs.all leafB with
  |false=>grind
  |true=>
   rw [hb] at h
   refine ⟨_,.none,.loc [] [] 0,W,⟨[],[]⟩,h xs (leaf_prs hb hxs),λA i _=>⟨[],?_,λ_ h=>(by cases h)⟩,rfl,λ_ h=>(by cases h),relH_apply rh,effR_reads rh λ_ h=>(by cases h)⟩
   simp only [stepA,calleeOf,yieldOf,panicOf,ho,hy]
 grind
theorem opW_sound {Y:YP} {Kf:WKF} {Kp:AV->Prop} (rt:RelT R T Tc) (rh:RelH R W H) (h:opW P tab Y T W o K Kf Kp):Stepped P tab R W H Tc o K\/SteppedG P tab R W H Tc o K\/FarStep P tab Y R W H Tc o Kf\/PanS P tab R W H Tc o Kp:=by
 unfold opW at h
 split at h
 ·grind [mv_sound]
 ·rename_i ho;exact .inl (mv_sound rt rh (.inr ho) h)
 ·grind [pick_sound]
 ·grind [alloc_sound]
 ·grind [box_sound]
 ·grind [build_sound]
 ·grind [rows_sound]
 ·grind [load_sound]
 ·grind [store_sound]
 ·grind [nil_sound]
 ·grind [bin_sound]
 ·grind [un_sound]
 ·grind [conv_sound]
 ·grind [fieldAddr_sound]
 ·grind [field_sound]
 ·grind [indexAddr_sound]
 ·grind [index_sound]
 ·grind [slice_sound]
 ·grind [extract_sound]
 ·rename_i c ho
  unfold callW at h
  split at h
  ·rename_i b hb
   unfold builtinW at h
   grind [len_sound,app_sound,clear_sound,copy_sound,ext_sound]
  ·rename_i f hc
   unfold argsW at h
   split at h
   ·rename_i vs hvs
    obtain ⟨xs,hxs,hx⟩:=mapO_ev rt hvs
    exact calls_sound rh (ob0:=[]) (λ_ h=>by cases h) (λA=>by simp only [calleeOf,ho,hc,aev,hxs];simp) hx rt h
   grind
  ·rename_i t hc
   unfold valW at h
   split at h
   ·rename_i f a b vs hv hvs
    obtain ⟨xs,hxs,hx⟩:=mapO_ev rt hvs
    obtain ⟨y,hy,hr⟩:=ev_ok rt hv
    obtain ⟨as,bs,rfl,ha,hb⟩:=hr.fn_inv
    exact calls_sound rh (ob0:=[]) (λ_ h=>by cases h) (λA=>by simp only [calleeOf,ho,hc,hy,hxs]) (wrs_all2.2 (((wrs_all2.1 ha).append (wrs_all2.1 hx)).append (wrs_all2.1 hb))) rt h
   ·rename_i f a b vs hv hvs
    obtain ⟨xs,hxs,hx⟩:=mapO_ev rt hvs
    obtain ⟨y,hy,hr⟩:=ev_ok rt hv
    obtain ⟨as,bs,rfl,ha,hb,_⟩:=hr.fnp_inv
    exact calls_sound rh (ob0:=[]) (λ_ h=>by cases h) (λA=>by simp only [calleeOf,ho,hc,hy,hxs]) (wrs_all2.2 (((wrs_all2.1 ha.wrs).append (wrs_all2.1 hx)).append (wrs_all2.1 hb.wrs))) rt h
   ·rename_i n vs hv hvs
    obtain ⟨xs,hxs,hx⟩:=mapO_ev rt hvs
    obtain ⟨y,hy,hr⟩:=ev_ok rt hv
    cases hout:Y.out with
    |false=>grind
    |true=>
    rw [hout] at h
    have h:YieldS P n vs T W Kf:=h
    cases h with
    |mk h=>
    obtain ⟨hal,v,T',W',x,H',R',hk,hv2,hv,rt',rh',kp⟩:=h R Tc H xs rt rh hx
    obtain rfl:=hr.yld_inv.2 hal
    refine .inr (.inr (.inl ⟨v,T',W',hk,.inl (.ret x) H',x,H',R',λA i hA=>⟨[.round (R.ob n) xs H (.ret x) H'],?_,λob hob=>?_⟩,okEff_glob kp.1 kp.2.1,rt',hv,rh',kp⟩))
    ·have e1:∀i,A i=.inl (.ret x) H'->(hdA P A).round i (R.ob n) xs H=some (.ret x,H'):=λi hA=>by simp [hdA,hA]
     have e2:calleeOf (hdA P A) (look Tc) o=none:=by simp only [calleeOf,ho,hc,hy,hxs]
     have e3:yieldOf (look Tc) o=some (R.ob n,xs):=by simp only [yieldOf,ho,hc,hy,hxs]
     unfold stepA
     grind
    ·simp only [List.mem_singleton] at hob
     subst hob
     exact ⟨hv2,λe=>by grind⟩
   grind
  ·rename_i r m hc
   unfold invW at h
   split at h
   ·rename_i t v vs hv hvs
    obtain ⟨f,hm,h⟩:=h
    obtain ⟨xs,hxs,hx⟩:=mapO_ev rt hvs
    obtain ⟨y,hy,hr⟩:=ev_ok rt hv
    obtain ⟨z,rfl,hz⟩:=hr.ifc_inv
    exact calls_sound rh (ob0:=[.meth t m f]) (λob h=>by simp only [List.mem_singleton] at h;subst h;exact ⟨hm,rfl⟩) (λA=>by simp only [calleeOf,ho,hc,hy,hxs,hdA,methP_eq hm]) (.cons hz hx) rt h
   grind
  grind
 ·rename_i ho
  unfold ifaceW at h
  split at h
  ·rename_i d v hd hv
   obtain ⟨y,hy,hr⟩:=ev_ok rt hv
   have hp:isPlain o:=plain_op (λc hc=>by grind) (λx hc=>by grind)
   split at h
   ·grind
   ·grind
   ·rename_i n1 n2
    refine .inl (step_quiet rh hp h ?_ (.ifc hr))
    simp only [aop,ho,hd,hy]
    try rfl
  grind
 ·rename_i f first caps ho
  unfold makeW at h
  split at h
  ·rename_i g a b hf hc
   obtain ⟨as,has,ha⟩:=mapO_ev rt hf
   obtain ⟨bs,hbs,hb⟩:=mapO_ev rt hc
   exact .inl (step_quiet rh (plain_op (λc hc=>by grind) (λx hc=>by grind)) h (by simp [aop,ho,has,hbs,isY]) (.fn ha hb))
  grind
 ·grind [makeSlice_sound]
 ·grind [makeMap_sound]
 ·grind [lookup_sound]
 ·grind [updMap_sound]
 ·grind [entry_sound]
 ·grind [entryStore_sound]
 ·grind [panic_sound]
 grind
theorem stepA_congrA {A A':Nat->Ans} {i:Nat} (h:A i=A' i) (T:Tm) (H:Heap) (o:Oper):stepA tab (hdA P A) i T H o=stepA tab (hdA P A') i T H o:=by
 have h1:(hdA P A).call i=(hdA P A').call i:=by funext f a;simp only [hdA,h]
 have h2:(hdA P A).own i=(hdA P A').own i:=by funext f a;simp only [hdA,h]
 have h3:(hdA P A).isOwn i=(hdA P A').isOwn i:=by funext f;simp only [hdA,h]
 have h4:calleeOf (hdA P A) T o=calleeOf (hdA P A') T o:=rfl
 have h6:(hdA P A).inl i=(hdA P A').inl i:=by funext f a b;simp only [hdA,h]
 have h7:(hdA P A).isInl i=(hdA P A').isInl i:=by funext f;simp only [hdA,h]
 have h8:(hdA P A).round i=(hdA P A').round i:=by funext f a b;simp only [hdA,h]
 have h5:∀f args,ownA (hdA P A) i H f args=ownA (hdA P A') i H f args:=λf args=>by unfold ownA;rw [h2,h3]
 unfold stepA
 simp_all
theorem runOps_congrA {A A':Nat->Ans} {ops:Array Oper}:∀(l:List Oper) (i:Nat) (T:TL) (H:Heap),(∀j,i<=j->A j=A' j)->runOps tab (hdA P A) ops l i T H=runOps tab (hdA P A') ops l i T H
 |[],_,_,_,_=>rfl
 |o::r,i,T,H,h=>by
  have ih:=λT H=>runOps_congrA (ops:=ops) r (i+1) T H λj hj=>h j (by omega)
  simp only [runOps,ih,stepA_congrA (tab:=tab) (h i (Nat.le_refl _))]
def ToldW (ow:Nat->Nat) (e:WE):Eff->Prop
 |.loc rd ups _=>(∀m∈rd,ow m∈e.rd\/ow m∈e.wr)/\∀p∈ups,ow p.1∈e.wr
 |.glob _=>GL∈e.wr
structure Ran (P:Program) (tab:Tab) (Y:YP) (far:Bool) (ops:Array Oper) (R:Rn) (W:WH) (H:Heap) (Tc:TL) (l:List Oper) (i:Nat) (rs:List WE) (Kf:WT->WH->List WE->Prop) (A:Nat->Ans) (T':WT) (W':WH) (es:List WE) (R':Rn) (Tc':TL) (H':Heap) (recs:List Rec):Prop where
 run:runOps tab (hdA P A) ops l i Tc H=some (.done Tc' H',recs)
 fin:Kf T' W' (es.reverse++rs)
 rt:RelT R' T' Tc'
 rh:RelH R' W' H'
 obs:∀rc∈recs,∀ob∈rc.ob,ob.holdsY P/\(Y.out=false->ob.isRound=false)
 len:es.length=l.length/\recs.length=l.length
 ret:∀rc∈recs,∃v,rc.out=.ret v
 kept:Kept R W H R' W' H'
 told:far=false->∀ow,Owns ow R W->∃ow',(∀c,c<H.next->ow' c=ow c)/\Owns ow' R' W'/\∀(j:Nat) (e:WE) (rc:Rec),es[j]?=some e->recs[j]?=some rc->ToldW ow' e rc.e
theorem relT_cons {v:WV} {x:AV} {d:Nat} (rt:RelT R T Tc) (hx:look Tc d=some x) (hv:WR R v x):RelT R ((d,v)::T) Tc:=λt w h=>by
 rw [lk_cons] at h
 split at h
 ·grind
 ·exact rt t w h
theorem relT_put {v:WV} {x:AV} {d:Nat} (rt:RelT R T Tc) (hv:WR R v x):RelT R ((d,v)::T) (put Tc d x):=λt w h=>by
 rw [lk_cons] at h
 rw [look_put]
 split at h
 ·grind
 ·rename_i e;rw [if_neg e];exact rt t w h
theorem putW_ok {v:WV} {x:AV} {d:Option Tmp} {X:WT->Prop} (rt:RelT R T Tc) (hv:WR R v x) (h:putW d T v X):∃T',X T'/\RelT R T' (putD Tc d x):=by
 unfold putW at h
 cases d with
 |none=>exact ⟨T,h,rt⟩
 |some d=>exact ⟨_,h,relT_put rt hv⟩
theorem want_ok {ops:Array Oper} {Y N:WT->Prop} (rt:RelT R T Tc) (h:wantW ops T o Y N):(wantedA ops (look Tc) o=some true/\∃T',RelT R T' Tc/\Y T')\/(wantedA ops (look Tc) o=some false/\∃T',RelT R T' Tc/\N T'):=by
 unfold wantW at h
 unfold wantedA
 split at h
 ·grind
 ·rename_i j want hg
  rw [hg]
  simp only []
  split at h
  ·grind
  ·rename_i d hd
   rw [hd]
   simp only []
   split at h
   ·rename_i b hb
    obtain ⟨x,hx,hr⟩:=rt d _ hb
    obtain rfl:=hr.sc_inv
    rw [hx]
    cases b with
    |true=>
     grind [bothT,relT_cons]
    |false=>
     grind [bothF,relT_cons]
   ·rename_i hb
    obtain ⟨x,hx,hr⟩:=rt d _ hb
    obtain rfl:=hr.sc_inv
    grind
   grind
theorem lk_mem {α:Type}:∀{l:List (Nat×α)} {n:Nat} {a:α},lk l n=some a->(n,a)∈l
 |[],_,_,h=>by cases h
 |(m,b)::r,n,a,h=>by
  rw [lk_cons] at h
  split at h
  ·rename_i e;subst e;cases h;simp
  ·exact List.mem_cons_of_mem _ (lk_mem h)
theorem look_putAll_ne:∀(ups:List (Nat×AO)) (objs:List (Nat×AO)) (k:Nat),(∀p∈ups,p.1≠k)->look (putAll objs ups) k=look objs k
 |[],_,_,_=>rfl
 |p::l,objs,k,h=>by
  simp only [putAll]
  rw [look_putAll_ne l _ k (λq hq=>h q (by simp [hq])),look_put,if_neg (h p (by simp))]
theorem apply_kept {e:Eff} (hok:okEff H e=true) (k:Nat):H.next<=(H.apply e).next/\(look (H.apply e).objs k≠none->look H.objs k≠none\/H.next<=k)/\((∀rd ups nw,e=.loc rd ups nw->∀p∈ups,p.1≠k)->(∀h,e≠.glob h)->look (H.apply e).objs k=look H.objs k):=by
 cases e with
 |loc rd ups nw=>
  refine ⟨by simp [Heap.apply];omega,λh=>?_,λh _=>look_putAll_ne ups _ k (h rd ups nw rfl)⟩
  by_cases hx:∃p∈ups,p.1=k
  ·obtain ⟨p,hp,rfl⟩:=hx
   have:=(List.all_eq_true.1 hok) p hp
   grind
  ·rw [show look (H.apply (.loc rd ups nw)).objs k=look H.objs k from look_putAll_ne ups _ k λp hp e=>hx ⟨p,hp,e⟩] at h
   grind
 |glob h'=>
  simp only [okEff,Bool.and_eq_true,decide_eq_true_eq,List.all_eq_true] at hok
  refine ⟨hok.1,λh=>?_,λ_ h=>absurd rfl (h h')⟩
  obtain ⟨z,hz⟩:=look_in (show look h'.objs k≠none from h)
  grind
theorem owns_exists (rh:RelH R W H):∃ow,Owns ow R W:=by
 have:∀c,∃r,∀n o,lk W.objs n=some o->hasO R n o->R.ob n=c->rootO n o=r:=λc=>by
  by_cases h:∃n o,lk W.objs n=some o/\hasO R n o/\R.ob n=c
  ·obtain ⟨n,o,h1,h2,h3⟩:=h
   refine ⟨rootO n o,λm p q1 q2 q3=>?_⟩
   have e:=rh.inj m n p o q1 h1 q2 h2 (by rw [q3,h3])
   grind
  simp_all
 exact ⟨λc=>(this c).choose,λn o h1 h2=>((this _).choose_spec n o h1 h2 rfl).symm⟩
theorem step_kept {R1:Rn} {W1:WH} {e:WE} {e':Eff} (rh:RelH R W H) (hok:okEff H e'=true) (hl:∀h,e'≠.glob h) (heff:EffR R W H R1 W1 e e'):Kept R W H R1 W1 (H.apply e'):=by
 refine ⟨(apply_kept hok 0).1,λk=>(apply_kept hok k).2.1,λk hk hu=>?_⟩
 obtain ⟨ow0,how0⟩:=owns_exists rh
 obtain ⟨S,hS1,hS2⟩:∃S,S∉e.wr/\∀n o,lk W1.objs n=some o->rootO n o≠S:=by
  have h2:∃b,∀w∈e.wr,w<b:=by
   induction e.wr with
   |nil=>simp_all
   |cons w l ih=>
    obtain ⟨b,hb⟩:=ih
    exact ⟨max b (w+1),λv hv=>by
     grind⟩
  have h3:∃b,∀p∈W1.objs,rootO p.1 p.2<b:=by
   induction W1.objs with
   |nil=>simp_all
   |cons p l ih=>
    obtain ⟨b,hb⟩:=ih
    exact ⟨max b (rootO p.1 p.2+1),λv hv=>by
     grind⟩
  obtain ⟨a,ha⟩:=h2
  obtain ⟨b,hb⟩:=h3
  exact ⟨max a b,λh=>by grind,λn o h e=>by have:=hb (n,o) (lk_mem h);grind⟩
 have how:Owns (upd ow0 k S) R W:=λn o h1 h2=>by rw [upd_ne _ _ (hu n o h1 h2)];exact how0 n o h1 h2
 obtain ⟨ow',h1,h2,h3⟩:=heff _ how
 have hkS:ow' k=S:=by grind [upd_at]
 refine ⟨(apply_kept hok k).2.2 (λrd ups nw he p hp e1=>?_) hl,λn o hn hh e1=>hS2 n o hn (by rw [<-h2 n o hn hh,e1,hkS])⟩
 rw [he] at h3
 have:=(h3.2 p hp).2
 grind
def SteppedX (P:Program) (tab:Tab) (R:Rn) (W:WH) (H:Heap) (Tc:TL) (o:Oper) (K:WK):Prop:=
 ∃v W' e,K v W' e/\∃a x e' R',StepOK P tab Tc H o a x e'/\okEff H e'=true/\R.Le R'/\WR R' v x/\RelH R' W' (H.apply e')/\Kept R W H R' W' (H.apply e')/\
  ∀ow,Owns ow R W->∃ow',(∀c,c<H.next->ow' c=ow c)/\Owns ow' R' W'/\((∀h,e'≠.glob h)->Told ow' e (H.apply e').next e')/\∀h,e'=.glob h->GL∈e.wr
theorem opX_sound {Y:YP} {Kf:WKF} {Kp:AV->Prop} (rt:RelT R T Tc) (rh:RelH R W H) (h:opW P tab Y T W o K Kf Kp):SteppedX P tab R W H Tc o K\/FarStep P tab Y R W H Tc o Kf\/PanS P tab R W H Tc o Kp:=by
 rcases opW_sound rt rh h with h | h | h
 rotate_right
 ·grind
 all_goals left
 ·obtain ⟨v,W1,e,hk,a,x,e',R1,h1,h2,h3,h4,h5,h6⟩:=h
  have hl:∀h,e'≠.glob h:=λh e0=>by
   subst e0
   obtain ⟨ow,how⟩:=owns_exists rh
   obtain ⟨_,_,_,q⟩:=h6 ow how
   exact q
  refine ⟨v,W1,e,hk,a,x,e',R1,h1,h2,h3,h4,h5,step_kept rh h2 hl h6,λow how=>?_⟩
  obtain ⟨ow',q1,q2,q3⟩:=h6 ow how
  grind
 ·obtain ⟨v,W1,e,hk,a,x,H',R1,h1,h2,h3,h4,h5,h6,h7,h8⟩:=h
  refine ⟨v,W1,e,hk,a,x,.glob H',R1,h1,h2,h4,h5,h6,h7,λow how=>?_⟩
  grind
theorem toldW_of {ow ow':Nat->Nat} {e:WE} {n:Nat} {e':Eff} (h:(∀h,e'≠.glob h)->Told ow e n e') (hg:∀h,e'=.glob h->GL∈e.wr) (hq:∀c,c<n->ow' c=ow c):ToldW ow' e e':=by
 cases e' with
 |glob h'=>exact hg h' rfl
 |loc rd ups nw=>
  have h:=h λ_ q=>by cases q
  refine ⟨λm hm=>?_,λp hp=>?_⟩
  ·obtain ⟨a,b⟩:=h.1 m hm
   grind
  ·obtain ⟨a,b⟩:=h.2 p hp
   grind
structure PanR (P:Program) (tab:Tab) (Y:YP) (far:Bool) (ops:Array Oper) (R:Rn) (W:WH) (H:Heap) (Tc:TL) (l:List Oper) (i:Nat) (rs:List WE) (Kp:List WE->AV->Prop) (A:Nat->Ans) (v:AV) (es:List WE) (R':Rn) (W':WH) (H':Heap) (recs:List Rec):Prop where
 run:runOps tab (hdA P A) ops l i Tc H=some (.pan v H',recs)
 fin:Kp (es.reverse++rs) v
 obs:∀rc∈recs,∀ob∈rc.ob,ob.holdsY P/\(Y.out=false->ob.isRound=false)
 len:recs.length=es.length+1/\recs.length<=l.length
 ret:(∃v,(recs.getD es.length undone).out=.pan v)/\∀j rc,recs[j]?=some rc->j<es.length->∃v,rc.out=.ret v
 rh:RelH R' W' H'
 kept:Kept R W H R' W' H'
 told:far=false->∀ow,Owns ow R W->∃ow',(∀c,c<H.next->ow' c=ow c)/\Owns ow' R' W'/\∀(j:Nat) (e:WE) (rc:Rec),es[j]?=some e->recs[j]?=some rc->ToldW ow' e rc.e
theorem opsW_step {Y:YP} {far:Bool} {ops:Array Oper} {Kf:WT->WH->List WE->Prop} {Kp:List WE->AV->Prop} {r:List Oper} {i:Nat} {rs:List WE} {R1:Rn} {W1:WH} {Tc1:TL} {a:Ans} {x:AV} {e:WE} {e':Eff}
 (hrun:∀A:Nat->Ans,A i=a->∃obs,(∀rr recs,runOps tab (hdA P A) ops r (i+1) Tc1 (H.apply e')=some (rr,recs)->runOps tab (hdA P A) ops (o::r) i Tc H=some (rr,⟨.ret x,e',obs⟩::recs))/\∀ob∈obs,ob.holdsY P/\(Y.out=false->ob.isRound=false))
 (kp:Kept R W H R1 W1 (H.apply e')) (ht:far=false->∀ow,Owns ow R W->∃ow1,(∀c,c<H.next->ow1 c=ow c)/\Owns ow1 R1 W1/\∀ow2,(∀c,c<(H.apply e').next->ow2 c=ow1 c)->ToldW ow2 e e')
 (h:(∃A T' W' es R' Tc' H' recs,Ran P tab Y far ops R1 W1 (H.apply e') Tc1 r (i+1) (e::rs) Kf A T' W' es R' Tc' H' recs)\/∃A v es R' W' H' recs,PanR P tab Y far ops R1 W1 (H.apply e') Tc1 r (i+1) (e::rs) Kp A v es R' W' H' recs) :
 (∃A T' W' es R' Tc' H' recs,Ran P tab Y far ops R W H Tc (o::r) i rs Kf A T' W' es R' Tc' H' recs)\/∃A v es R' W' H' recs,PanR P tab Y far ops R W H Tc (o::r) i rs Kp A v es R' W' H' recs:=by
 have told:∀{es:List WE} {recs:List Rec} {obs:List Obl} {R':Rn} {W':WH},(far=false->∀ow,Owns ow R1 W1->∃ow',(∀c,c<(H.apply e').next->ow' c=ow c)/\Owns ow' R' W'/\∀(j:Nat) (e:WE) (rc:Rec),es[j]?=some e->recs[j]?=some rc->ToldW ow' e rc.e)->
  far=false->∀ow,Owns ow R W->∃ow',(∀c,c<H.next->ow' c=ow c)/\Owns ow' R' W'/\∀(j:Nat) (e0:WE) (rc:Rec),(e::es)[j]?=some e0->((⟨.ret x,e',obs⟩:Rec)::recs)[j]?=some rc->ToldW ow' e0 rc.e:=λhq hf ow how=>by
  obtain ⟨ow1,h1,h2,h3⟩:=ht hf ow how
  obtain ⟨ow2,h4,hO,h5⟩:=hq hf ow1 h2
  have hmono:H.next<=(H.apply e').next:=kp.1
  grind
 rcases h with ⟨A,T',W',es,R',Tc',H',recs,q⟩ | ⟨A,v0,es,R',W',H',recs,q⟩
 ·obtain ⟨obs,hs,hobs⟩:=hrun (λj=>if j=i then a else A j) (by simp)
  refine .inl ⟨λj=>if j=i then a else A j,T',W',e::es,R',Tc',H',⟨.ret x,e',obs⟩::recs,hs _ _ ?_,?_,q.rt,q.rh,?_,?_,?_,kp.trans q.kept,told q.told⟩
  ·rw [runOps_congrA r (i+1) _ _ (A':=A) (λj hj=>by grind),q.run]
  ·simpa using q.fin
  ·intro rc hrc
   rcases List.mem_cons.1 hrc with rfl | hrc
   ·exact hobs
   ·exact q.obs rc hrc
  ·exact ⟨by simp [q.len.1],by simp [q.len.2]⟩
  ·intro rc hrc
   rcases List.mem_cons.1 hrc with rfl | hrc
   ·grind
   ·exact q.ret rc hrc
 ·obtain ⟨obs,hs,hobs⟩:=hrun (λj=>if j=i then a else A j) (by simp)
  refine .inr ⟨λj=>if j=i then a else A j,v0,e::es,R',W',H',⟨.ret x,e',obs⟩::recs,hs _ _ ?_,by simpa using q.fin,λrc hrc=>?_,⟨by simp [q.len.1],by have:=q.len.2;grind⟩,⟨?_,λj rc h1 h2=>?_⟩,q.rh,kp.trans q.kept,told q.told⟩
  ·rw [runOps_congrA r (i+1) _ _ (A':=A) (λj hj=>by grind),q.run]
  ·rcases List.mem_cons.1 hrc with rfl | hrc
   ·exact hobs
   ·exact q.obs rc hrc
  ·obtain ⟨v,hv⟩:=q.ret.1
   grind
  ·cases j with
   |zero=>grind
   |succ j=>exact q.ret.2 j rc (by grind) (by grind)
theorem opsW_sound {Y:YP} {far:Bool} {ops:Array Oper} {Kf:WT->WH->List WE->Prop} {Kp:List WE->AV->Prop}:∀(l:List Oper) (i:Nat) (R:Rn) (T:WT) (W:WH) (Tc:TL) (H:Heap) (rs:List WE),RelT R T Tc->RelH R W H->opsW P tab Y ops far Kf Kp l T W rs->
 (∃A T' W' es R' Tc' H' recs,Ran P tab Y far ops R W H Tc l i rs Kf A T' W' es R' Tc' H' recs)\/∃A v es R' W' H' recs,PanR P tab Y far ops R W H Tc l i rs Kp A v es R' W' H' recs
 |[],i,R,T,W,Tc,H,rs,rt,rh,h=>.inl ⟨λ_=>.none,T,W,[],R,Tc,H,[],⟨rfl,h,rt,rh,λ_ h=>(by cases h),⟨rfl,rfl⟩,λ_ h=>(by cases h),Kept.refl ..,λ_ ow how=>⟨ow,λ_ _=>rfl,how,λj e rc h=>by simp at h⟩⟩⟩
 |o::r,i,R,T,W,Tc,H,rs,rt,rh,h=>by
  have h:wantW ops T o (λT=>opW P tab Y T W o (λv H' e=>putW o.dst T v λT=>opsW P tab Y ops far Kf Kp r T H' (e::rs)) (farK far o.dst (opsW P tab Y ops far Kf Kp r) rs) (Kp rs)) (λT=>putW o.dst T undefW λT=>opsW P tab Y ops far Kf Kp r T W (⟨[],[]⟩::rs)):=h
  rcases want_ok rt h with ⟨hw,T1,rt1,h⟩ | ⟨hw,T1,rt1,h⟩
  ·rcases opX_sound rt1 rh h with ⟨v,W1,e,h,a,x,e',R1,hstep,hok,hle,hv,rh1,kp,heff⟩ | ⟨v,T',W1,h,a,x,H1,R1,hstep,hok,rt',hv,rh1,kp⟩ | ⟨v,a,e',W1,e,hkp,hstep,hok,hl,rh1,heff⟩
   ·obtain ⟨T2,h,rt2⟩:=putW_ok (rt1.mono hle) hv h
    refine opsW_step (a:=a) (x:=x) (e:=e) (Tc1:=putD Tc o.dst x) (λA hA=>?_) kp (λ_ ow how=>?_) (opsW_sound r (i+1) R1 T2 W1 (putD Tc o.dst x) (H.apply e') (e::rs) rt2 rh1 h)
    ·obtain ⟨obs,hs,hobs⟩:=hstep A i hA
     exact ⟨obs,λrr recs hr=>by simp only [runOps,hw,hs,hok,if_true,hr],holdsY_near hobs⟩
    grind [toldW_of]
   ·cases far with
    |false=>exact h.elim
    |true=>
    have h:putW o.dst T' v (λT=>opsW P tab Y ops true Kf Kp r T W1 (⟨[],[GL]⟩::rs)):=h
    obtain ⟨T2,h,rt2⟩:=putW_ok rt' hv h
    refine opsW_step (a:=a) (x:=x) (e:=⟨[],[GL]⟩) (e':=.glob H1) (Tc1:=putD Tc o.dst x) (λA hA=>?_) kp (λhf=>(by cases hf)) (opsW_sound r (i+1) R1 T2 W1 (putD Tc o.dst x) H1 (⟨[],[GL]⟩::rs) rt2 rh1 h)
    obtain ⟨obs,hs,hobs⟩:=hstep A i hA
    exact ⟨obs,λrr recs hr=>by simp only [runOps,hw,hs,hok,if_true,hr],hobs⟩
   ·obtain ⟨obs,hs,hobs⟩:=hstep (λ_=>a) i rfl
    exact .inr ⟨λ_=>a,v,[],R,W1,H.apply e',[⟨.pan v,e',obs⟩],by simp only [runOps,hw,hs,hok,if_true],hkp,(λrc hrc=>by simp only [List.mem_singleton] at hrc;subst hrc;exact holdsY_near hobs),⟨rfl,by simp⟩,⟨⟨v,rfl⟩,λj rc h1 h2=>absurd h2 (Nat.not_lt_zero j)⟩,rh1,step_kept rh hok hl heff,λ_ ow how=>by
     obtain ⟨ow',q1,q2,_⟩:=heff ow how
     grind⟩
  ·obtain ⟨T2,h,rt2⟩:=putW_ok rt1 (.pure .sc:WR R undefW undefA) h
   have rh1:RelH R W (H.apply undone.e):=relH_apply (rd:=[]) (k:=0) rh
   have kp0:Kept R W H R W (H.apply undone.e):=⟨Nat.le_add_right _ _,λ_ h=>.inl h,λ_ _ h=>⟨rfl,h⟩⟩
   refine opsW_step (a:=.none) (x:=undefA) (e:=⟨[],[]⟩) (e':=undone.e) (Tc1:=putD Tc o.dst undefA) (λA hA=>⟨[],λrr recs hr=>?_,λ_ h=>(by cases h)⟩) kp0 (λ_ ow how=>⟨ow,λ_ _=>rfl,how,λow2 _=>⟨λ_ h=>(by cases h),λ_ h=>(by cases h)⟩⟩) (opsW_sound r (i+1) R T2 W (putD Tc o.dst undefA) (H.apply undone.e) (⟨[],[]⟩::rs) rt2 rh1 h)
   simp only [runOps,hw,hr]
   rfl
theorem apart_ok {ow:Nat->Nat} {a b:WE} {e f:Eff} (ha:ToldW ow a e) (hb:ToldW ow b f) (h:apartW a b=true):effApart e f=true:=by
 simp only [apartW,Bool.and_eq_true,List.all_eq_true,Bool.not_eq_true'] at h
 obtain ⟨⟨⟨g1,g2⟩,h1⟩,h2⟩:=h
 cases e with
 |glob=>exact absurd (show GL∈a.wr from ha) (by grind)
 |loc r1 u1 n1=>
  cases f with
  |glob=>exact absurd (show GL∈b.wr from hb) (by grind)
  |loc r2 u2 n2=>
   have no:∀{n:Nat} {l:List Nat},l.contains n=false->n∉l:=λ{n l} h hm=>by grind
   simp only [effApart,Bool.and_eq_true,List.all_eq_true,Bool.not_eq_true']
   refine ⟨λp hp=>⟨?_,λq hq=>?_⟩,λq hq=>?_⟩
   ·cases hc:r2.contains p.1 with
    |false=>rfl
    |true=>
     exfalso
     have q1:=ha.2 p hp
     have q2:=hb.1 p.1 (by grind)
     grind
   ·simp only [bne_iff_ne]
    intro e
    have q1:=ha.2 p hp
    have q2:=hb.2 q hq
    grind
   ·cases hc:r1.contains q.1 with
    |false=>rfl
    |true=>
     exfalso
     have q1:=hb.2 q hq
     rcases ha.1 q.1 (by grind) with q2 | q2
     ·grind
     grind
theorem draw_ok {ops:Array Oper} {l:List Oper} {es:List WE} {recs:List Rec} {ow:Nat->Nat} (hl:es.length=l.length/\recs.length=l.length) (ht:∀(j:Nat) (e:WE) (rc:Rec),es[j]?=some e->recs[j]?=some rc->GL∈e.wr\/((∃v,rc.out=.ret v)/\ToldW ow e rc.e))
 (h:drawW ops l es=true):drawOk H ops l recs=true:=by
 simp only [drawW,Bool.and_eq_true,List.all_eq_true,List.mem_range] at h
 simp only [drawOk,Bool.and_eq_true,List.all_eq_true,List.mem_range]
 refine ⟨by grind,λj hj=>?_⟩
 have hj':=h.2 j hj
 obtain ⟨o,ho⟩:∃o,l[j]?=some o:=⟨_,List.getElem?_eq_getElem hj⟩
 rw [ho] at hj' ⊢
 simp only [Bool.and_eq_true,List.all_eq_true,List.mem_range] at hj' ⊢
 refine ⟨hj'.1,λi hi=>?_⟩
 have hij:=hj'.2 i hi
 simp only [Bool.or_eq_true] at hij ⊢
 rcases hij with q | q
 ·grind
 ·refine .inr ?_
  obtain ⟨p,hp⟩:∃p,l[i]?=some p:=⟨_,List.getElem?_eq_getElem (by omega)⟩
  rw [hp] at q ⊢
  simp only [Bool.and_eq_true] at q ⊢
  have rec_at:∀k,k<l.length->∃e rc,es[k]?=some e/\recs[k]?=some rc/\es.getD k ⟨[],[]⟩=e/\recs.getD k undone=rc:=λk hk=>by
   grind
  obtain ⟨e1,rc1,a1,a2,a3,a4⟩:=rec_at i (by omega)
  obtain ⟨e2,rc2,b1,b2,b3,b4⟩:=rec_at j hj
  rw [a3,b3] at q
  rw [a4,b4]
  have hg:GL∉e1.wr/\GL∉e2.wr:=by
   have h:=q.2
   simp only [apartW,Bool.and_eq_true,Bool.not_eq_true'] at h
   grind
  have t1:=(ht i e1 rc1 a1 a2).resolve_left hg.1
  have t2:=(ht j e2 rc2 b1 b2).resolve_left hg.2
  refine ⟨⟨q.1,?_⟩,?_⟩
  ·unfold effApart2
   grind [apart_ok]
  grind
end Go.Abs
end
