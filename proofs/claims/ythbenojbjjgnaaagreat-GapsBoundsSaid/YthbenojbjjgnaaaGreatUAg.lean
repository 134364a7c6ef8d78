/- Of GapsBounds: lemmas. -/
import Derived.Test.YthbenojbjjgnaaaGreatUAf
set_option linter.all false
namespace Go.Abs
variable {P:Program} {tab:Tab} {R:Rn} {T:WT} {W:WH} {H:Heap} {Tc:TL} {o:Oper} {K:WK}
theorem give_some {e:WE} {v:Option WV} (h:giveW W K e v):∃x,v=some x∧K x W e:=by
 unfold giveW at h
 split at h
 ·exact ⟨_,rfl,h⟩
 ·exact h.elim
theorem RelH.box_obj (rh:RelH R W H) {n:Nat} {cs:List WV} {fz:Bool} (h:lk W.objs n=some (.box cs fz)):R.al n∧∃xs fz',look H.objs (R.ob n)=some (.cells [xs] cs.length fz')∧WRs R cs xs∧fz'≤1∧(fz=false→fz'=0):=(rh.obj n _ h).2
theorem RelH.row_obj (rh:RelH R W H) {n:Nat} {es:List (List WV)} {s rt:Nat} {fz:Bool} (h:lk W.objs n=some (.row es s fz rt)):R.al n∧(∀e∈es,e.length=s)∧RowR R H n es s fz:=
 let ⟨_,h2,h3⟩:=rh.obj n _ h;⟨h2,h3.1,h3.2⟩
theorem take_drop_ok {cs:List WV} {xs:List AV} (h:WRs R cs xs) (n k:Nat):WRs R (takeW n (dropW k cs)) ((xs.drop k).take n):=by
 rw [takeW_eq,dropW_eq]
 exact wrs_all2.2 (((wrs_all2.1 h).drop k).take n)
theorem flat_ok {es:List (List WV)} {xs:List (List AV)} (h:WRss R es xs):WRs R es.flatten xs.flatten:=by
 induction h with
 |nil=>exact .nil
 |cons h _ ih=>
  rw [List.flatten_cons,List.flatten_cons]
  exact wrs_all2.2 ((wrs_all2.1 h).append (wrs_all2.1 ih))
theorem load_sound (rt:RelT R T Tc) (rh:RelH R W H) {t:TypeId} {a:Operand} (ho:o.op=.load t a) (h:loadW tab T W K t a):Stepped P tab R W H Tc o K:=by
 have hp:isPlain o:=plain_op (fun c hc=>by rw [ho] at hc;cases hc) (fun x hc=>by rw [ho] at hc;cases hc)
 unfold loadW at h
 split at h
 ·rename_i d cs hd ha
  obtain ⟨v,hv,h⟩:=give_some h
  obtain ⟨y,hy,hr⟩:=ev_ok rt ha
  obtain ⟨xs,rfl,hx⟩:=hr.ipt_inv
  rw [takeW_eq] at hv
  have hxt:WRs R (cs.take d.size) (xs.take d.size):=wrs_all2.2 ((wrs_all2.1 hx.wrs).take _)
  obtain ⟨x,hx1,hx2⟩:=ofCells_ok hxt hv
  have hle:d.size≤xs.length:=by
   have:(xs.take d.size).length=d.size:=by
    unfold ofCells at hx1
    split at hx1
    ·assumption
    ·cases hx1
   rw [List.length_take] at this
   omega
  refine step_quiet rh hp h ?_ hx2
  simp only [aop,ho,hd,hy,loadA,readAt]
  rw [if_pos hle]
  simp only [hx1]
  rfl
 ·rename_i d n fo hd ha
  unfold loadBox at h
  split at h
  ·rename_i cs fz hcs
   obtain ⟨hb,h⟩:=beq_of_bif h
   obtain ⟨v,hv,h⟩:=give_some h
   obtain ⟨y,hy,hr⟩:=ev_ok rt ha
   obtain ⟨hal,xs,fz',hlook,hx,_⟩:=rh.box_obj hcs
   obtain rfl:=hr.box_inv.2.2 hal
   obtain ⟨x,hx1,hx2⟩:=ofCells_ok (take_drop_ok hx d.size fo) hv
   have hle:fo+d.size≤cs.length:=Nat.le_of_ble_eq_true hb
   refine step_read (rd:=[R.ob n]) rh hp h ?_ hx2 (fun m hm=>?_)
   ·simp only [aop,ho,hd,hy,loadA,readAt,hlook,List.length_cons,List.length_nil,Nat.zero_add,if_true,List.getElem?_cons_zero]
    rw [if_pos hle]
    simp only [hx1]
   ·simp only [List.mem_singleton] at hm
    subst hm
    exact ⟨n,_,hcs,trivial,rfl,.inl (by simp [rootO])⟩
  ·exact h.elim
 ·rename_i d n i fo hd ha
  cases hA:isArr d with
  |true=>
   rw [hA] at h
   simp only [cond_true] at h
   unfold loadArr at h
   split at h
   ·rename_i es s fz rt' hes
    obtain ⟨hb,hB⟩:=beq_of_bif h
    clear h
    have h:=hB
    clear hB
    simp only [Bool.and_eq_true] at hb
    obtain ⟨⟨⟨b1,b2⟩,b3⟩,b4⟩:=hb
    obtain rfl:=Nat.eq_of_beq_eq_true b1
    obtain rfl:=Nat.eq_of_beq_eq_true b2
    have b3:d.size=es.length*s:=Nat.eq_of_beq_eq_true b3
    have b4:s<d.size:=Nat.le_of_ble_eq_true b4
    obtain ⟨v,hv,h⟩:=give_some h
    obtain ⟨y,hy,hr⟩:=ev_ok rt ha
    obtain ⟨hal,hlen,hrow⟩:=rh.row_obj hes
    obtain ⟨g,cap,hav,rfl⟩:=hr.elt_inv.2.2 hal
    rcases hrow with ⟨h1,_⟩ | ⟨g',cap',xs,fz',h1,hlook,hg,hx,_⟩
    ·rw [hav] at h1;cases h1
    rw [hav] at h1
    cases h1
    have hgl:g=es.length:=by rw [All2.length hx,hg]
    obtain ⟨x,hx1,hx2⟩:=ofCells_ok (flat_ok hx) hv
    have hfl:xs.flatten.length=d.size:=by
     unfold ofCells at hx1
     split at hx1
     ·assumption
     ·cases hx1
    have hne:0<xs.length:=by
     rcases Nat.eq_zero_or_pos xs.length with q | q
     ·rw [hg,hgl] at q;rw [b3,q,Nat.zero_mul] at b4;omega
     ·exact q
    refine step_read (rd:=[R.ob n]) rh hp h ?_ hx2 (fun m hm=>?_)
    ·simp only [aop,ho,hd,hy,loadA,readAt,hlook]
     rw [if_pos hg,List.getElem?_eq_getElem hne]
     simp only []
     rw [if_neg (by omega),if_pos ⟨trivial,by rw [hgl,←b3];omega⟩]
     simp only [List.drop_zero]
     rw [←hfl,List.take_length]
     simp only [hx1]
    ·simp only [List.mem_singleton] at hm
     subst hm
     exact ⟨n,_,hes,(show R.av n≠nilA by rw [hav];intro e;cases e),rfl,.inl (by simp [rootO])⟩
   ·exact h.elim
  |false=>
  rw [hA] at h
  simp only [cond_false] at h
  unfold loadElt at h
  split at h
  ·rename_i es s fz rt' hes
   obtain ⟨cs,hcs,h⟩:=h
   obtain ⟨hb,h⟩:=beq_of_bif h
   obtain ⟨v,hv,h⟩:=give_some h
   obtain ⟨y,hy,hr⟩:=ev_ok rt ha
   obtain ⟨hal,hlen,hrow⟩:=rh.row_obj hes
   obtain ⟨g,cap,hav,rfl⟩:=hr.elt_inv.2.2 hal
   rcases hrow with ⟨h1,_⟩ | ⟨g',cap',xs,fz',h1,hlook,hg,hx,_⟩
   ·rw [hav] at h1;cases h1
   rw [hav] at h1
   cases h1
   obtain ⟨x0,hx0,hx0r⟩:=All2.get hx hcs
   obtain ⟨x,hx1,hx2⟩:=ofCells_ok (take_drop_ok hx0r d.size fo) hv
   have hle:fo+d.size≤s:=Nat.le_of_ble_eq_true hb
   refine step_read (rd:=[R.ob n]) rh hp h ?_ hx2 (fun m hm=>?_)
   ·simp only [aop,ho,hd,hy,loadA,readAt,hlook]
    rw [if_pos hg,hx0]
    simp only []
    rw [if_pos hle]
    simp only [hx1]
   ·simp only [List.mem_singleton] at hm
    subst hm
    exact ⟨n,_,hes,(show R.av n≠nilA by rw [hav];intro e;cases e),rfl,.inl (by simp [rootO])⟩
  ·exact h.elim
 ·exact h.elim
theorem relH_set (rh:RelH R W H) {n:Nat} {wo wo':WO} {H':Heap} (hn:lk W.objs n=some wo) (hh:hasO R n wo) (hH:∀m,m≠R.ob n→look H'.objs m=look H.objs m) (hf:∀m,H'.next≤m→look H'.objs m=none)
 (hk:hasO R n wo' ) (ho:ObjR R H' n wo'):RelH R ⟨(n,wo')::W.objs,W.nx⟩ H':=by
 have old:∀{m:Nat} {o:WO},lk ((n,wo')::W.objs) m=some o→m≠n→lk W.objs m=some o:=fun {m o} h hne=>by
  rw [lk_cons,if_neg (fun e=>hne e.symm)] at h
  exact h
 have at_:∀{m:Nat} {o:WO},lk ((n,wo')::W.objs) m=some o→hasO R m o→∃p,lk W.objs m=some p∧hasO R m p:=fun {m o} h q=>by
  by_cases hne:m=n
  ·subst hne;exact ⟨wo,hn,hh⟩
  ·exact ⟨o,old h hne,q⟩
 refine ⟨rh.nx,fun m o h=>?_,fun m k o p h1 h2 h3 h4 e=>?_,hf⟩
 ·by_cases hne:m=n
  ·subst hne
   rw [lk_cons,if_pos rfl] at h
   cases h
   obtain ⟨q1,q2,_⟩:=rh.obj m _ hn
   exact ⟨q1,q2,ho⟩
  ·have h':=old h hne
   obtain ⟨q1,q2,q3⟩:=rh.obj m o h'
   exact ⟨q1,q2,q3.move (Rn.Le.refl R) rfl rfl fun q=>hH _ fun e=>hne (rh.inj m n _ _ h' hn q hh e)⟩
 ·obtain ⟨o',a1,a2⟩:=at_ h1 h3
  obtain ⟨p',b1,b2⟩:=at_ h2 h4
  exact rh.inj m k _ _ a1 b1 a2 b2 e
theorem step_set {wo wo':WO} {ao:AO} {n:Nat} {e:WE} {v:WV} {x:AV} (rh:RelH R W H) (hp:isPlain o) (hn:lk W.objs n=some wo) (hh:hasO R n wo) (hk:K v ⟨(n,wo')::W.objs,W.nx⟩ e)
 (h:aop tab (look Tc) H H.next o=some ⟨x,.loc [R.ob n] [(R.ob n,ao)] 0⟩) (hv:WR R v x) (hr:rootO n wo∈e.wr) (hrr:rootO n wo'=rootO n wo) (hh':hasO R n wo')
 (ho:ObjR R (H.apply (.loc [R.ob n] [(R.ob n,ao)] 0)) n wo'):Stepped P tab R W H Tc o K:=by
 have hlt:=rh.ob_lt hn hh
 have hl:∀m,look (H.apply (.loc [R.ob n] [(R.ob n,ao)] 0)).objs m=if R.ob n=m then some ao else look H.objs m:=fun m=>look_put _ _ _ _
 refine ⟨v,_,e,hk,.none,x,_,R,stepOK_aop hp h,?_,Rn.Le.refl R,hv,?_,?_⟩
 ·obtain ⟨p,hp⟩:=rh.ob_look hn hh
  simp [okEff,hp]
 ·refine relH_set rh hn hh (fun m hm=>by rw [hl,if_neg (fun e=>hm e.symm)]) (fun m hm=>?_) hh' ho
  simp only [Heap.apply] at hm
  rw [hl,if_neg (by omega)]
  exact rh.fresh m (by omega)
 ·intro ow how
  have howr:=how n wo hn hh
  refine ⟨ow,fun _ _=>rfl,fun m o' h1 h2=>?_,fun m hm=>?_,fun p hp=>?_⟩
  ·rw [lk_cons] at h1
   by_cases hne:n=m
   ·subst hne
    rw [if_pos rfl] at h1
    cases h1
    rw [howr,hrr]
   ·rw [if_neg hne] at h1
    exact how m o' h1 h2
  ·simp only [List.mem_singleton] at hm
   subst hm
   exact ⟨by simp [Heap.apply];omega,.inr (by rw [howr];exact hr)⟩
  ·simp only [List.mem_singleton] at hp
   subst hp
   exact ⟨by simp [Heap.apply];omega,by rw [howr];exact hr⟩
theorem store_sound (rt:RelT R T Tc) (rh:RelH R W H) {t:TypeId} {a x:Operand} (ho:o.op=.store t a x) (h:storeW tab T W K t a x):Stepped P tab R W H Tc o K:=by
 have hp:isPlain o:=plain_op (fun c hc=>by rw [ho] at hc;cases hc) (fun x hc=>by rw [ho] at hc;cases hc)
 unfold storeW at h
 split at h
 ·rename_i d n fo new hd ha hnew
  unfold storeBox at h
  split at h
  ·rename_i cs hcs
   obtain ⟨hb,h⟩:=beq_of_bif h
   rw [forceC_eq] at h
   have h:K undefW ⟨(n,.box (spliceW cs fo new) false)::W.objs,W.nx⟩ ⟨[],[n]⟩:=h
   simp only [Bool.and_eq_true] at hb
   obtain ⟨⟨b1,b2⟩,b3⟩:=hb
   obtain ⟨v,hv,hc⟩:=bind_some hnew
   obtain ⟨z,hz,hzr⟩:=ev_ok rt hv
   obtain ⟨ys,hys,hyr⟩:=cells_ok hzr hc
   obtain ⟨y,hy,hr⟩:=ev_ok rt ha
   obtain ⟨hal,xs,fz',hlook,hx,_,hz0⟩:=rh.box_obj hcs
   obtain rfl:=hz0 rfl
   obtain rfl:=hr.box_inv.2.2 hal
   have hln:new.length=d.size:=Nat.eq_of_beq_eq_true b1
   have c1:ys.length=d.size:=by rw [←(wrs_all2.1 hyr).length];exact hln
   have c2:fo+d.size≤cs.length:=Nat.le_of_ble_eq_true b2
   have c3:=storables_of b3 hyr
   refine step_set (wo':=.box (spliceW cs fo new) false) (ao:=.cells [splice xs fo ys] cs.length 0) rh hp hcs trivial h ?_ (.pure .sc) (by simp [rootO]) rfl trivial ?_
   ·simp only [aop,ho,hd,hy,hz,storeA,hys,hlook,List.length_cons,List.length_nil,Nat.zero_add]
    rw [if_pos ⟨trivial,c1,c3,Nat.zero_le _⟩]
    simp only [List.getElem?_cons_zero]
    rw [if_pos c2]
    rfl
   ·have hlen:(spliceW cs fo new).length=cs.length:=by
     rw [spliceW_eq]
     simp only [List.length_append,List.length_take,List.length_drop]
     omega
    refine ⟨splice xs fo ys,0,?_,splice_ok hx fo hyr,Nat.zero_le _,fun _=>rfl⟩
    rw [hlen]
    exact (look_put _ _ _ _).trans (by rw [if_pos rfl])
  ·exact h.elim
 ·rename_i d n i fo new hd ha hnew
  cases hA:isArr d with
  |true=>
   rw [hA] at h
   simp only [cond_true] at h
   unfold storeArr at h
   split at h
   ·rename_i es s rt' hes
    obtain ⟨hb,hB⟩:=beq_of_bif h
    clear h
    have h:=hB
    clear hB
    rw [forceC_eq] at h
    simp only [Bool.and_eq_true] at hb
    obtain ⟨⟨⟨⟨⟨⟨b1,b2⟩,b3⟩,b4⟩,b5⟩,b6⟩,b7⟩:=hb
    obtain rfl:=Nat.eq_of_beq_eq_true b1
    obtain rfl:=Nat.eq_of_beq_eq_true b2
    have b4:d.size=es.length*s:=Nat.eq_of_beq_eq_true b4
    have b5:s<d.size:=Nat.le_of_ble_eq_true b5
    have b6:0<s:=Nat.le_of_ble_eq_true b6
    obtain ⟨v,hv,hc⟩:=bind_some hnew
    obtain ⟨z,hz,hzr⟩:=ev_ok rt hv
    obtain ⟨ys,hys,hyr⟩:=cells_ok hzr hc
    obtain ⟨y,hy,hr⟩:=ev_ok rt ha
    obtain ⟨hal,hlen,hrow⟩:=rh.row_obj hes
    obtain ⟨g,cap,hav,rfl⟩:=hr.elt_inv.2.2 hal
    rcases hrow with ⟨h1,_⟩ | ⟨g',cap',xs,fz',h1,hlook,hg,hx,hcap,hfg,hfz⟩
    ·rw [hav] at h1;cases h1
    have h1':=h1
    rw [hav] at h1'
    cases h1'
    obtain rfl:=hfz rfl
    have hgl:g=es.length:=by rw [All2.length hx,hg]
    have hln:new.length=d.size:=Nat.eq_of_beq_eq_true b3
    have c1:ys.length=d.size:=by rw [←(wrs_all2.1 hyr).length];exact hln
    have c3:=storables_of b7 hyr
    have hne:0<xs.length:=by
     rcases Nat.eq_zero_or_pos xs.length with q | q
     ·rw [hg,hgl] at q;rw [b4,q,Nat.zero_mul] at b5;omega
     ·exact q
    have hdv:d.size / s=es.length:=by rw [b4,Nat.mul_div_cancel _ b6]
    obtain ⟨l1,l2⟩:=chunks_lens (cs:=new) (s:=s) (k:=es.length) (by rw [hln,b4])
    have hw:=chunks_ok hyr s es.length
    have hh:hasO R n (.row es s false rt'):=by intro e;rw [hav] at e;cases e
    refine step_set (wo':=.row (chunksW s es.length new) s false rt') (ao:=.cells (chunks s es.length ys) s 0) rh hp hes hh h ?_ (.pure .sc) (by simp [rootO]) rfl hh ?_
    ·simp only [aop,ho,hd,hy,hz,storeA,hys,hlook]
     rw [if_pos ⟨hg,c1,c3,Nat.zero_le _⟩,List.getElem?_eq_getElem hne]
     simp only []
     rw [if_neg (by omega),if_pos ⟨trivial,by omega,by rw [b4,Nat.mul_mod_left],by rw [hdv,hgl];omega⟩,hdv]
     have e1:xs.drop (0+es.length)=[]:=List.drop_eq_nil_of_le (by rw [hg,hgl];omega)
     rw [e1,List.take_zero,List.nil_append,List.append_nil]
     rfl
    ·refine ⟨l1,.inr ⟨g,cap,chunks s es.length ys,0,hav,(look_put _ _ _ _).trans (by rw [if_pos rfl]),by rw [←All2.length hw,l2,hgl],hw,hcap,Nat.zero_le _,fun _=>rfl⟩⟩
   ·exact h.elim
  |false=>
  rw [hA] at h
  simp only [cond_false] at h
  unfold storeElt at h
  split at h
  ·rename_i es s rt' hes
   obtain ⟨cs,hcs,h⟩:=h
   obtain ⟨hb,h⟩:=beq_of_bif h
   simp only [Bool.and_eq_true] at hb
   obtain ⟨⟨b1,b2⟩,b3⟩:=hb
   obtain ⟨zs,rfl,h⟩:=h
   obtain ⟨v,hv,hc⟩:=bind_some hnew
   obtain ⟨z,hz,hzr⟩:=ev_ok rt hv
   obtain ⟨ys,hys,hyr⟩:=cells_ok hzr hc
   obtain ⟨y,hy,hr⟩:=ev_ok rt ha
   obtain ⟨hal,hlen,hrow⟩:=rh.row_obj hes
   obtain ⟨g,cap,hav,rfl⟩:=hr.elt_inv.2.2 hal
   rcases hrow with ⟨h1,_⟩ | ⟨g',cap',xs,fz',h1,hlook,hg,hx,hcap,hfg,hfz⟩
   ·rw [hav] at h1;cases h1
   have h1':=h1
   rw [hav] at h1'
   cases h1'
   obtain rfl:=hfz rfl
   obtain ⟨x0,hx0,hx0r⟩:=All2.get hx hcs
   have hln:new.length=d.size:=Nat.eq_of_beq_eq_true b1
   have c1:ys.length=d.size:=by rw [←(wrs_all2.1 hyr).length];exact hln
   have c2:fo+d.size≤s:=Nat.le_of_ble_eq_true b2
   have c3:=storables_of b3 hyr
   have hcl:cs.length=s:=hlen cs (List.mem_of_getElem? hcs)
   have hh:hasO R n (.row es s false rt'):=by intro e;rw [hav] at e;cases e
   refine step_set (wo':=.row (es.set i (spliceW cs fo new)) s false rt') (ao:=.cells (xs.set i (splice x0 fo ys)) s 0) rh hp hes hh h ?_ (.pure .sc) (by simp [rootO]) rfl hh ?_
   ·simp only [aop,ho,hd,hy,hz,storeA,hys,hlook]
    rw [if_pos ⟨hg,c1,c3,Nat.zero_le _⟩,hx0]
    simp only []
    rw [if_pos c2]
    rfl
   ·refine ⟨fun e he=>?_,.inr ⟨g,cap,xs.set i (splice x0 fo ys),0,hav,(look_put _ _ _ _).trans (by rw [if_pos rfl]),by simpa using hg,All2.set hx i (splice_ok hx0r fo hyr),hcap,Nat.zero_le _,fun _=>rfl⟩⟩
    rcases List.mem_or_eq_of_mem_set he with q | rfl
    ·exact hlen e q
    ·rw [spliceW_eq]
     simp only [List.length_append,List.length_take,List.length_drop]
     omega
  ·exact h.elim
 ·exact h.elim
theorem alive_al (rh:RelH R W H) {n:Nat} (h:aliveB W n=true):R.al n:=by
 unfold aliveB at h
 split at h
 ·rename_i o ho;exact (rh.obj n o ho).2.1
 ·cases h
theorem nil_sound (rt:RelT R T Tc) (rh:RelH R W H) {x:Operand} (ho:o.op=.nilCheck x) (h:nilW' T W K x):Stepped P tab R W H Tc o K:=by
 have hp:isPlain o:=plain_op (fun c hc=>by rw [ho] at hc;cases hc) (fun x hc=>by rw [ho] at hc;cases hc)
 unfold nilW' at h
 split at h
 ·rename_i cs hx
  obtain ⟨y,hy,hr⟩:=ev_ok rt hx
  have hr':=hr
  obtain ⟨xs,rfl,_⟩:=hr.ipt_inv
  exact step_quiet rh hp h (by simp [aop,ho,hy]) hr'
 ·rename_i n fo hx
  obtain ⟨hb,h⟩:=beq_of_bif h
  obtain ⟨y,hy,hr⟩:=ev_ok rt hx
  have hr':=hr
  obtain rfl:=hr.box_inv.2.2 (alive_al rh hb)
  exact step_quiet rh hp h (by simp [aop,ho,hy]) hr'
 ·rename_i n i fo hx
  obtain ⟨hb,h⟩:=beq_of_bif h
  obtain ⟨y,hy,hr⟩:=ev_ok rt hx
  have hr':=hr
  obtain ⟨g,cap,_,rfl⟩:=hr.elt_inv.2.2 (alive_al rh hb)
  exact step_quiet rh hp h (by simp [aop,ho,hy]) hr'
 ·exact h.elim
theorem binOpA_int (op:BinOp) (t:TypeId) (c:Bool) (k j:IntKind) (a b:Int):binOpA tab op t c (.sc (.int k a)) (.sc (.int j b))=match pureVal (binOp op t (.int k a) (.int j b)) with | some v=>quiet (.sc v) | none=>none:=by
 cases op<;>rfl
theorem binOpA_add (t:TypeId) (c:Bool) (a b:ByteArray):binOpA tab .add t c (.sc (.string a)) (.sc (.string b))=if a.size+b.size≤2 ^ 60 then quiet (.sc (.string (a++b))) else none:=rfl
theorem binOpA_str (op:BinOp) (hop:op≠.add) (t:TypeId) (c:Bool) (a b:ByteArray):binOpA tab op t c (.sc (.string a)) (.sc (.string b))=match pureVal (Op.stringOp op a b) with | some v=>quiet (.sc v) | none=>none:=by
 cases op<;>first | rfl | exact absurd rfl hop
theorem binOpA_eql (t:TypeId) (c:Bool) (a b:Bool):binOpA tab .eql t c (.sc (.bool a)) (.sc (.bool b))=match tab t with | some d=>(match eqA d c (.sc (.bool a)) (.sc (.bool b)) with | some b=>quiet (.sc (.bool b)) | none=>none) | none=>none:=rfl
theorem binOpA_neq (t:TypeId) (c:Bool) (a b:Bool):binOpA tab .neq t c (.sc (.bool a)) (.sc (.bool b))=match tab t with | some d=>(match eqA d c (.sc (.bool a)) (.sc (.bool b)) with | some b=>quiet (.sc (.bool (!b))) | none=>none) | none=>none:=rfl
theorem map_some {α β:Type} {x:Option α} {f:α→β} {b:β} (h:x.map f=some b):∃a,x=some a∧f a=b:=by
 cases x with
 |none=>cases h
 |some a=>cases h;exact ⟨a,rfl,rfl⟩
theorem isBool_eq {d:TyD} (h:isBool d=true):d.k=.bool:=by
 unfold isBool at h
 split at h
 ·assumption
 ·cases h
theorem hd_same {ks:List TyK} {cs ds:List WV} {xs ys:List AV} {vs ws:List Value} (h:fitsW ks cs ds=true) (hx:WRs R cs xs) (hy:WRs R ds ys) (e1:scs xs=some vs) (e2:scs ys=some ws) (e3:eqVals ks vs ws=some true):hdSame cs ds:=by
 unfold hdSame
 split
 ·rename_i v _ w _
  cases hx with
  |cons h1 hx=>
  cases hy with
  |cons h2 hy=>
  obtain rfl:=h1.sc_inv
  obtain rfl:=h2.sc_inv
  cases ks with
  |nil=>simp [fitsW] at h
  |cons k ks=>
   simp only [scs] at e1 e2
   split at e1
   ·split at e2
    ·cases e1;cases e2
     simp only [eqVals] at e3
     split at e3
     ·split at e3
      ·rename_i a b ha hb
       cases e3':a&&b with
       |false=>rw [e3'] at e3;cases e3
       |true=>rw [Bool.and_eq_true] at e3';rw [ha,e3'.1]
      ·cases e3
     ·cases e3
    ·cases e2
   ·cases e1
 ·trivial
theorem fits_eq:∀{ks:List TyK} {cs ds:List WV} {xs ys:List AV},fitsW ks cs ds=true→WRs R cs xs→WRs R ds ys→∃vs ws b,scs xs=some vs∧scs ys=some ws∧eqVals ks vs ws=some b
 |[],[],[],_,_,_,.nil,.nil=>⟨[],[],true,rfl,rfl,rfl⟩
 |k::ks,.sc v::cs,.sc w::ds,_,_,h,.cons hx hxs,.cons hy hys=>by
  simp only [fitsW,Bool.and_eq_true] at h
  obtain rfl:=hx.sc_inv
  obtain rfl:=hy.sc_inv
  obtain ⟨vs,ws,b,e1,e2,e3⟩:=fits_eq h.2 hxs hys
  obtain ⟨c,hc⟩:=Option.isSome_iff_exists.1 h.1.2
  exact ⟨v::vs,w::ws,c&&b,by simp only [scs,e1],by simp only [scs,e2],by simp only [eqVals,h.1.1,hc,e3,if_true]⟩
theorem bin_sound (rt:RelT R T Tc) (rh:RelH R W H) {op:BinOp} {t u:TypeId} {x y:Operand} (ho:o.op=.binOp op t x y u) (h:binW tab T W K op t x y):Stepped P tab R W H Tc o K:=by
 have hp:isPlain o:=plain_op (fun c hc=>by rw [ho] at hc;cases hc) (fun x hc=>by rw [ho] at hc;cases hc)
 unfold binW at h
 split at h
 ·rename_i es ha hb
  obtain ⟨x1,hx1,hr1⟩:=ev_ok rt ha
  obtain ⟨x2,hx2,hr2⟩:=ev_ok rt hb
  obtain rfl:=hr2.sc_inv
  unfold nilB at h
  split at h
  ·rename_i hk
   obtain ⟨d,hd,hdk⟩:=map_some hk
   have hdk':∃e,d.k=.slice e:=by
    unfold isSlK at hdk
    split at hdk
    ·rename_i e he;exact ⟨e,he⟩
    ·cases hdk
   obtain ⟨e,he⟩:=hdk'
   rcases hr1.lst_inv with ⟨rfl,rfl⟩ | ⟨xs,c,rfl,hx⟩
   ·exact step_quiet rh hp (h true fun _=>rfl) (by simp only [aop,ho,hx1,hx2,binOpA,hd,eqA,nilEq,he]) (.pure .sc)
   ·exact step_quiet rh hp (h false fun e=>by cases e) (by simp only [aop,ho,hx1,hx2,binOpA,hd,eqA,nilEq,he]) (.pure .sc)
  ·exact h.elim
 ·rename_i cs ha hb
  obtain ⟨x1,hx1,hr1⟩:=ev_ok rt ha
  obtain ⟨x2,hx2,hr2⟩:=ev_ok rt hb
  obtain rfl:=hr2.sc_inv
  obtain ⟨ys,rfl,_⟩:=hr1.ipt_inv
  unfold ptrB at h
  split at h
  ·rename_i hk
   obtain ⟨d,hd,hdk⟩:=map_some hk
   exact step_quiet rh hp h (by simp only [aop,ho,hx1,hx2,binOpA,hd,eqA,nilEq,hdk]) (.pure .sc)
  ·rename_i hk
   obtain ⟨d,hd,hdk⟩:=map_some hk
   exact step_quiet rh hp h (by simp only [aop,ho,hx1,hx2,binOpA,hd,eqA,nilEq,hdk]) (.pure .sc)
  ·exact h.elim
 ·rename_i ha hb
  obtain ⟨x1,hx1,hr1⟩:=ev_ok rt ha
  obtain ⟨x2,hx2,hr2⟩:=ev_ok rt hb
  obtain rfl:=hr2.sc_inv
  obtain rfl:=hr1.sc_inv
  unfold ptrB at h
  split at h
  ·rename_i hk
   obtain ⟨d,hd,hdk⟩:=map_some hk
   exact step_quiet rh hp h (by simp only [aop,ho,hx1,hx2,binOpA,hd,eqA,nilEq,hdk]) (.pure .sc)
  ·rename_i hk
   obtain ⟨d,hd,hdk⟩:=map_some hk
   exact step_quiet rh hp h (by simp only [aop,ho,hx1,hx2,binOpA,hd,eqA,nilEq,hdk]) (.pure .sc)
  ·exact h.elim
 ·rename_i cs ds ha hb
  obtain ⟨x1,hx1,hr1⟩:=ev_ok rt ha
  obtain ⟨x2,hx2,hr2⟩:=ev_ok rt hb
  obtain ⟨xs,rfl,hxs⟩:=hr1.agg_inv
  obtain ⟨ys,rfl,hys⟩:=hr2.agg_inv
  unfold aggB at h
  split at h
  ·rename_i ks hk
   obtain ⟨d,hd,hdk⟩:=bind_some hk
   obtain ⟨hf,h⟩:=beq_of_bif h
   obtain ⟨vs,ws,b,e1,e2,e3⟩:=fits_eq hf hxs hys
   exact step_quiet rh hp (h b fun q=>hd_same hf hxs hys e1 e2 (q ▸ e3)) (by simp only [aop,ho,hx1,hx2,binOpA,hd,eqA,hdk,e1,e2,e3]) (.pure .sc)
  ·rename_i ks hk
   obtain ⟨d,hd,hdk⟩:=bind_some hk
   obtain ⟨hf,h⟩:=beq_of_bif h
   obtain ⟨vs,ws,b,e1,e2,e3⟩:=fits_eq hf hxs hys
   exact step_quiet rh hp (h (!b)) (by simp only [aop,ho,hx1,hx2,binOpA,hd,eqA,hdk,e1,e2,e3]) (.pure .sc)
  ·exact h.elim
 ·rename_i a b _ _ _ _ ha hb
  obtain ⟨x1,hx1,hr1⟩:=ev_ok rt ha
  obtain ⟨x2,hx2,hr2⟩:=ev_ok rt hb
  have fin:∀{v:WV} {z:AV},plainK v W K→binOpA tab op t (isConst x || isConst y) x1 x2=quiet z→WR R v z→Stepped P tab R W H Tc o K:=fun h1 h2 h3=>
   step_quiet rh hp h1 (by simp only [aop,ho,hx1,hx2];exact h2) h3
  have num:∀{v:WV},scBin tab op t a b=some v→K v W ⟨[],[]⟩ →Stepped P tab R W H Tc o K:=fun {v} h1 h2=>by
   unfold scBin at h1
   split at h1
   ·obtain rfl:=hr1.sc_inv
    obtain rfl:=hr2.sc_inv
    obtain ⟨w,hw,rfl⟩:=map_some h1
    exact fin h2 (by rw [binOpA_int,hw]) (.pure .sc)
   ·obtain rfl:=hr1.sc_inv
    obtain rfl:=hr2.sc_inv
    split at h1
    ·rename_i hk
     obtain ⟨d,hd,hdk⟩:=map_some hk
     cases h1
     exact fin h2 (by rw [binOpA_eql,hd];simp only [eqA,isBool_eq hdk]) (.pure .sc)
    ·rename_i hk
     obtain ⟨d,hd,hdk⟩:=map_some hk
     cases h1
     exact fin h2 (by rw [binOpA_neq,hd];simp only [eqA,isBool_eq hdk]) (.pure .sc)
    ·cases h1
   ·cases h1
  unfold catW at h
  split at h
  ·obtain rfl:=hr1.sc_inv
   obtain rfl:=hr2.sc_inv
   split at h
   ·exact fin h.2 (by rw [binOpA_add,if_pos h.1]) (.pure .sc)
   ·rename_i hop
    obtain ⟨v,hv,h⟩:=give_some h
    obtain ⟨w,hw,rfl⟩:=map_some hv
    exact fin h (by rw [binOpA_str _ (fun e=>hop e),hw]) (.pure .sc)
  ·obtain ⟨v,hv,h⟩:=give_some h
   exact num hv h
 ·exact h.elim
theorem un_sound (rt:RelT R T Tc) (rh:RelH R W H) {op:UnOp} {t:TypeId} {x:Operand} (ho:o.op=.unOp op t x) (h:unW T W K op x):Stepped P tab R W H Tc o K:=by
 have hp:isPlain o:=plain_op (fun c hc=>by rw [ho] at hc;cases hc) (fun x hc=>by rw [ho] at hc;cases hc)
 unfold unW at h
 split at h
 ·rename_i v hv
  obtain ⟨y,hy,hr⟩:=ev_ok rt hv
  obtain rfl:=hr.sc_inv
  split at h
  ·obtain ⟨z,hz,h⟩:=give_some h
   obtain ⟨w,hw,rfl⟩:=map_some hz
   exact step_quiet rh hp h (by simp only [aop,ho,hy,hw]) (.pure .sc)
  ·obtain ⟨z,hz,h⟩:=give_some h
   obtain ⟨w,hw,rfl⟩:=map_some hz
   exact step_quiet rh hp h (by simp only [aop,ho,hy,hw]) (.pure .sc)
  ·exact h.elim
 ·exact h.elim
theorem fieldOf_ok {t:TypeId} {f off:Nat} {dt:TyD} (h:fieldOf tab t f=some (off,dt)):∃d fs t',tab t=some d∧d.k=.strct fs∧fs[f]?=some (off,t')∧tab t'=some dt:=by
 unfold fieldOf at h
 split at h
 ·rename_i d hd
  split at h
  ·rename_i fs hk
   split at h
   ·rename_i off' t' hf
    obtain ⟨dt',h1,h2⟩:=map_some h
    cases h2
    exact ⟨d,fs,t',hd,hk,hf,h1⟩
   ·cases h
  ·cases h
 ·cases h
theorem fieldAddr_sound (rt:RelT R T Tc) (rh:RelH R W H) {t:TypeId} {x:Operand} {f:Nat} (ho:o.op=.fieldAddr t x f) (h:fieldAddrW tab T W K t x f):Stepped P tab R W H Tc o K:=by
 have hp:isPlain o:=plain_op (fun c hc=>by rw [ho] at hc;cases hc) (fun x hc=>by rw [ho] at hc;cases hc)
 unfold fieldAddrW at h
 split at h
 ·rename_i off dt a hf ha
  obtain ⟨d,fs,t',hd,hk,hff,ht'⟩:=fieldOf_ok hf
  obtain ⟨y,hy,hr⟩:=ev_ok rt ha
  cases hz:Nat.beq dt.size 0 with
  |true=>rw [hz] at h;exact h.elim
  |false=>
   rw [hz] at h
   have hsz:dt.size≠0:=Nat.ne_of_beq_eq_false hz
   simp only [cond_false] at h
   unfold faddr at h
   split at h
   ·rename_i cs
    obtain ⟨hb,h⟩:=beq_of_bif h
    obtain ⟨xs,rfl,hx⟩:=hr.ipt_inv
    have hle:off+dt.size≤xs.length:=by rw [←(prs_all2.1 hx).length];exact Nat.le_of_ble_eq_true hb
    refine step_quiet rh hp h (x:=.ipt (xs.drop off)) ?_ (.pure (.ipt ?_))
    ·simp only [aop,ho,hd,hy,fieldAtA,hk,hff,ht']
     rw [if_neg hsz,if_pos hle]
    ·rw [dropW_eq];exact prs_all2.2 ((prs_all2.1 hx).drop off)
   ·rename_i n fo
    obtain ⟨hb,h⟩:=beq_of_bif h
    obtain ⟨q1,q2,q3⟩:=hr.box_inv
    obtain rfl:=q3 (alive_al rh hb)
    refine step_quiet rh hp h (x:=.pt (R.ob n) 1 0 (fo+off)) ?_ (.box q1 rfl fun _=>rfl)
    simp only [aop,ho,hd,hy,fieldAtA,hk,hff,ht']
    rw [if_neg hsz]
   ·rename_i n i fo
    obtain ⟨hb,h⟩:=beq_of_bif h
    obtain ⟨q1,q2,q3⟩:=hr.elt_inv
    obtain ⟨g,cap,hav,rfl⟩:=q3 (alive_al rh hb)
    refine step_quiet rh hp h (x:=.pt (R.ob n) g i (fo+off)) ?_ (.elt q1 rfl fun _=>⟨g,cap,hav,rfl⟩)
    simp only [aop,ho,hd,hy,fieldAtA,hk,hff,ht']
    rw [if_neg hsz]
   ·exact h.elim
 ·exact h.elim
theorem field_sound (rt:RelT R T Tc) (rh:RelH R W H) {t:TypeId} {x:Operand} {f:Nat} (ho:o.op=.field t x f) (h:fieldW tab T W K t x f):Stepped P tab R W H Tc o K:=by
 have hp:isPlain o:=plain_op (fun c hc=>by rw [ho] at hc;cases hc) (fun x hc=>by rw [ho] at hc;cases hc)
 unfold fieldW at h
 split at h
 ·rename_i off dt cs hf ha
  obtain ⟨d,fs,t',hd,hk,hff,ht'⟩:=fieldOf_ok hf
  obtain ⟨y,hy,hr⟩:=ev_ok rt ha
  obtain ⟨xs,rfl,hx⟩:=hr.agg_inv
  obtain ⟨hb,h⟩:=beq_of_bif h
  have hle:off+dt.size≤xs.length:=by rw [←(wrs_all2.1 hx).length];exact Nat.le_of_ble_eq_true hb
  obtain ⟨v,hv,h⟩:=give_some h
  obtain ⟨z,hz1,hz2⟩:=ofCells_ok (take_drop_ok hx dt.size off) hv
  refine step_quiet rh hp h ?_ hz2
  simp only [aop,ho,hd,hy,fieldA,hk,hff,partA,ht']
  rw [if_pos hle]
  simp only [hz1]
 ·exact h.elim
theorem elemD_ok {t:TypeId} {de:TyD} (h:(tab t).bind (elemD tab)=some de):∃d e,tab t=some d∧d.k=.slice e∧tab e=some de:=by
 obtain ⟨d,h1,h2⟩:=bind_some h
 unfold elemD at h2
 split at h2
 ·rename_i e hk;exact ⟨d,e,h1,hk,h2⟩
 ·cases h2
theorem prss_get {es:List (List WV)} {xs:List (List AV)} (h:PRss es xs) {i:Nat} {c:List WV} (hc:es[i]?=some c):∃x,xs[i]?=some x∧PRs c x:=(prss_all2.1 h).get hc
theorem arrAll_ok {m:Nat} {iv:Int} {X:Nat→Prop} (h:arrAll m iv X):0≤iv∧iv<(m:Int)∧X iv.toNat:=by
 obtain ⟨h0,h1,h⟩:=h
 refine ⟨h0,h1,?_⟩
 have key:∀(l:List Nat),List.rec (motive:=fun _=>Prop) True (fun (k:Nat) _ ih=>(iv=(k:Int)→X k)∧ih) l→∀k∈l,iv=(k:Int)→X k:=by
  intro l
  induction l with
  |nil=>intro _ k hk;cases hk
  |cons a l ih=>
   intro h k hk
   rcases List.mem_cons.1 hk with rfl | hk
   ·exact h.1
   ·exact ih h.2 k hk
 exact key _ h iv.toNat (List.mem_range.2 (by omega)) (by omega)
theorem arrD_ok {t:TypeId} {m:Nat} {de:TyD} (h:arrD tab t=some (m,de)):∃d e,tab t=some d∧d.k=.arr m e∧tab e=some de:=by
 unfold arrD at h
 split at h
 ·rename_i d hd
  split at h
  ·rename_i m' e hk
   obtain ⟨q,hq,e2⟩:=map_some h
   cases e2
   exact ⟨d,e,hd,hk,hq⟩
  ·cases h
 ·cases h
theorem indexAddr_sound (rt:RelT R T Tc) (rh:RelH R W H) {t:TypeId} {x i:Operand} (ho:o.op=.indexAddr t x i) (h:indexAddrW tab T W K t x i):Stepped P tab R W H Tc o K:=by
 have hp:isPlain o:=plain_op (fun c hc=>by rw [ho] at hc;cases hc) (fun x hc=>by rw [ho] at hc;cases hc)
 unfold indexAddrW at h
 split at h
 ·rename_i de es k iv hd hx hi
  obtain ⟨d,e,hd1,hk,hde⟩:=elemD_ok hd
  obtain ⟨y,hy,hr⟩:=ev_ok rt hx
  obtain ⟨z,hz,hrz⟩:=ev_ok rt hi
  obtain rfl:=hrz.sc_inv
  obtain ⟨h0,cs,hcs,hlen,h⟩:=h
  rcases hr.lst_inv with ⟨rfl,rfl⟩ | ⟨xs,c,rfl,hxs⟩
  ·simp at hcs
  obtain ⟨x0,hx0,hx0r⟩:=prss_get hxs hcs
  have hl:x0.length=de.size:=by rw [←(prs_all2.1 hx0r).length];exact hlen
  refine step_quiet rh hp h (x:=.ipt x0) ?_ (.pure (.ipt hx0r))
  simp only [aop,ho,hd1,hy,hz,intOf,indexAtA,hk,hde]
  rw [if_pos h0,hx0]
  simp only []
  rw [if_pos hl]
 ·rename_i de n k iv hd hx hi
  obtain ⟨d,e,hd1,hk,hde⟩:=elemD_ok hd
  obtain ⟨y,hy,hr⟩:=ev_ok rt hx
  obtain ⟨z,hz,hrz⟩:=ev_ok rt hi
  obtain rfl:=hrz.sc_inv
  unfold idxRow at h
  split at h
  ·rename_i es s fz rt' hes
   obtain ⟨hb,h0,hlt,h⟩:=beq_of_bif h
   obtain ⟨q1,q2,q3⟩:=hr.row_inv
   obtain ⟨hal,hlen,hrow⟩:=rh.row_obj hes
   have hs:s=de.size:=Nat.eq_of_beq_eq_true hb
   rcases hrow with ⟨_,rfl⟩ | ⟨g,cap,xs,fz',hav,hlook,hg,hxs,_⟩
   ·simp at hlt
   have hq:=q3 hal
   rw [hav] at hq
   subst hq
   have hgl:g=es.length:=by rw [All2.length hxs,hg]
   refine step_read (rd:=[R.ob n]) (x:=.pt (R.ob n) g iv.toNat 0) rh hp h ?_ (.elt q1 rfl fun _=>⟨g,cap,hav,rfl⟩) (fun m hm=>?_)
   ·simp only [aop,ho,hd1,hy,hz,intOf,indexAtA,hk,hde,hlook]
    rw [if_pos ⟨hg,hs,h0,by omega,by omega⟩]
    simp [reads]
   ·simp only [List.mem_singleton] at hm
    subst hm
    exact ⟨n,_,hes,(show R.av n≠nilA by rw [hav];intro e;cases e),rfl,.inl (by simp [rootO])⟩
  ·exact h.elim
 ·rename_i n i fo k iv hd hx hi
  obtain ⟨y,hy,hr⟩:=ev_ok rt hx
  obtain ⟨z,hz,hrz⟩:=ev_ok rt hi
  obtain rfl:=hrz.sc_inv
  unfold arrElt at h
  split at h
  ·rename_i m de es s fz rt' ha hes
   obtain ⟨d,e,hd1,hk,hde⟩:=arrD_ok ha
   obtain ⟨hb,hB⟩:=beq_of_bif h
   clear h
   obtain ⟨h0,h1,h⟩:=hB
   simp only [Bool.and_eq_true] at hb
   obtain ⟨⟨⟨b1,b2⟩,b3⟩,b4⟩:=hb
   obtain rfl:=Nat.eq_of_beq_eq_true b1
   obtain rfl:=Nat.eq_of_beq_eq_true b2
   have hs:s=de.size:=Nat.eq_of_beq_eq_true b3
   have hm:m≤es.length:=Nat.le_of_ble_eq_true b4
   obtain ⟨hal,hlen,hrow⟩:=rh.row_obj hes
   obtain ⟨q1,q2,q3⟩:=hr.elt_inv
   obtain ⟨g,cap,hav,rfl⟩:=q3 hal
   rcases hrow with ⟨h2,_⟩ | ⟨g',cap',xs,fz',h2,hlook,hg,hxs,_⟩
   ·rw [hav] at h2;cases h2
   rw [hav] at h2
   cases h2
   have hgl:g=es.length:=by rw [All2.length hxs,hg]
   refine step_read (rd:=[R.ob n]) (x:=.pt (R.ob n) g iv.toNat 0) rh hp h ?_ (.elt q1 rfl fun _=>⟨g,cap,hav,rfl⟩) (fun m hm=>?_)
   ·simp only [aop,ho,hd1,hy,hz,intOf,indexAtA,hk,hde,hlook]
    rw [if_pos ⟨h0,h1⟩,if_pos ⟨hg,hs,trivial,by omega⟩]
    simp [reads]
   ·simp only [List.mem_singleton] at hm
    subst hm
    exact ⟨n,_,hes,(show R.av n≠nilA by rw [hav];intro e;cases e),rfl,.inl (by simp [rootO])⟩
  ·exact h.elim
 ·exact h.elim
theorem isStr_eq {d:TyD} (h:isStr d=true):d.k=.str:=by
 unfold isStr at h
 split at h
 ·assumption
 ·cases h
theorem index_sound (rt:RelT R T Tc) (rh:RelH R W H) {t:TypeId} {x i:Operand} (ho:o.op=.index t x i) (h:indexW tab T W K t x i):Stepped P tab R W H Tc o K:=by
 have hp:isPlain o:=plain_op (fun c hc=>by rw [ho] at hc;cases hc) (fun x hc=>by rw [ho] at hc;cases hc)
 unfold indexW at h
 split at h
 ·rename_i d s k iv hd hx hi
  obtain ⟨hb,h0,b,hbb,h⟩:=beq_of_bif h
  obtain ⟨y,hy,hr⟩:=ev_ok rt hx
  obtain ⟨z,hz,hrz⟩:=ev_ok rt hi
  obtain rfl:=hrz.sc_inv
  obtain rfl:=hr.sc_inv
  refine step_quiet rh hp h ?_ (.pure .sc)
  simp only [aop,ho,hd,hy,hz,intOf,indexA,isStr_eq hb]
  rw [if_pos h0,hbb]
 ·rename_i d0 cs k iv hd hx hi
  obtain ⟨y,hy,hr⟩:=ev_ok rt hx
  obtain ⟨z,hz,hrz⟩:=ev_ok rt hi
  obtain rfl:=hrz.sc_inv
  obtain ⟨xs,rfl,hxs⟩:=hr.agg_inv
  unfold arrVal at h
  split at h
  ·rename_i m de ha
   obtain ⟨d,e,hd1,hk,hde⟩:=arrD_ok ha
   obtain ⟨h0,h1,h⟩:=arrAll_ok h
   obtain ⟨hb,h⟩:=beq_of_bif h
   have hle:iv.toNat*de.size+de.size≤xs.length:=by rw [←(wrs_all2.1 hxs).length];exact Nat.le_of_ble_eq_true hb
   obtain ⟨v,hv,h⟩:=give_some h
   obtain ⟨w,hz1,hz2⟩:=ofCells_ok (take_drop_ok hxs de.size (iv.toNat*de.size)) hv
   refine step_quiet rh hp h ?_ hz2
   simp only [aop,ho,hd1,hy,hz,intOf,indexA,hk,partA,hde]
   rw [if_pos ⟨h0,h1⟩,if_pos hle]
   simp only [hz1]
  ·exact h.elim
 ·exact h.elim
end Go.Abs
