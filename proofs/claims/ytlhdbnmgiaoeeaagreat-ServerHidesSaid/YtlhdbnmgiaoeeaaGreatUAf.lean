/- Of ServerHides: lemmas. -/
import Derived.Test.YtlhdbnmgiaoeeaaGreatUAe
set_option linter.all false
section
namespace Go.Abs
inductive All2 {α β:Type} (r:α->β->Prop):List α->List β->Prop
 |nil:All2 r [] []
 |cons {a:α} {b:β} {as:List α} {bs:List β} (h:r a b) (hs:All2 r as bs):All2 r (a::as) (b::bs)
section
variable {α β:Type} {r q:α->β->Prop}
theorem All2.length:∀{as:List α} {bs:List β},All2 r as bs->as.length=bs.length
 |_,_,.nil=>rfl
 |_,_,.cons _ h=>by simp [h.length]
theorem All2.append:∀{as as':List α} {bs bs':List β},All2 r as bs->All2 r as' bs'->All2 r (as++as') (bs++bs')
 |_,_,_,_,.nil,h=>h
 |_,_,_,_,.cons h hs,h'=>.cons h (hs.append h')
theorem All2.take:∀(n:Nat) {as:List α} {bs:List β},All2 r as bs->All2 r (as.take n) (bs.take n)
 |0,_,_,_=>by simpa using All2.nil
 |_+1,_,_,.nil=>.nil
 |n+1,_,_,.cons h hs=>.cons h (hs.take n)
theorem All2.drop:∀(n:Nat) {as:List α} {bs:List β},All2 r as bs->All2 r (as.drop n) (bs.drop n)
 |0,_,_,h=>h
 |_+1,_,_,.nil=>.nil
 |n+1,_,_,.cons _ hs=>by simpa using hs.drop n
theorem All2.get:∀{as:List α} {bs:List β},All2 r as bs->∀{i:Nat} {a:α},as[i]?=some a->∃b,bs[i]?=some b/\r a b
 |_,_,.nil,i,a,h=>by simp at h
 |_,_,.cons h hs,0,a,e=>by grind
 |_,_,.cons h hs,i+1,a,e=>by simp at e;simpa using hs.get e
theorem All2.set:∀{as:List α} {bs:List β},All2 r as bs->∀(i:Nat) {a:α} {b:β},r a b->All2 r (as.set i a) (bs.set i b)
 |_,_,.nil,_,_,_,_=>.nil
 |_,_,.cons _ hs,0,_,_,h'=>.cons h' hs
 |_,_,.cons h hs,i+1,_,_,h'=>.cons h (hs.set i h')
theorem All2.mono (hq:∀a b,r a b->q a b):∀{as:List α} {bs:List β},All2 r as bs->All2 q as bs
 |_,_,.nil=>.nil
 |_,_,.cons h hs=>.cons (hq _ _ h) (hs.mono hq)
theorem All2.monoM:∀{as:List α} {bs:List β},(∀a∈as,∀b,r a b->q a b)->All2 r as bs->All2 q as bs
 |_,_,_,.nil=>.nil
 |_,_,hq,.cons h hs=>.cons (hq _ (by simp) _ h) (hs.monoM λa ha=>hq a (by simp [ha]))
theorem All2.replicate (n:Nat) {a:α} {b:β} (h:r a b):All2 r (List.replicate n a) (List.replicate n b):=by
 induction n with
 |zero=>exact .nil
 |succ n ih=>exact .cons h ih
theorem All2.map {γ:Type} (f:γ->α) (g:γ->β) (h:∀c,r (f c) (g c)):∀(l:List γ),All2 r (l.map f) (l.map g)
 |[]=>.nil
 |c::l=>.cons (h c) (All2.map f g h l)
end
theorem prs_all2:∀{cs:List WV} {xs:List AV},PRs cs xs↔All2 PR cs xs:=λ{cs xs}=>
 ⟨λh=>by
  induction cs generalizing xs with
  |nil=>cases h;exact .nil
  |cons c cs ih=>cases h with | cons h hs=>exact .cons h (ih hs),
  λh=>by
   induction h with
   |nil=>exact .nil
   |cons h _ ih=>exact .cons h ih⟩
theorem prss_all2 {cs:List (List WV)} {xs:List (List AV)}:PRss cs xs↔All2 PRs cs xs:=
 ⟨λh=>by
  induction cs generalizing xs with
  |nil=>cases h;exact .nil
  |cons c cs ih=>cases h with | cons h hs=>exact .cons h (ih hs),
  λh=>by
   induction h with
   |nil=>exact .nil
   |cons h _ ih=>exact .cons h ih⟩
structure Rn where
 nx:Nat
 al:Nat->Prop
 ob:Nat->Nat
 av:Nat->AV
def refA:AV->Bool
 |.sl _ _ _ _ _ | .pt _ _ _ _ | .mp _ | .sc (.slice none 0 0)=>true
 |_=>false
theorem refA_cells {x:AV} (h:refA x=true):cellsOf x=some [x]/\x.storable=true:=by
 unfold refA at h
 split at h<;>first | exact ⟨rfl,rfl⟩ | cases h
mutual
inductive WR (R:Rn):WV->AV->Prop
 |pure {v:WV} {x:AV} (h:PR v x):WR R v x
 |agg {cs:List WV} {xs:List AV} (h:WRs R cs xs):WR R (.agg cs) (.agg xs)
 |tup {cs:List WV} {xs:List AV} (h:WRs R cs xs):WR R (.tup cs) (.tup xs)
 |row {n:Nat} {x:AV} (hn:n<R.nx) (hr:refA x=true) (h:R.al n->x=R.av n):WR R (.row n) x
 |box {n fo:Nat} {x:AV} (hn:n<R.nx) (hr:refA x=true) (h:R.al n->x=.pt (R.ob n) 1 0 fo):WR R (.box n fo) x
 |elt {n i fo:Nat} {x:AV} (hn:n<R.nx) (hr:refA x=true) (h:R.al n->∃g cap,R.av n=.sl (R.ob n) g 0 g cap/\x=.pt (R.ob n) g i fo):WR R (.elt n i fo) x
 |fn {f:FuncId} {a b:List WV} {xs ys:List AV} (ha:WRs R a xs) (hb:WRs R b ys):WR R (.fn f a b) (.fn (.func f) xs ys)
 |mp {n:Nat} {x:AV} (hn:n<R.nx) (hr:refA x=true) (h:R.al n->x=.mp (R.ob n)):WR R (.mp n) x
 |yld {n:Nat} {x:AV} (hn:n<R.nx) (h:R.al n->x=.fn (.yield (R.ob n)) [] []):WR R (.yld n) x
 |ifc {t:TypeId} {v:WV} {x:AV} (h:WR R v x):WR R (.ifc t v) (.ifc t x)
 |win {n lo len:Nat} {cp:Bool} {x:AV} (hn:n<R.nx) (h:R.al n->(len=0/\(x=.sc (.slice none 0 0)\/∃b,x=.isl [] b/\(cp=true->b=true)))\/∃g cap c' lo',R.av n=.sl (R.ob n) g 0 g cap/\x=.sl (R.ob n) g lo' len c'/\(len≠0->lo'=lo)/\lo'+len<=g/\(cp=true->c'=some len)/\∀c,c'=some c->len<=c):WR R (.win n lo len cp) x
inductive WRs (R:Rn):List WV->List AV->Prop
 |nil:WRs R [] []
 |cons {c:WV} {cs:List WV} {x:AV} {xs:List AV} (h:WR R c x) (hs:WRs R cs xs):WRs R (c::cs) (x::xs)
end
abbrev WRss (R:Rn):List (List WV)->List (List AV)->Prop:=All2 (WRs R)
theorem wrs_all2 {R:Rn} {cs:List WV} {xs:List AV}:WRs R cs xs↔All2 (WR R) cs xs:=
 ⟨λh=>by
  induction cs generalizing xs with
  |nil=>cases h;exact .nil
  |cons c cs ih=>cases h with | cons h hs=>exact .cons h (ih hs),
  λh=>by
   induction h with
   |nil=>exact .nil
   |cons h _ ih=>exact .cons h ih⟩
theorem PRs.wrs {R:Rn} {cs:List WV} {xs:List AV} (h:PRs cs xs):WRs R cs xs:=wrs_all2.2 ((prs_all2.1 h).mono λ_ _=>.pure)
theorem PRss.wrss {R:Rn} {cs:List (List WV)} {xs:List (List AV)} (h:PRss cs xs):WRss R cs xs:=(prss_all2.1 h).mono λ_ _=>PRs.wrs
structure Rn.Le (R R':Rn):Prop where
 nx:R.nx<=R'.nx
 keep:∀n,n<R.nx->R'.al n->R.al n/\R'.ob n=R.ob n/\R'.av n=R.av n
theorem Rn.Le.refl (R:Rn):R.Le R:=⟨Nat.le_refl _,λ_ _ h=>⟨h,rfl,rfl⟩⟩
theorem Rn.Le.trans {R R' R'':Rn} (h:R.Le R') (h':R'.Le R''):R.Le R'':=⟨Nat.le_trans h.nx h'.nx,λn hn ha=>by
 obtain ⟨a1,a2,a3⟩:=h'.keep n (Nat.lt_of_lt_of_le hn h.nx) ha
 obtain ⟨b1,b2,b3⟩:=h.keep n hn a1
 grind⟩
variable {R R':Rn}
mutual
theorem WR.mono (l:R.Le R') {v:WV} {x:AV}:WR R v x->WR R' v x
 |.pure h=>.pure h
 |.agg h=>.agg (h.mono l)
 |.tup h=>.tup (h.mono l)
 |.fn ha hb=>.fn (ha.mono l) (hb.mono l)
 |.ifc h=>.ifc (h.mono l)
 |.yld hn h=>.yld (Nat.lt_of_lt_of_le hn l.nx) λha=>by obtain ⟨a,b,c⟩:=l.keep _ hn ha;grind
 |.mp hn hr h=>.mp (Nat.lt_of_lt_of_le hn l.nx) hr λha=>by obtain ⟨a,b,c⟩:=l.keep _ hn ha;grind
 |.row hn hr h=>.row (Nat.lt_of_lt_of_le hn l.nx) hr λha=>by obtain ⟨a,_,c⟩:=l.keep _ hn ha;grind
 |.box hn hr h=>.box (Nat.lt_of_lt_of_le hn l.nx) hr λha=>by obtain ⟨a,b,_⟩:=l.keep _ hn ha;grind
 |.elt hn hr h=>.elt (Nat.lt_of_lt_of_le hn l.nx) hr λha=>by obtain ⟨a,b,c⟩:=l.keep _ hn ha;grind
 |.win hn h=>.win (Nat.lt_of_lt_of_le hn l.nx) λha=>by obtain ⟨a,b,c⟩:=l.keep _ hn ha;grind
theorem WRs.mono (l:R.Le R') {v:List WV} {x:List AV}:WRs R v x->WRs R' v x
 |.nil=>.nil
 |.cons h hs=>.cons (h.mono l) (hs.mono l)
end
theorem WRss.mono (l:R.Le R') {v:List (List WV)} {x:List (List AV)} (h:WRss R v x):WRss R' v x:=All2.mono (λ_ _ h=>WRs.mono l h) h
theorem PR.sc_inv {v:Value} {x:AV} (h:PR (.sc v) x):x=.sc v:=by cases h;rfl
theorem PR.lst_inv {es:List (List WV)} {x:AV} (h:PR (.lst es) x):(es=[]/\x=.sc (.slice none 0 0))\/∃xs c,x=.isl xs c/\PRss es xs:=by
 cases h with
 |emp=>grind
 |lst h=>grind
theorem PR.ipt_inv {cs:List WV} {x:AV} (h:PR (.ipt cs) x):∃xs,x=.ipt xs/\PRs cs xs:=by cases h with | ipt h=>grind
theorem PR.agg_inv {cs:List WV} {x:AV} (h:PR (.agg cs) x):∃xs,x=.agg xs/\PRs cs xs:=by cases h with | agg h=>grind
theorem PR.tup_inv {cs:List WV} {x:AV} (h:PR (.tup cs) x):∃xs,x=.tup xs/\PRs cs xs:=by cases h with | tup h=>grind
theorem WR.sc_inv {v:Value} {x:AV} (h:WR R (.sc v) x):x=.sc v:=by cases h with | pure h=>exact h.sc_inv
theorem WR.lst_inv {es:List (List WV)} {x:AV} (h:WR R (.lst es) x):(es=[]/\x=.sc (.slice none 0 0))\/∃xs c,x=.isl xs c/\PRss es xs:=by cases h with | pure h=>exact h.lst_inv
theorem WR.ipt_inv {cs:List WV} {x:AV} (h:WR R (.ipt cs) x):∃xs,x=.ipt xs/\PRs cs xs:=by cases h with | pure h=>exact h.ipt_inv
theorem WR.imb_inv {G:Value->AV->Prop} {x:AV} (h:WR R (.imb G) x):∃ks vs,x=.imp ks vs/\vs.length=ks.length/\∀(i:Nat) k x,ks[i]?=some k->vs[i]?=some x->G k x:=by
 cases h with
 |pure h=>cases h with
  |imb hl h=>grind
theorem WR.agg_inv {cs:List WV} {x:AV} (h:WR R (.agg cs) x):∃xs,x=.agg xs/\WRs R cs xs:=by
 cases h with
 |pure h=>obtain ⟨xs,rfl,q⟩:=h.agg_inv;grind [PRs.wrs]
 |agg h=>grind
theorem WR.tup_inv {cs:List WV} {x:AV} (h:WR R (.tup cs) x):∃xs,x=.tup xs/\WRs R cs xs:=by
 cases h with
 |pure h=>obtain ⟨xs,rfl,q⟩:=h.tup_inv;grind [PRs.wrs]
 |tup h=>grind
theorem WR.row_inv {n:Nat} {x:AV} (h:WR R (.row n) x):n<R.nx/\refA x=true/\(R.al n->x=R.av n):=by
 cases h with
 |pure h=>cases h
 |row a b c=>grind
theorem WR.box_inv {n fo:Nat} {x:AV} (h:WR R (.box n fo) x):n<R.nx/\refA x=true/\(R.al n->x=.pt (R.ob n) 1 0 fo):=by
 cases h with
 |pure h=>cases h
 |box a b c=>grind
theorem WR.elt_inv {n i fo:Nat} {x:AV} (h:WR R (.elt n i fo) x):n<R.nx/\refA x=true/\(R.al n->∃g cap,R.av n=.sl (R.ob n) g 0 g cap/\x=.pt (R.ob n) g i fo):=by
 cases h with
 |pure h=>cases h
 |elt a b c=>grind
theorem WR.win_inv {n lo len:Nat} {cp:Bool} {x:AV} (h:WR R (.win n lo len cp) x):R.al n->(len=0/\(x=.sc (.slice none 0 0)\/∃b,x=.isl [] b/\(cp=true->b=true)))\/∃g cap c' lo',R.av n=.sl (R.ob n) g 0 g cap/\x=.sl (R.ob n) g lo' len c'/\(len≠0->lo'=lo)/\lo'+len<=g/\(cp=true->c'=some len)/\∀c,c'=some c->len<=c:=by
 cases h with
 |pure h=>cases h
 |win _ b=>exact b
theorem WR.mp_inv {n:Nat} {x:AV} (h:WR R (.mp n) x):n<R.nx/\refA x=true/\(R.al n->x=.mp (R.ob n)):=by
 cases h with
 |pure h=>cases h
 |mp a b c=>grind
theorem WR.fn_inv {f:FuncId} {a b:List WV} {x:AV} (h:WR R (.fn f a b) x):∃xs ys,x=.fn (.func f) xs ys/\WRs R a xs/\WRs R b ys:=by
 cases h with
 |pure h=>cases h
 |fn ha hb=>grind
theorem WR.fnp_inv {f:FuncId} {a b:List WV} {x:AV} (h:WR R (.fnp f a b) x):∃xs ys,x=.fn (.func f) xs ys/\PRs a xs/\PRs b ys/\a.all leafB=true/\b.all leafB=true:=by
 cases h with
 |pure h=>cases h with | fnp ha hb hl hm=>grind
theorem WR.yld_inv {n:Nat} {x:AV} (h:WR R (.yld n) x):n<R.nx/\(R.al n->x=.fn (.yield (R.ob n)) [] []):=by
 cases h with
 |pure h=>cases h
 |yld a b=>grind
theorem WR.lsc_inv {es:List (List WV)} {x:AV} (h:WR R (.lsc es) x):(es=[]/\x=.sc (.slice none 0 0))\/∃xs,x=.isl xs true/\PRss es xs:=by
 cases h with
 |pure h=>cases h with
  |lsc h=>grind
  |lsc0=>grind
theorem WR.ifc_inv {t:TypeId} {v:WV} {x:AV} (h:WR R (.ifc t v) x):∃y,x=.ifc t y/\WR R v y:=by
 cases h with
 |pure h=>cases h with | ifc h=>exact ⟨_,rfl,.pure h⟩
 |ifc h=>grind
theorem leaf_pr {v:WV} {x:AV} (hl:leafB v=true) (h:WR R v x):PR v x:=by
 cases h with
 |pure h=>exact h
 |agg h=>cases hl
 |tup h=>cases hl
 |fn=>cases hl
 |yld=>cases hl
 |ifc=>cases hl
 |mp=>cases hl
 |row=>cases hl
 |box=>cases hl
 |elt=>cases hl
 |win=>cases hl
theorem leaf_prs {cs:List WV} {xs:List AV} (hl:cs.all leafB=true) (h:WRs R cs xs):PRs cs xs:=
 prs_all2.2 ((wrs_all2.1 h).monoM λa ha _ h=>leaf_pr ((List.all_eq_true.1 hl) a ha) h)
theorem leafs_prss {es:List (List WV)} {xs:List (List AV)} (hl:leafs es) (h:WRss R es xs):PRss es xs:=
 prss_all2.2 (All2.monoM (λa ha _ h=>leaf_prs (hl a ha) h) h)
theorem storable_of {v:WV} {x:AV} (hs:storableW v=true) (h:WR R v x):x.storable=true:=by
 cases h with
 |pure h=>cases h with
  |@sc y=>cases y<;>first | rfl | cases hs
  |agg h=>cases hs
  |tup h=>cases hs
  |emp=>rfl
  |lst=>rfl
  |ipt=>rfl
  |imb=>rfl
  |fnp=>rfl
  |ifc=>cases hs
  |lsc=>cases hs
  |lsc0=>cases hs
  |pin h=>cases h<;>rfl
 |agg=>cases hs
 |tup=>cases hs
 |fn=>rfl
 |yld=>cases hs
 |ifc=>cases hs
 |mp _ hr _=>exact (refA_cells hr).2
 |row _ hr _=>exact (refA_cells hr).2
 |box _ hr _=>exact (refA_cells hr).2
 |elt _ hr _=>exact (refA_cells hr).2
 |win=>cases hs
theorem storables_of:∀{cs:List WV} {xs:List AV},cs.all storableW=true->WRs R cs xs->xs.all AV.storable=true
 |_,_,_,.nil=>rfl
 |_,_,hs,.cons h hr=>by
  simp only [List.all_cons,Bool.and_eq_true] at hs ⊢
  exact ⟨storable_of hs.1 h,storables_of hs.2 hr⟩
theorem lk_look {α:Type}:∀(l:List (Nat×α)) (n:Nat),lk l n=look l n
 |[],_=>rfl
 |(m,a)::r,n=>by
  show (bif Nat.beq m n then some a else lk r n)=_
  simp only [look]
  cases h:Nat.beq m n with
  |true=>rw [if_pos (Nat.eq_of_beq_eq_true h)];rfl
  |false=>rw [if_neg (Nat.ne_of_beq_eq_false h)];exact lk_look r n
theorem lk_cons {α:Type} (m:Nat) (a:α) (r:List (Nat×α)) (n:Nat):lk ((m,a)::r) n=if m=n then some a else lk r n:=by
 rw [lk_look,lk_look];rfl
theorem lk_rmv {α:Type}:∀(l:List (Nat×α)) (n m:Nat),lk (rmv l n) m=if n=m then none else lk l m
 |[],n,m=>by simp [rmv,lk]
 |(k,a)::r,n,m=>by
  show lk (bif Nat.beq k n then rmv r n else (k,a)::rmv r n) m=_
  cases h:Nat.beq k n with
  |true=>
   have:=Nat.eq_of_beq_eq_true h
   subst this
   show lk (rmv r k) m=_
   rw [lk_rmv r k m,lk_cons]
   split
   ·rfl
   ·rfl
  |false=>
   have:=Nat.ne_of_beq_eq_false h
   show lk ((k,a)::rmv r n) m=_
   rw [lk_cons,lk_rmv r n m,lk_cons]
   by_cases hm:k=m
   ·subst hm
    rw [if_pos rfl,if_neg (λe=>this e.symm),if_pos rfl]
   ·rw [if_neg hm,if_neg hm]
theorem forceC_eq {α:Type} (cs:List α):∀K:List α->Prop,forceC cs K=K cs:=by
 induction cs with
 |nil=>intro K;rfl
 |cons x xs ih=>intro K;exact ih _
theorem takeW_eq (n:Nat) (cs:List WV):takeW n cs=cs.take n:=by
 unfold takeW
 grind [Nat.eq_of_beq_eq_true]
theorem dropW_eq (n:Nat) (cs:List WV):dropW n cs=cs.drop n:=by cases n<;>rfl
theorem spliceW_eq (cs:List WV) (a:Nat) (new:List WV):spliceW cs a new=cs.take a++new++cs.drop (a+new.length):=by
 unfold spliceW
 cases h:(Nat.beq new.length cs.length&&Nat.beq a 0) with
 |true=>
  simp_all
 |false=>simp
theorem splice_ok {cs:List WV} {xs:List AV} (h:WRs R cs xs) (a:Nat) {new:List WV} {ys:List AV} (hn:WRs R new ys):WRs R (spliceW cs a new) (splice xs a ys):=by
 rw [spliceW_eq]
 have hl:=(wrs_all2.1 hn).length
 unfold splice
 rw [hl]
 exact wrs_all2.2 ((((wrs_all2.1 h).take a).append (wrs_all2.1 hn)).append ((wrs_all2.1 h).drop _))
theorem cells_ok {v:WV} {x:AV} {cs:List WV} (h:WR R v x) (hc:cellsW v=some cs):∃xs,cellsOf x=some xs/\WRs R cs xs:=by
 have one:∀{v:WV} {x:AV},WR R v x->cellsOf x=some [x]->cellW v=v->∃xs,cellsOf x=some xs/\WRs R [cellW v] xs:=λh1 h2 h3=>⟨_,h2,by rw [h3];exact .cons h1 .nil⟩
 unfold cellsW at hc
 split at hc
 ·obtain ⟨xs,rfl,q⟩:=h.agg_inv
  cases hc
  exact ⟨xs,rfl,q⟩
 ·cases hc
 ·cases hc
 ·cases hc
 ·cases hc
 ·cases hc
 ·cases hc
 ·cases hc
 ·rename_i n1 n2 n5 m1 m2 m3 n3 n4
  cases hc
  cases v with
  |sc y=>
   obtain rfl:=h.sc_inv
   cases y
   case tuple a=>grind
   case slice a b c=>
    cases a with
    |some a=>exact ⟨_,rfl,.cons (.pure .sc) .nil⟩
    |none=>
     cases b with
     |succ b=>exact ⟨_,rfl,.cons (.pure .sc) .nil⟩
     |zero=>cases c with
      |succ c=>exact ⟨_,rfl,.cons (.pure .sc) .nil⟩
      |zero=>exact ⟨_,rfl,.cons (.pure .emp) .nil⟩
   all_goals exact ⟨_,rfl,.cons (.pure .sc) .nil⟩
  |agg cs=>grind
  |tup cs=>grind
  |lst es=>
   have h':=h
   rcases h.lst_inv with ⟨rfl,rfl⟩ | ⟨xs,c,rfl,_⟩
   ·exact one h' rfl rfl
   ·exact one h' rfl rfl
  |pin y=>
   have h':=h
   cases h with
   |pure h=>cases h with | pin h=>cases h<;>exact one h' rfl rfl
  |ipt cs=>
   have h':=h
   obtain ⟨xs,rfl,_⟩:=h.ipt_inv
   exact one h' rfl rfl
  |row n=>exact one h (refA_cells h.row_inv.2.1).1 rfl
  |box n fo=>exact one h (refA_cells h.box_inv.2.1).1 rfl
  |elt n i fo=>exact one h (refA_cells h.elt_inv.2.1).1 rfl
  |win n i fo cp=>grind
  |fn f a b=>
   have h':=h
   obtain ⟨xs,ys,rfl,_⟩:=h.fn_inv
   exact one h' rfl rfl
  |fnp f a b=>
   have h':=h
   obtain ⟨xs,ys,rfl,_⟩:=h.fnp_inv
   exact one h' rfl rfl
  |mp n=>exact one h (refA_cells h.mp_inv.2.1).1 rfl
  |imb G=>
   have h':=h
   obtain ⟨ks,vs,rfl,_⟩:=h.imb_inv
   exact one h' rfl rfl
  |yld n=>grind
  |ifc t v=>grind
  |lsc es=>grind
theorem ofCells_ok {d:TyD} {cs:List WV} {xs:List AV} {v:WV} (h:WRs R cs xs) (ho:ofCellsW d cs=some v):∃x,ofCells d xs=some x/\WR R v x:=by
 have hl:=(wrs_all2.1 h).length
 unfold ofCellsW at ho
 cases hb:Nat.beq cs.length d.size with
 |false=>grind
 |true=>
  rw [hb] at ho
  simp only [cond_true] at ho
  unfold ofCells
  rw [if_pos (by simp_all)]
  cases ha:d.isAgg with
  |true=>
   rw [ha] at ho
   cases ho
   exact ⟨.agg xs,by simp,.agg h⟩
  |false=>
   rw [ha] at ho
   simp only [] at ho
   split at ho
   ·cases ho
    cases h with
    |cons h1 h2=>grind
   grind
theorem zero_ok (d:TyD):PRs (zeroW d) (d.zero.map .sc):=by
 unfold zeroW
 induction d.zero with
 |nil=>exact .nil
 |cons v l ih=>
  refine .cons ?_ ih
  show PR (cellW (.sc v)) (.sc v)
  unfold cellW
  split
  ·rename_i e
   cases e
   exact .emp
  ·exact .sc
theorem cellW_ok (v:Value):PR (cellW (.sc v)) (.sc v):=by
 unfold cellW
 split
 ·rename_i e
  cases e
  exact .emp
 ·exact .sc
theorem zeroN_ok (d:TyD) (k:Nat):PRs (zeroN d k) (d.zero.map .sc):=by
 unfold zeroN
 have:∀(l:List Value) (i:Nat),PRs ((l.zipIdx i).map λp=>bif Nat.beq p.2 k then WV.sc p.1 else cellW (.sc p.1)) (l.map .sc):=by
  intro l
  induction l with
  |nil=>intro i;exact .nil
  |cons v l ih=>
   intro i
   refine .cons ?_ (ih (i+1))
   show PR (bif Nat.beq i k then WV.sc v else cellW (.sc v)) (.sc v)
   cases Nat.beq i k
   ·exact cellW_ok v
   ·exact .sc
 grind
end Go.Abs
end
section
namespace Go.Abs
def nilA:AV:=.sc (.slice none 0 0)
def RelT (R:Rn) (T:WT) (Tc:TL):Prop:=∀t v,lk T t=some v->∃x,look Tc t=some x/\WR R v x
def hasO (R:Rn) (n:Nat):WO->Prop
 |.box _ _=>True
 |.set _ _=>True
 |.bag _ _ _=>True
 |.loop _ _ _ _=>True
 |.frm _ _=>False
 |.row _ _ _ _=>R.av n≠nilA
def rootO (n:Nat):WO->Nat
 |.box _ _=>n
 |.set _ _=>n
 |.bag _ _ _=>n
 |.loop _ _ _ _=>n
 |.frm _ _=>n
 |.row _ _ _ rt=>rt
def RowR (R:Rn) (H:Heap) (n:Nat) (es:List (List WV)) (s:Nat) (fz:Bool):Prop:=
 (R.av n=nilA/\es=[])\/∃g cap xs fz',R.av n=.sl (R.ob n) g 0 g cap/\look H.objs (R.ob n)=some (.cells xs s fz')/\xs.length=g/\WRss R es xs/\(cap=none\/cap=some g)/\fz'<=g/\(fz=false->fz'=0)
def BornK (ks:List Value) (bs:List Nat) (clock:Nat) (pe:List (Nat×Value)):Prop:=bornsOk clock bs=true/\bs.length=ks.length/\∀p∈pe,∃i:Nat,bs[i]?=some p.1/\ks[i]?=some p.2
def ObjR (R:Rn) (H:Heap) (n:Nat):WO->Prop
 |.box cs fz=>∃xs fz',look H.objs (R.ob n)=some (.cells [xs] cs.length fz')/\WRs R cs xs/\fz'<=1/\(fz=false->fz'=0)
 |.row es s fz _=>(∀e∈es,e.length=s)/\RowR R H n es s fz
 |.set ks V=>∃vs bs clock,look H.objs (R.ob n)=some (.map ks vs bs clock false)/\vs.length=ks.length/\(bornsOk clock bs=true/\bs.length=ks.length)/\∀x∈vs,∃v,V v/\x=.sc v
 |.bag G fz pe=>∃ks vs bs clock fz',look H.objs (R.ob n)=some (.map ks vs bs clock fz')/\vs.length=ks.length/\BornK ks bs clock pe/\(∀x∈vs,∃v,leafB v=true/\PR v x)/\(fz=false->fz'=false)/\∀(i:Nat) k x,ks[i]?=some k->vs[i]?=some x->G k x
 |.loop D T st pend=>RelT R T D.Tc/\R.ob n=D.b/\look H.objs D.b=some (.loop D.Tc D.N D.ps D.asg D.body st pend)
 |.frm T Tc=>RelT R T Tc
structure RelH (R:Rn) (W:WH) (H:Heap):Prop where
 nx:W.nx=R.nx
 obj:∀n o,lk W.objs n=some o->n<R.nx/\R.al n/\ObjR R H n o
 inj:∀n m o p,lk W.objs n=some o->lk W.objs m=some p->hasO R n o->hasO R m p->R.ob n=R.ob m->n=m
 fresh:∀m,H.next<=m->look H.objs m=none
theorem RelH.ob_look {R:Rn} {W:WH} {H:Heap} (rh:RelH R W H) {n:Nat} {o:WO} (h:lk W.objs n=some o) (ho:hasO R n o):∃p,look H.objs (R.ob n)=some p:=by
 obtain ⟨_,_,hr⟩:=rh.obj n o h
 cases o with
 |box cs fz=>obtain ⟨xs,fz',hx,_⟩:=hr;grind
 |set ks v=>obtain ⟨vs,bs,clock,hx,_⟩:=hr;grind
 |bag G fz pe=>obtain ⟨ks,vs,bs,clock,fz',hx,_⟩:=hr;grind
 |loop D T st pend=>exact ⟨_,by rw [hr.2.1];exact hr.2.2⟩
 |frm T Tc=>exact ho.elim
 |row es s fz rt=>
  rcases hr.2 with ⟨h1,_⟩ | ⟨g,cap,xs,fz',_,h2,_⟩
  ·exact absurd h1 ho
  grind
theorem RelH.ob_lt {R:Rn} {W:WH} {H:Heap} (rh:RelH R W H) {n:Nat} {o:WO} (h:lk W.objs n=some o) (ho:hasO R n o):R.ob n<H.next:=by
 obtain ⟨p,hp⟩:=rh.ob_look h ho
 rcases Nat.lt_or_ge (R.ob n) H.next with q | q
 ·exact q
 ·rw [rh.fresh _ q] at hp;cases hp
def Owns (ow:Nat->Nat) (R:Rn) (W:WH):Prop:=∀n o,lk W.objs n=some o->hasO R n o->ow (R.ob n)=rootO n o
def Told (ow:Nat->Nat) (e:WE) (next:Nat):Eff->Prop
 |.loc rd ups _=>(∀m∈rd,m<next/\(ow m∈e.rd\/ow m∈e.wr))/\∀p∈ups,p.1<next/\ow p.1∈e.wr
 |.glob _=>False
def EffR (R:Rn) (W:WH) (H:Heap) (R':Rn) (W':WH) (e:WE) (e':Eff):Prop:=
 ∀ow,Owns ow R W->∃ow',(∀c,c<H.next->ow' c=ow c)/\Owns ow' R' W'/\Told ow' e (H.apply e').next e'
inductive Ans where
 |none
 |call (r:Out)
 |own (es:List (List AV)) (s fz:Nat)
 |inl (r:Out) (H':Heap)
noncomputable def methP (P:Program) (t:TypeId) (m:String):Option FuncId:=open Classical in if h:∃f,MethOK P t m f then some h.choose else none
theorem methP_eq {P:Program} {t:TypeId} {m:String} {f:FuncId} (h:MethOK P t m f):methP P t m=some f:=by
 unfold methP
 have hx:∃f,MethOK P t m f:=⟨f,h⟩
 rw [dif_pos hx]
 have h1:=hx.choose_spec undef default
 have h2:=h undef default
 grind
noncomputable def hdA (P:Program) (A:Nat->Ans):Hd where
 call:=λi _ _=>match A i with | .call r=>some r | _=>Option.none
 inl:=λi _ _ _=>match A i with | .inl r H'=>some (r,H') | _=>Option.none
 isInl:=λi _=>match A i with | .inl _ _=>true | _=>false
 own:=λi _ _=>match A i with | .own es s fz=>some (es,s,fz) | _=>Option.none
 isOwn:=λi _=>match A i with | .own _ _ _=>true | _=>false
 round:=λi _ _ _=>match A i with | .inl r H'=>some (r,H') | _=>Option.none
 meth:=methP P
variable {P:Program} {tab:Tab}
def StepOK (P:Program) (tab:Tab) (Tc:TL) (H:Heap) (o:Oper) (a:Ans) (x:AV) (e':Eff):Prop:=
 ∀A i,A i=a->∃obs,stepA tab (hdA P A) i (look Tc) H o=some ⟨.ret x,e',obs⟩ /\∀ob∈obs,ob.holds P/\ob.isRound=false
def Stepped (P:Program) (tab:Tab) (R:Rn) (W:WH) (H:Heap) (Tc:TL) (o:Oper) (K:WK):Prop:=
 ∃v W' e,K v W' e/\∃a x e' R',StepOK P tab Tc H o a x e'/\okEff H e'=true/\R.Le R'/\WR R' v x/\RelH R' W' (H.apply e')/\EffR R W H R' W' e e'
def Unown (R:Rn) (W:WH) (k:Nat):Prop:=∀n o,lk W.objs n=some o->hasO R n o->R.ob n≠k
def Kept (R:Rn) (W:WH) (H:Heap) (R':Rn) (W':WH) (H':Heap):Prop:=
 H.next<=H'.next/\(∀k,look H'.objs k≠none->look H.objs k≠none\/H.next<=k)/\∀k,k<H.next->Unown R W k->look H'.objs k=look H.objs k/\Unown R' W' k
theorem Kept.refl (R:Rn) (W:WH) (H:Heap):Kept R W H R W H:=⟨Nat.le_refl _,λ_ h=>.inl h,λ_ _ h=>⟨rfl,h⟩⟩
theorem Kept.trans {R R1 R2:Rn} {W W1 W2:WH} {H H1 H2:Heap} (h:Kept R W H R1 W1 H1) (h':Kept R1 W1 H1 R2 W2 H2):Kept R W H R2 W2 H2:=
 ⟨Nat.le_trans h.1 h'.1,λk hk=>(h'.2.1 k hk).elim (h.2.1 k) λq=>.inr (Nat.le_trans h.1 q),λk hk hu=>by
  obtain ⟨a1,a2⟩:=h.2.2 k hk hu
  obtain ⟨b1,b2⟩:=h'.2.2 k (Nat.lt_of_lt_of_le hk h.1) a2
  grind⟩
def SteppedG (P:Program) (tab:Tab) (R:Rn) (W:WH) (H:Heap) (Tc:TL) (o:Oper) (K:WK):Prop:=
 ∃v W' e,K v W' e/\∃a x H' R',StepOK P tab Tc H o a x (.glob H')/\okEff H (.glob H')=true/\GL∈e.wr/\R.Le R'/\WR R' v x/\RelH R' W' H'/\Kept R W H R' W' H'/\
  ∀ow,Owns ow R W->∃ow',(∀c,c<H.next->ow' c=ow c)/\Owns ow' R' W'
variable {R:Rn} {T:WT} {W:WH} {H:Heap} {Tc:TL} {o:Oper} {K:WK}
def isPlain (o:Oper):Prop:=(∀c,o.op=.call c->∃b,c.callee=.builtin b)/\∀x,o.op≠.panic x
theorem stepOK_aop {x:AV} {rd:List Nat} {ups:List (Nat×AO)} {nw:Nat} (hp:isPlain o) (h:aop tab (look Tc) H H.next o=some ⟨x,.loc rd ups nw⟩):StepOK P tab Tc H o .none x (.loc rd ups nw):=by
 intro A i _
 refine ⟨[],?_,λ_ h=>by cases h⟩
 have h1:calleeOf (hdA P A) (look Tc) o=none:=by
  unfold calleeOf
  split
  ·rename_i c hc
   obtain ⟨b,hb⟩:=hp.1 c hc
   rw [hb]
  ·rfl
 have h2:yieldOf (look Tc) o=none:=by
  unfold yieldOf
  split
  ·rename_i c hc
   obtain ⟨b,hb⟩:=hp.1 c hc
   rw [hb]
  ·rfl
 have h3:panicOf (look Tc) o=none:=by
  unfold panicOf
  split
  ·rename_i y hy;exact absurd hy (hp.2 y)
  ·rfl
 unfold stepA
 rw [h1,h2,h3,h]
theorem effR_reads {e:WE} {rd:List Nat} (rh:RelH R W H) (hm:∀m∈rd,∃n o,lk W.objs n=some o/\hasO R n o/\R.ob n=m/\(rootO n o∈e.rd\/rootO n o∈e.wr)):EffR R W H R W e (.loc rd [] 0):=by
 intro ow hw
 refine ⟨ow,λ_ _=>rfl,hw,λm h=>?_,λp h=>by cases h⟩
 obtain ⟨n,o,h1,h2,h3,h4⟩:=hm m h
 have:=rh.ob_lt h1 h2
 rw [h3] at this
 refine ⟨by simp [Heap.apply];omega,?_⟩
 rw [<-h3,hw n o h1 h2]
 exact h4
theorem relH_apply {rd:List Nat} {k:Nat} (rh:RelH R W H):RelH R W (H.apply (.loc rd [] k)):=
 ⟨rh.nx,rh.obj,rh.inj,λm hm=>rh.fresh m (by simp [Heap.apply] at hm;omega)⟩
theorem step_read {v:WV} {e:WE} {x:AV} {rd:List Nat} (rh:RelH R W H) (hp:isPlain o) (hk:K v W e) (h:aop tab (look Tc) H H.next o=some ⟨x,.loc rd [] 0⟩) (hv:WR R v x)
 (hm:∀m∈rd,∃n o,lk W.objs n=some o/\hasO R n o/\R.ob n=m/\(rootO n o∈e.rd\/rootO n o∈e.wr)):Stepped P tab R W H Tc o K:=
 ⟨v,W,e,hk,.none,x,_,R,stepOK_aop hp h,rfl,Rn.Le.refl R,hv,relH_apply rh,effR_reads rh hm⟩
theorem step_quiet {v:WV} {x:AV} (rh:RelH R W H) (hp:isPlain o) (hk:plainK v W K) (h:aop tab (look Tc) H H.next o=quiet x) (hv:WR R v x):Stepped P tab R W H Tc o K:=
 step_read rh hp hk h hv (λ_ h=>by cases h)
theorem ev_ok (rt:RelT R T Tc) {z:Operand} {v:WV} (h:evW T z=some v):∃x,aev (look Tc) z=some x/\WR R v x:=by
 unfold evW at h
 split at h
 ·exact rt _ _ h
 ·rename_i y
  unfold ofConstW at h
  split at h
  ·rename_i cs
   cases hq:cs.all scalarB with
   |false=>grind
   |true=>
    rw [hq] at h
    cases h
    refine ⟨.agg (cs.toList.map .sc),by simp [aev,ofConst,hq],.pure (.agg ?_)⟩
    induction cs.toList with
    |nil=>exact .nil
    |cons a l ih=>exact .cons .sc ih
  ·rename_i hne
   cases hq:scalarB y with
   |false=>grind
   |true=>
    rw [hq] at h
    cases h
    refine ⟨.sc y,?_,.pure .sc⟩
    simp only [aev]
    unfold ofConst
    grind
 ·rename_i f
  cases h
  exact ⟨.fn (.func f) [] [],rfl,.pure (.fnp .nil .nil rfl rfl)⟩
 ·cases h
theorem plain_op (h1:∀c,o.op≠.call c) (h2:∀x,o.op≠.panic x):isPlain o:=⟨λc hc=>absurd hc (h1 c),h2⟩
theorem mv_sound (rt:RelT R T Tc) (rh:RelH R W H) {x:Operand} (ho:o.op=.move x\/o.op=.assign x) (h:mvW T W K x):Stepped P tab R W H Tc o K:=by
 unfold mvW at h
 split at h
 ·rename_i v hv
  obtain ⟨y,hy,hr⟩:=ev_ok rt hv
  rcases ho with ho | ho
  all_goals exact step_quiet rh (plain_op (λc hc=>by grind) (λx hc=>by grind)) h (by simp [aop,ho,hy]) hr
 grind
theorem pick_sound (rt:RelT R T Tc) (rh:RelH R W H) {c a b:Operand} (ho:o.op=.pick c a b) (h:pickW T W K c a b):Stepped P tab R W H Tc o K:=by
 have hp:isPlain o:=plain_op (λc hc=>by grind) (λx hc=>by grind)
 unfold pickW at h
 split at h
 ·rename_i q hq
  obtain ⟨y,hy,hr⟩:=ev_ok rt hq
  obtain rfl:=hr.sc_inv
  cases q with
  |true=>
   have h:=bothT h
   unfold mvW at h
   split at h
   ·rename_i v hv
    obtain ⟨z,hz,hr⟩:=ev_ok rt hv
    exact step_quiet rh hp h (by simp [aop,ho,hy,hz]) hr
   grind
  |false=>
   have h:=bothF h
   unfold mvW at h
   split at h
   ·rename_i v hv
    obtain ⟨z,hz,hr⟩:=ev_ok rt hv
    exact step_quiet rh hp h (by simp [aop,ho,hy,hz]) hr
   grind
 grind
def Rn.add (R:Rn) (c:Nat) (x:AV):Rn:=⟨R.nx+1,λm=>R.al m\/m=R.nx,upd R.ob R.nx c,upd R.av R.nx x⟩
theorem Rn.add_le (c:Nat) (x:AV):R.Le (R.add c x):=⟨Nat.le_succ _,λn hn ha=>by
 have hne:n≠R.nx:=by omega
 refine ⟨ha.resolve_right hne,upd_ne _ _ hne,upd_ne _ _ hne⟩⟩
theorem upd_at {α:Type} (f:Nat->α) (n:Nat) (a:α):upd f n a n=a:=upd_same f n a
theorem RelT.mono {R':Rn} (l:R.Le R') (rt:RelT R T Tc):RelT R' T Tc:=λt v h=>let ⟨x,h1,h2⟩:=rt t v h;⟨x,h1,h2.mono l⟩
theorem ObjR.move {R':Rn} {H':Heap} (l:R.Le R') {n:Nat} {o:WO} (hb:R'.ob n=R.ob n) (ha:R'.av n=R.av n) (hl:hasO R n o->look H'.objs (R.ob n)=look H.objs (R.ob n)) (h:ObjR R H n o):ObjR R' H' n o:=by
 cases o with
 |box cs fz=>
  obtain ⟨xs,fz',h1,h2,h3⟩:=h
  exact ⟨xs,fz',by rw [hb,hl trivial];exact h1,h2.mono l,h3⟩
 |set ks v=>
  obtain ⟨vs,bs,clock,h1,h2⟩:=h
  exact ⟨vs,bs,clock,by rw [hb,hl trivial];exact h1,h2⟩
 |bag G fz pe=>
  obtain ⟨ks,vs,bs,clock,fz',h1,h2⟩:=h
  exact ⟨ks,vs,bs,clock,fz',by rw [hb,hl trivial];exact h1,h2⟩
 |loop D T st pend=>exact ⟨h.1.mono l,hb.trans h.2.1,by have:=hl trivial;rw [h.2.1] at this;rw [this];exact h.2.2⟩
 |frm T Tc=>exact RelT.mono l h
 |row es s fz rt=>
  refine ⟨h.1,?_⟩
  rcases h.2 with ⟨h1,h2⟩ | ⟨g,cap,xs,fz',h1,h2,h3,h4,h5⟩
  ·exact .inl ⟨by grind,h2⟩
  ·have hh:hasO R n (.row es s fz rt):=by intro e;rw [h1] at e;cases e
   exact .inr ⟨g,cap,xs,fz',by grind,by grind,h3,WRss.mono l h4,h5⟩
theorem hasO.move {R':Rn} {n:Nat} {o:WO} (ha:R'.av n=R.av n) (h:hasO R' n o):hasO R n o:=by
 cases o with
 |box cs fz=>trivial
 |set ks v=>trivial
 |bag G fz pe=>trivial
 |loop D T st pend=>trivial
 |frm T Tc=>exact h
 |row es s fz rt=>intro e;exact h (by grind)
theorem relH_new (rh:RelH R W H) {c:Nat} {x:AV} {wo:WO} {W':WH} {H':Heap} (hw:W'.objs=(R.nx,wo)::W.objs) (hn:W'.nx=R.nx+1)
 (hH:∀m,m≠c\/¬hasO (R.add c x) R.nx wo->look H'.objs m=look H.objs m) (hf:∀m,H'.next<=m->look H'.objs m=none) (hc:hasO (R.add c x) R.nx wo->look H.objs c=none)
 (ho:ObjR (R.add c x) H' R.nx wo):RelH (R.add c x) W' H':=by
 have old:∀{n:Nat} {o:WO},lk W'.objs n=some o->n≠R.nx->lk W.objs n=some o:=λ{n o} h hne=>by
  grind [lk_cons]
 have new:∀{o:WO},lk W'.objs R.nx=some o->o=wo:=λ{o} h=>by
  grind [lk_cons]
 have apart:∀{n:Nat} {o:WO},lk W.objs n=some o->hasO R n o->R.ob n≠c\/¬hasO (R.add c x) R.nx wo:=λ{n o} h ho'=>by
  by_cases hh:hasO (R.add c x) R.nx wo
  ·refine .inl λe=>?_
   obtain ⟨p,hp⟩:=rh.ob_look h ho'
   grind
  grind
 by_cases hh:hasO (R.add c x) R.nx wo
 ·refine ⟨hn,λn o h=>?_,λn m o p h1 h2 h3 h4 e=>?_,hf⟩
  ·by_cases hne:n=R.nx
   ·subst hne
    obtain rfl:=new h
    exact ⟨Nat.lt_succ_self _,.inr rfl,ho⟩
   ·have h':=old h hne
    obtain ⟨q1,q2,q3⟩:=rh.obj n o h'
    exact ⟨Nat.lt_succ_of_lt q1,.inl q2,q3.move (Rn.add_le c x) (upd_ne _ _ hne) (upd_ne _ _ hne) λho'=>hH _ (apart h' ho')⟩
  ·by_cases hn1:n=R.nx
   ·by_cases hm1:m=R.nx
    ·rw [hn1,hm1]
    ·exfalso
     have h2':=old h2 hm1
     have e':c=R.ob m:=by
      rw [hn1] at e
      have a1:(R.add c x).ob R.nx=c:=upd_at _ _ _
      have a2:(R.add c x).ob m=R.ob m:=upd_ne _ _ hm1
      omega
     exact ((apart h2' (h4.move (upd_ne _ _ hm1))).resolve_right (λq=>q hh)) e'.symm
   ·by_cases hm1:m=R.nx
    ·exfalso
     have h1':=old h1 hn1
     have e':R.ob n=c:=by
      rw [hm1] at e
      have a1:(R.add c x).ob R.nx=c:=upd_at _ _ _
      have a2:(R.add c x).ob n=R.ob n:=upd_ne _ _ hn1
      omega
     exact ((apart h1' (h3.move (upd_ne _ _ hn1))).resolve_right (λq=>q hh)) e'
    ·have a1:(R.add c x).ob n=R.ob n:=upd_ne _ _ hn1
     have a2:(R.add c x).ob m=R.ob m:=upd_ne _ _ hm1
     rw [a1,a2] at e
     exact rh.inj n m o p (old h1 hn1) (old h2 hm1) (h3.move (upd_ne _ _ hn1)) (h4.move (upd_ne _ _ hm1)) e
 ·
  refine ⟨hn,λn o h=>?_,λn m o p h1 h2 h3 h4 e=>?_,hf⟩
  ·by_cases hne:n=R.nx
   ·subst hne
    obtain rfl:=new h
    exact ⟨Nat.lt_succ_self _,.inr rfl,ho⟩
   ·have h':=old h hne
    obtain ⟨q1,q2,q3⟩:=rh.obj n o h'
    exact ⟨Nat.lt_succ_of_lt q1,.inl q2,q3.move (Rn.add_le c x) (upd_ne _ _ hne) (upd_ne _ _ hne) λ_=>hH _ (.inr hh)⟩
  ·have hn1:n≠R.nx:=λe1=>by grind
   have hm1:m≠R.nx:=λe1=>by grind
   have a1:(R.add c x).ob n=R.ob n:=upd_ne _ _ hn1
   have a2:(R.add c x).ob m=R.ob m:=upd_ne _ _ hm1
   rw [a1,a2] at e
   exact rh.inj n m o p (old h1 hn1) (old h2 hm1) (h3.move (upd_ne _ _ hn1)) (h4.move (upd_ne _ _ hm1)) e
theorem step_newY {W0:WH} {x y:AV} {wo:WO} {ao:AO} {rd:List Nat} {e:WE} {v:WV} (rh0:RelH R W0 H) (sub:∀n o,lk W.objs n=some o->lk W0.objs n=some o) (rh:RelH R W H) (hp:isPlain o) (hk:K v ⟨(W.nx,wo)::W.objs,W.nx+1⟩ e)
 (h:aop tab (look Tc) H H.next o=some ⟨y,.loc rd [(H.next,ao)] 1⟩) (hv:WR (R.add H.next x) v y) (hr:rootO W.nx wo∈e.wr) (hh:hasO (R.add H.next x) R.nx wo)
 (hm:∀m∈rd,∃n o,lk W0.objs n=some o/\hasO R n o/\R.ob n=m/\(rootO n o∈e.rd\/rootO n o∈e.wr))
 (ho:ObjR (R.add H.next x) (H.apply (.loc rd [(H.next,ao)] 1)) R.nx wo):Stepped P tab R W0 H Tc o K:=by
 have hl:∀m,look (H.apply (.loc rd [(H.next,ao)] 1)).objs m=if H.next=m then some ao else look H.objs m:=λm=>look_put _ _ _ _
 refine ⟨v,_,e,hk,.none,y,_,R.add H.next x,stepOK_aop hp h,?_,Rn.add_le _ _,hv,?_,?_⟩
 ·simp [okEff]
 ·refine relH_new rh (c:=H.next) (x:=x) (wo:=wo) (by rw [rh.nx]) (by show W.nx+1=_;rw [rh.nx]) (λm hm=>?_) (λm hm=>?_) (λ_=>rh.fresh _ (Nat.le_refl _)) ho
  ·grind
  ·simp only [Heap.apply] at hm
   rw [hl,if_neg (by omega)]
   exact rh.fresh m (by omega)
 ·intro ow how
  refine ⟨upd ow H.next (rootO W.nx wo),λc hc=>upd_ne _ _ (by omega),λn o' h1 h2=>?_,λm hm'=>?_,λp hp=>?_⟩
  ·rw [lk_cons] at h1
   by_cases hn:W.nx=n
   ·rw [if_pos hn] at h1
    cases h1
    subst hn
    have:(R.add H.next x).ob W.nx=H.next:=by rw [rh.nx];exact upd_at _ _ _
    grind [upd_at]
   ·rw [if_neg hn] at h1
    have hne:n≠R.nx:=λe=>hn (by rw [rh.nx,e])
    have h3:hasO R n o':=h2.move (upd_ne _ _ hne)
    have h4:=rh.ob_lt h1 h3
    have h5:(R.add H.next x).ob n=R.ob n:=upd_ne _ _ hne
    rw [h5,upd_ne _ _ (by omega)]
    exact how n o' (sub _ _ h1) h3
  ·obtain ⟨n,o',h1,h2,h3,h4⟩:=hm m hm'
   have:=rh0.ob_lt h1 h2
   rw [h3] at this
   refine ⟨by simp [Heap.apply];omega,?_⟩
   rw [upd_ne _ _ (by omega),<-h3,how n o' h1 h2]
   exact h4
  ·simp only [List.mem_singleton] at hp
   subst hp
   refine ⟨by simp [Heap.apply];omega,?_⟩
   grind [upd_at]
theorem step_new0 {W0:WH} {x:AV} {wo:WO} {ao:AO} {rd:List Nat} {e:WE} {v:WV} (rh0:RelH R W0 H) (sub:∀n o,lk W.objs n=some o->lk W0.objs n=some o) (rh:RelH R W H) (hp:isPlain o) (hk:K v ⟨(W.nx,wo)::W.objs,W.nx+1⟩ e)
 (h:aop tab (look Tc) H H.next o=some ⟨x,.loc rd [(H.next,ao)] 1⟩) (hv:WR (R.add H.next x) v x) (hr:rootO W.nx wo∈e.wr) (hh:hasO (R.add H.next x) R.nx wo)
 (hm:∀m∈rd,∃n o,lk W0.objs n=some o/\hasO R n o/\R.ob n=m/\(rootO n o∈e.rd\/rootO n o∈e.wr))
 (ho:ObjR (R.add H.next x) (H.apply (.loc rd [(H.next,ao)] 1)) R.nx wo):Stepped P tab R W0 H Tc o K:=step_newY rh0 sub rh hp hk h hv hr hh hm ho
theorem step_new {x:AV} {wo:WO} {ao:AO} {rd:List Nat} {e:WE} {v:WV} (rh:RelH R W H) (hp:isPlain o) (hk:K v ⟨(W.nx,wo)::W.objs,W.nx+1⟩ e)
 (h:aop tab (look Tc) H H.next o=some ⟨x,.loc rd [(H.next,ao)] 1⟩) (hv:WR (R.add H.next x) v x) (hr:rootO W.nx wo∈e.wr) (hh:hasO (R.add H.next x) R.nx wo)
 (hm:∀m∈rd,∃n o,lk W.objs n=some o/\hasO R n o/\R.ob n=m/\(rootO n o∈e.rd\/rootO n o∈e.wr))
 (ho:ObjR (R.add H.next x) (H.apply (.loc rd [(H.next,ao)] 1)) R.nx wo):Stepped P tab R W H Tc o K:=step_new0 rh (λ_ _ h=>h) rh hp hk h hv hr hh hm ho
theorem newBox_sound (rh:RelH R W H) (hp:isPlain o) {cs:List WV} {xs:List AV} (hx:WRs R cs xs) (ha:aop tab (look Tc) H H.next o=some ⟨.pt H.next 1 0 0,.loc [] [(H.next,.cells [xs] xs.length 0)] 1⟩) (h:newBox W cs K) :
 Stepped P tab R W H Tc o K:=by
 have hl:=(wrs_all2.1 hx).length
 refine step_new rh hp (h:K _ _ _) ha ?_ (by simp [rootO]) trivial (λ_ h=>by cases h) ?_
 ·refine .box (by rw [rh.nx];exact Nat.lt_succ_self _) rfl λ_=>?_
  rw [rh.nx]
  show _=AV.pt ((R.add H.next _).ob R.nx) 1 0 0
  rw [show (R.add H.next (.pt H.next 1 0 0)).ob R.nx=H.next from upd_at _ _ _]
 ·refine ⟨xs,0,?_,hx.mono (Rn.add_le _ _),Nat.zero_le _,λ_=>rfl⟩
  rw [show (R.add H.next (.pt H.next 1 0 0)).ob R.nx=H.next from upd_at _ _ _,hl]
  exact (look_put _ _ _ _).trans (by rw [if_pos rfl])
theorem beq_of_bif {b:Bool} {X:Prop} (h:bif b then X else False):b=true/\X:=by
 grind
theorem chunks_ok {cs:List WV} {xs:List AV} (h:WRs R cs xs) (s:Nat):∀k:Nat,WRss R (chunksW s k cs) (chunks s k xs):=by
 intro k
 induction k generalizing cs xs with
 |zero=>exact .nil
 |succ k ih=>exact .cons (wrs_all2.2 ((wrs_all2.1 h).take s)) (ih (wrs_all2.2 ((wrs_all2.1 h).drop s)))
theorem chunks_lens {cs:List WV} {s:Nat}:∀{k:Nat},cs.length=k*s->(∀e∈chunksW s k cs,e.length=s)/\(chunksW s k cs).length=k:=by
 intro k
 induction k generalizing cs with
 |zero=>intro _;exact ⟨λe he=>(by cases he),rfl⟩
 |succ k ih=>
  intro hl
  rw [Nat.succ_mul] at hl
  obtain ⟨a,b⟩:=ih (cs:=cs.drop s) (by grind)
  refine ⟨λe he=>?_,by simp [chunksW,b]⟩
  rcases List.mem_cons.1 he with rfl | he
  ·grind
  grind
theorem newArr_sound (rh:RelH R W H) (hp:isPlain o) {cs:List WV} {xs:List AV} {m s:Nat} (hx:WRs R cs xs) (hl:cs.length=m*s)
 (ha:aop tab (look Tc) H H.next o=some ⟨.pt H.next m 0 0,.loc [] [(H.next,.cells (chunks s m xs) s 0)] 1⟩) (h:newArr W (chunksW s m cs) s K):Stepped P tab R W H Tc o K:=by
 obtain ⟨c1,c2⟩:=chunks_lens hl
 have hw:=chunks_ok hx s m
 have hxl:(chunks s m xs).length=m:=by rw [<-All2.length hw,c2]
 refine step_newY (x:=.sl H.next m 0 m (some m)) rh (λ_ _ h=>h) rh hp (h:K _ _ _) ha ?_ (by simp [rootO]) ?_ (λ_ h=>by cases h) ?_
 ·refine .elt (by rw [rh.nx];exact Nat.lt_succ_self _) rfl λ_=>⟨m,some m,?_,?_⟩
  ·rw [rh.nx]
   rw [show (R.add H.next (.sl H.next m 0 m (some m))).av R.nx=_ from upd_at _ _ _,show (R.add H.next (.sl H.next m 0 m (some m))).ob R.nx=_ from upd_at _ _ _]
  ·rw [rh.nx]
   rw [show (R.add H.next (.sl H.next m 0 m (some m))).ob R.nx=_ from upd_at _ _ _]
 ·show (R.add _ _).av R.nx≠nilA
  rw [show (R.add H.next (.sl H.next m 0 m (some m))).av R.nx=_ from upd_at _ _ _]
  intro e;cases e
 ·refine ⟨c1,.inr ⟨m,some m,chunks s m xs,0,?_,?_,hxl,WRss.mono (Rn.add_le _ _) hw,.inr rfl,Nat.zero_le _,λ_=>rfl⟩⟩
  ·rw [show (R.add H.next (.sl H.next m 0 m (some m))).av R.nx=_ from upd_at _ _ _,show (R.add H.next (.sl H.next m 0 m (some m))).ob R.nx=_ from upd_at _ _ _]
  ·rw [show (R.add H.next (.sl H.next m 0 m (some m))).ob R.nx=_ from upd_at _ _ _]
   exact (look_put _ _ _ _).trans (by rw [if_pos rfl])
theorem alloc_sound (rh:RelH R W H) {t:TypeId} (ho:o.op=.alloc t) (h:allocW tab W K t):Stepped P tab R W H Tc o K:=by
 have hp:isPlain o:=plain_op (λc hc=>by grind) (λx hc=>by grind)
 unfold allocW at h
 split at h
 ·rename_i d hd
  split at h
  ·rename_i m e hk
   split at h
   ·rename_i de hde
    obtain ⟨hb,h⟩:=beq_of_bif h
    refine newArr_sound rh hp (zero_ok d).wrs (Nat.eq_of_beq_eq_true hb) ?_ h
    have hl:=(prs_all2.1 (zero_ok d)).length
    simp only [aop,ho,hd,newVarA,hk,hde]
    rw [if_pos (by simp_all)]
   grind
  ·rename_i hk
   refine newBox_sound rh hp (zeroN_ok d 0).wrs ?_ h
   simp only [aop,ho,hd,newVarA,hk]
  ·rename_i hk
   refine newBox_sound rh hp (zero_ok d).wrs ?_ h
   simp only [aop,ho,hd,newVarA]
 grind
theorem bind_some {α β:Type} {x:Option α} {f:α->Option β} {b:β} (h:x.bind f=some b):∃a,x=some a/\f a=some b:=by
 cases x with
 |none=>cases h
 |some a=>grind
theorem box_sound (rt:RelT R T Tc) (rh:RelH R W H) {t:TypeId} {x:Operand} (ho:o.op=.box t x) (h:boxW tab T W K t x):Stepped P tab R W H Tc o K:=by
 have hp:isPlain o:=plain_op (λc hc=>by grind) (λx hc=>by grind)
 unfold boxW at h
 split at h
 ·rename_i d cs hd hcs
  obtain ⟨v,hv,hc⟩:=bind_some hcs
  obtain ⟨y,hy,hr⟩:=ev_ok rt hv
  obtain ⟨xs,hxs,hrs⟩:=cells_ok hr hc
  split at h
  ·grind
  ·rename_i hk
   obtain ⟨hb,h⟩:=beq_of_bif h
   have hl:xs.length=d.size:=by rw [<-(wrs_all2.1 hrs).length];simp_all
   refine newBox_sound rh hp hrs ?_ h
   simp only [aop,ho,hd,hy,hxs,if_pos hl,newVarA]
 grind
theorem mapO_ok (rt:RelT R T Tc):∀{l:List (Nat×Operand)} {ps:List (Nat×WV)},mapO (λp:Nat×Operand=>(evW T p.2).map λv=>(p.1,v)) l=some ps->
 ∃qs,mapOpt (λp:Nat×Operand=>(aev (look Tc) p.2).map λv=>(p.1,v)) l=some qs/\All2 (λa b=>a.1=b.1/\WR R a.2 b.2) ps qs
 |[],_,h=>by cases h;exact ⟨[],rfl,.nil⟩
 |p::l,ps,h=>by
  simp only [mapO] at h
  split at h
  ·cases h
  ·rename_i a ha
   split at h
   ·cases h
   ·rename_i bs hbs
    cases h
    cases hv:evW T p.2 with
    |none=>rw [hv] at ha;cases ha
    |some v=>
     rw [hv] at ha
     cases ha
     obtain ⟨y,hy,hr⟩:=ev_ok rt hv
     obtain ⟨qs,hq,hqr⟩:=mapO_ok rt hbs
     exact ⟨(p.1,y)::qs,by simp [mapOpt,hy,hq],.cons ⟨rfl,hr⟩ hqr⟩
theorem fill_ok {place:Nat->Option (Nat×Nat)}:∀{ps:List (Nat×WV)} {qs:List (Nat×AV)} {cs cs':List WV} {xs:List AV},All2 (λa b=>a.1=b.1/\WR R a.2 b.2) ps qs->WRs R cs xs->fillW place ps cs=some cs'->
 ∃xs',fillParts place xs qs=some xs'/\WRs R cs' xs'
 |_,_,cs,cs',xs,.nil,hx,h=>by cases h;exact ⟨xs,rfl,hx⟩
 |(i,v)::ps,(j,y)::qs,cs,cs',xs,.cons hh hs,hx,h=>by
  obtain ⟨rfl,hr⟩:=hh
  simp only [fillW] at h
  split at h
  ·rename_i off size new hpl hc
   obtain ⟨ys,hy,hyr⟩:=cells_ok hr hc
   cases hb:(Nat.beq new.length size&&Nat.ble (off+size) cs.length) with
   |false=>grind
   |true=>
    rw [hb] at h
    simp only [Bool.and_eq_true] at hb
    have h1:ys.length=size:=by rw [<-(wrs_all2.1 hyr).length];simp_all
    have h2:off+size<=xs.length:=by rw [<-(wrs_all2.1 hx).length];simp_all
    obtain ⟨xs',h3,h4⟩:=fill_ok hs (splice_ok hx off hyr) h
    refine ⟨xs',?_,h4⟩
    simp only [fillParts,hpl,hy]
    grind
  ·cases h
theorem set_ok {s:Nat}:∀{ps:List (Nat×WV)} {qs:List (Nat×AV)} {cs cs':List (List WV)} {xs:List (List AV)},All2 (λa b=>a.1=b.1/\WR R a.2 b.2) ps qs->WRss R cs xs->(∀e∈cs,e.length=s)->setW s ps cs=some cs'->
 ∃xs',setParts s xs qs=some xs'/\WRss R cs' xs'/\(∀e∈cs',e.length=s)/\cs'.length=cs.length
 |_,_,cs,cs',xs,.nil,hx,hs,h=>by cases h;exact ⟨xs,rfl,hx,hs,rfl⟩
 |(i,v)::ps,(j,y)::qs,cs,cs',xs,.cons hh hss,hx,hs,h=>by
  obtain ⟨rfl,hr⟩:=hh
  simp only [setW] at h
  split at h
  ·rename_i new hc
   obtain ⟨ys,hy,hyr⟩:=cells_ok hr hc
   cases hb:(Nat.beq new.length s&&Nat.blt i cs.length) with
   |false=>grind
   |true=>
    rw [hb] at h
    simp only [Bool.and_eq_true] at hb
    have h0:new.length=s:=Nat.eq_of_beq_eq_true hb.1
    have h1:ys.length=s:=by rw [<-(wrs_all2.1 hyr).length];exact h0
    have h2:i<xs.length:=by rw [<-All2.length hx];simp_all
    obtain ⟨xs',h3,h4,h5,h6⟩:=set_ok hss (All2.set hx i hyr) (λe he=>by
     grind) h
    refine ⟨xs',?_,h4,h5,by grind⟩
    simp only [setParts,hy]
    grind
  ·cases h
theorem fillC_ok {place:Nat->Option (Nat×Nat)}:∀{ps:List (Nat×WV)} {cells:List WV} {K:List WV->Prop},fillC place ps cells K->∃cs,fillW place ps cells=some cs/\K cs
 |[],cells,K,h=>⟨cells,rfl,h⟩
 |(i,v)::rest,cells,K,h=>by
  unfold fillC at h
  unfold fillW
  split at h
  ·rename_i off size cs hp hc
   cases hb:(Nat.beq cs.length size&&Nat.ble (off+size) cells.length) with
   |false=>rw [hb] at h;exact h.elim
   |true=>
    rw [hb] at h
    simp only [cond_true] at h
    rw [forceC_eq] at h
    simp only [hb,cond_true]
    exact fillC_ok h
  ·exact h.elim
theorem build_sound (rt:RelT R T Tc) (rh:RelH R W H) {t:TypeId} {parts:Array (Nat×Operand)} (ho:o.op=.build t parts) (h:buildW tab T W K t parts):Stepped P tab R W H Tc o K:=by
 have hp:isPlain o:=plain_op (λc hc=>by grind) (λx hc=>by grind)
 unfold buildW at h
 split at h
 ·rename_i d ps hd hps
  obtain ⟨qs,hq,hqr⟩:=mapO_ok rt hps
  split at h
  ·rename_i fs hk
   split at h
   ·rename_i cs hcs
    have hz:PRs (bif rawB t ps then zeroN d 6 else zeroW d) (d.zero.map .sc):=by
     grind [zero_ok,zeroN_ok]
    obtain ⟨xs,hx,hxr⟩:=fill_ok hqr hz.wrs hcs
    refine step_quiet rh hp h ?_ (.agg hxr)
    unfold placeW at hx
    simp only [aop,ho,hd,hq,hk,hx]
   grind
  ·rename_i m e hk
   split at h
   ·rename_i de hde
    obtain ⟨cs,hcs,h⟩:=fillC_ok h
    obtain ⟨xs,hx,hxr⟩:=fill_ok hqr (zero_ok d).wrs hcs
    refine step_quiet rh hp h ?_ (.agg hxr)
    simp only [aop,ho,hd,hq,hk,hde,hx]
   grind
  grind
 grind
theorem rows_sound (rt:RelT R T Tc) (rh:RelH R W H) {t:TypeId} {len:Nat} {parts:Array (Nat×Operand)} (ho:o.op=.buildSlice t len parts) (h:rowsW tab T W K t len parts):Stepped P tab R W H Tc o K:=by
 have hp:isPlain o:=plain_op (λc hc=>by grind) (λx hc=>by grind)
 unfold rowsW at h
 split at h
 ·rename_i de ps hd hps
  obtain ⟨d,hd1,hd2⟩:=bind_some hd
  obtain ⟨qs,hq,hqr⟩:=mapO_ok rt hps
  split at h
  ·rename_i es hes
   obtain ⟨hb,h⟩:=beq_of_bif h
   simp only [Bool.and_eq_true,Bool.not_eq_true'] at hb
   obtain ⟨⟨b1,b2⟩,b3⟩:=hb
   have c1:de.zero.length=de.size:=Nat.eq_of_beq_eq_true b1
   have c2:de.size≠0:=Nat.ne_of_beq_eq_false b2
   have c3:len*de.size<=2 ^ 20:=Nat.le_of_ble_eq_true b3
   obtain ⟨xs,hx,hxr,hxl,hlen⟩:=set_ok hqr (All2.replicate len (zero_ok de).wrs) (λe he=>by
    rw [(List.mem_replicate.1 he).2]
    simp [zeroW,c1]) hes
   have hlx:xs.length=len:=by grind [All2.length]
   unfold elemD at hd2
   split at hd2
   ·rename_i te hk
    refine step_new rh hp (h:K _ _ _) (x:=.sl H.next len 0 len (some len)) (ao:=.cells xs de.size 0) (rd:=[]) ?_ ?_ (by simp [rootO]) ?_ (λ_ h=>by cases h) ?_
    ·simp only [aop,ho,hd1,hq,hk,hd2]
     rw [if_pos ⟨c3,c1,c2⟩,hx]
    ·refine .row (by rw [rh.nx];exact Nat.lt_succ_self _) rfl λ_=>?_
     rw [rh.nx]
     exact (upd_at _ _ _).symm
    ·show (R.add _ _).av R.nx≠nilA
     rw [show (R.add H.next (.sl H.next len 0 len (some len))).av R.nx=_ from upd_at _ _ _]
     intro e;cases e
    ·refine ⟨hxl,.inr ⟨len,some len,xs,0,?_,?_,hlx,WRss.mono (Rn.add_le _ _) hxr,.inr rfl,Nat.zero_le _,λ_=>rfl⟩⟩
     ·rw [show (R.add H.next (.sl H.next len 0 len (some len))).av R.nx=_ from upd_at _ _ _,show (R.add H.next (.sl H.next len 0 len (some len))).ob R.nx=_ from upd_at _ _ _]
     ·rw [show (R.add H.next (.sl H.next len 0 len (some len))).ob R.nx=_ from upd_at _ _ _]
      exact (look_put _ _ _ _).trans (by rw [if_pos rfl])
   grind
  grind
 grind
end Go.Abs
end
section
namespace Go.Abs
variable {P:Program} {tab:Tab} {R:Rn} {T:WT} {W:WH} {H:Heap} {Tc:TL} {o:Oper} {K:WK}
theorem give_some {e:WE} {v:Option WV} (h:giveW W K e v):∃x,v=some x/\K x W e:=by
 unfold giveW at h
 grind
theorem RelH.box_obj (rh:RelH R W H) {n:Nat} {cs:List WV} {fz:Bool} (h:lk W.objs n=some (.box cs fz)):R.al n/\∃xs fz',look H.objs (R.ob n)=some (.cells [xs] cs.length fz')/\WRs R cs xs/\fz'<=1/\(fz=false->fz'=0):=(rh.obj n _ h).2
theorem RelH.row_obj (rh:RelH R W H) {n:Nat} {es:List (List WV)} {s rt:Nat} {fz:Bool} (h:lk W.objs n=some (.row es s fz rt)):R.al n/\(∀e∈es,e.length=s)/\RowR R H n es s fz:=
 let ⟨_,h2,h3⟩:=rh.obj n _ h;⟨h2,h3.1,h3.2⟩
theorem take_drop_ok {cs:List WV} {xs:List AV} (h:WRs R cs xs) (n k:Nat):WRs R (takeW n (dropW k cs)) ((xs.drop k).take n):=by
 rw [takeW_eq,dropW_eq]
 exact wrs_all2.2 (((wrs_all2.1 h).drop k).take n)
theorem flat_ok {es:List (List WV)} {xs:List (List AV)} (h:WRss R es xs):WRs R es.flatten xs.flatten:=by
 induction h with
 |nil=>exact .nil
 |cons h _ ih=>
  rw [List.flatten_cons,List.flatten_cons]
  exact wrs_all2.2 ((wrs_all2.1 h).append (wrs_all2.1 ih))
theorem load_sound (rt:RelT R T Tc) (rh:RelH R W H) {t:TypeId} {a:Operand} (ho:o.op=.load t a) (h:loadW tab T W K t a):Stepped P tab R W H Tc o K:=by
 have hp:isPlain o:=plain_op (λc hc=>by grind) (λx hc=>by grind)
 unfold loadW at h
 split at h
 ·rename_i d cs hd ha
  obtain ⟨v,hv,h⟩:=give_some h
  obtain ⟨y,hy,hr⟩:=ev_ok rt ha
  obtain ⟨xs,rfl,hx⟩:=hr.ipt_inv
  rw [takeW_eq] at hv
  have hxt:WRs R (cs.take d.size) (xs.take d.size):=wrs_all2.2 ((wrs_all2.1 hx.wrs).take _)
  obtain ⟨x,hx1,hx2⟩:=ofCells_ok hxt hv
  have hle:d.size<=xs.length:=by
   have:(xs.take d.size).length=d.size:=by
    unfold ofCells at hx1
    grind
   grind
  refine step_quiet rh hp h ?_ hx2
  simp only [aop,ho,hd,hy,loadA,readAt]
  rw [if_pos hle]
  simp only [hx1]
  rfl
 ·rename_i d n fo hd ha
  unfold loadBox at h
  split at h
  ·rename_i cs fz hcs
   obtain ⟨hb,h⟩:=beq_of_bif h
   obtain ⟨v,hv,h⟩:=give_some h
   obtain ⟨y,hy,hr⟩:=ev_ok rt ha
   obtain ⟨hal,xs,fz',hlook,hx,_⟩:=rh.box_obj hcs
   obtain rfl:=hr.box_inv.2.2 hal
   obtain ⟨x,hx1,hx2⟩:=ofCells_ok (take_drop_ok hx d.size fo) hv
   have hle:fo+d.size<=cs.length:=Nat.le_of_ble_eq_true hb
   refine step_read (rd:=[R.ob n]) rh hp h ?_ hx2 (λm hm=>?_)
   ·simp only [aop,ho,hd,hy,loadA,readAt,hlook,List.length_cons,List.length_nil,Nat.zero_add,if_true,List.getElem?_cons_zero]
    grind
   ·simp only [List.mem_singleton] at hm
    subst hm
    exact ⟨n,_,hcs,trivial,rfl,.inl (by simp [rootO])⟩
  grind
 ·rename_i d n i fo hd ha
  cases hA:isArr d with
  |true=>
   rw [hA] at h
   simp only [cond_true] at h
   unfold loadArr at h
   split at h
   ·rename_i es s fz rt' hes
    obtain ⟨hb,hB⟩:=beq_of_bif h
    clear h
    have h:=hB
    clear hB
    simp only [Bool.and_eq_true] at hb
    obtain ⟨⟨⟨b1,b2⟩,b3⟩,b4⟩:=hb
    obtain rfl:=Nat.eq_of_beq_eq_true b1
    obtain rfl:=Nat.eq_of_beq_eq_true b2
    have b3:d.size=es.length*s:=Nat.eq_of_beq_eq_true b3
    have b4:s<d.size:=Nat.le_of_ble_eq_true b4
    obtain ⟨v,hv,h⟩:=give_some h
    obtain ⟨y,hy,hr⟩:=ev_ok rt ha
    obtain ⟨hal,hlen,hrow⟩:=rh.row_obj hes
    obtain ⟨g,cap,hav,rfl⟩:=hr.elt_inv.2.2 hal
    rcases hrow with ⟨h1,_⟩ | ⟨g',cap',xs,fz',h1,hlook,hg,hx,_⟩
    ·grind
    rw [hav] at h1
    cases h1
    have hgl:g=es.length:=by rw [All2.length hx,hg]
    obtain ⟨x,hx1,hx2⟩:=ofCells_ok (flat_ok hx) hv
    have hfl:xs.flatten.length=d.size:=by
     unfold ofCells at hx1
     grind
    have hne:0<xs.length:=by
     grind
    refine step_read (rd:=[R.ob n]) rh hp h ?_ hx2 (λm hm=>?_)
    ·simp only [aop,ho,hd,hy,loadA,readAt,hlook]
     grind
    ·simp only [List.mem_singleton] at hm
     subst hm
     exact ⟨n,_,hes,(show R.av n≠nilA by rw [hav];intro e;cases e),rfl,.inl (by simp [rootO])⟩
   grind
  |false=>
  rw [hA] at h
  simp only [cond_false] at h
  unfold loadElt at h
  split at h
  ·rename_i es s fz rt' hes
   obtain ⟨cs,hcs,h⟩:=h
   obtain ⟨hb,h⟩:=beq_of_bif h
   obtain ⟨v,hv,h⟩:=give_some h
   obtain ⟨y,hy,hr⟩:=ev_ok rt ha
   obtain ⟨hal,hlen,hrow⟩:=rh.row_obj hes
   obtain ⟨g,cap,hav,rfl⟩:=hr.elt_inv.2.2 hal
   rcases hrow with ⟨h1,_⟩ | ⟨g',cap',xs,fz',h1,hlook,hg,hx,_⟩
   ·grind
   rw [hav] at h1
   cases h1
   obtain ⟨x0,hx0,hx0r⟩:=All2.get hx hcs
   obtain ⟨x,hx1,hx2⟩:=ofCells_ok (take_drop_ok hx0r d.size fo) hv
   have hle:fo+d.size<=s:=Nat.le_of_ble_eq_true hb
   refine step_read (rd:=[R.ob n]) rh hp h ?_ hx2 (λm hm=>?_)
   ·simp only [aop,ho,hd,hy,loadA,readAt,hlook]
    grind
   ·simp only [List.mem_singleton] at hm
    subst hm
    exact ⟨n,_,hes,(show R.av n≠nilA by rw [hav];intro e;cases e),rfl,.inl (by simp [rootO])⟩
  grind
 grind
theorem relH_set (rh:RelH R W H) {n:Nat} {wo wo':WO} {H':Heap} (hn:lk W.objs n=some wo) (hh:hasO R n wo) (hH:∀m,m≠R.ob n->look H'.objs m=look H.objs m) (hf:∀m,H'.next<=m->look H'.objs m=none)
 (hk:hasO R n wo' ) (ho:ObjR R H' n wo'):RelH R ⟨(n,wo')::W.objs,W.nx⟩ H':=by
 have old:∀{m:Nat} {o:WO},lk ((n,wo')::W.objs) m=some o->m≠n->lk W.objs m=some o:=λ{m o} h hne=>by
  grind [lk_cons]
 have at_:∀{m:Nat} {o:WO},lk ((n,wo')::W.objs) m=some o->hasO R m o->∃p,lk W.objs m=some p/\hasO R m p:=λ{m o} h q=>by
  grind
 refine ⟨rh.nx,λm o h=>?_,λm k o p h1 h2 h3 h4 e=>?_,hf⟩
 ·by_cases hne:m=n
  ·subst hne
   rw [lk_cons,if_pos rfl] at h
   cases h
   obtain ⟨q1,q2,_⟩:=rh.obj m _ hn
   grind
  ·have h':=old h hne
   obtain ⟨q1,q2,q3⟩:=rh.obj m o h'
   exact ⟨q1,q2,q3.move (Rn.Le.refl R) rfl rfl λq=>hH _ λe=>hne (rh.inj m n _ _ h' hn q hh e)⟩
 ·obtain ⟨o',a1,a2⟩:=at_ h1 h3
  obtain ⟨p',b1,b2⟩:=at_ h2 h4
  exact rh.inj m k _ _ a1 b1 a2 b2 e
theorem step_set {wo wo':WO} {ao:AO} {n:Nat} {e:WE} {v:WV} {x:AV} (rh:RelH R W H) (hp:isPlain o) (hn:lk W.objs n=some wo) (hh:hasO R n wo) (hk:K v ⟨(n,wo')::W.objs,W.nx⟩ e)
 (h:aop tab (look Tc) H H.next o=some ⟨x,.loc [R.ob n] [(R.ob n,ao)] 0⟩) (hv:WR R v x) (hr:rootO n wo∈e.wr) (hrr:rootO n wo'=rootO n wo) (hh':hasO R n wo')
 (ho:ObjR R (H.apply (.loc [R.ob n] [(R.ob n,ao)] 0)) n wo'):Stepped P tab R W H Tc o K:=by
 have hlt:=rh.ob_lt hn hh
 have hl:∀m,look (H.apply (.loc [R.ob n] [(R.ob n,ao)] 0)).objs m=if R.ob n=m then some ao else look H.objs m:=λm=>look_put _ _ _ _
 refine ⟨v,_,e,hk,.none,x,_,R,stepOK_aop hp h,?_,Rn.Le.refl R,hv,?_,?_⟩
 ·obtain ⟨p,hp⟩:=rh.ob_look hn hh
  simp [okEff,hp]
 ·refine relH_set rh hn hh (λm hm=>by rw [hl,if_neg (λe=>hm e.symm)]) (λm hm=>?_) hh' ho
  simp only [Heap.apply] at hm
  rw [hl,if_neg (by omega)]
  exact rh.fresh m (by omega)
 ·intro ow how
  have howr:=how n wo hn hh
  refine ⟨ow,λ_ _=>rfl,λm o' h1 h2=>?_,λm hm=>?_,λp hp=>?_⟩
  ·rw [lk_cons] at h1
   by_cases hne:n=m
   ·subst hne
    rw [if_pos rfl] at h1
    cases h1
    rw [howr,hrr]
   ·rw [if_neg hne] at h1
    exact how m o' h1 h2
  ·simp only [List.mem_singleton] at hm
   subst hm
   exact ⟨by simp [Heap.apply];omega,.inr (by grind)⟩
  ·simp only [List.mem_singleton] at hp
   subst hp
   exact ⟨by simp [Heap.apply];omega,by grind⟩
theorem store_sound (rt:RelT R T Tc) (rh:RelH R W H) {t:TypeId} {a x:Operand} (ho:o.op=.store t a x) (h:storeW tab T W K t a x):Stepped P tab R W H Tc o K:=by
 have hp:isPlain o:=plain_op (λc hc=>by grind) (λx hc=>by grind)
 unfold storeW at h
 split at h
 ·rename_i d n fo new hd ha hnew
  unfold storeBox at h
  split at h
  ·rename_i cs hcs
   obtain ⟨hb,h⟩:=beq_of_bif h
   rw [forceC_eq] at h
   have h:K undefW ⟨(n,.box (spliceW cs fo new) false)::W.objs,W.nx⟩ ⟨[],[n]⟩:=h
   simp only [Bool.and_eq_true] at hb
   obtain ⟨⟨b1,b2⟩,b3⟩:=hb
   obtain ⟨v,hv,hc⟩:=bind_some hnew
   obtain ⟨z,hz,hzr⟩:=ev_ok rt hv
   obtain ⟨ys,hys,hyr⟩:=cells_ok hzr hc
   obtain ⟨y,hy,hr⟩:=ev_ok rt ha
   obtain ⟨hal,xs,fz',hlook,hx,_,hz0⟩:=rh.box_obj hcs
   obtain rfl:=hz0 rfl
   obtain rfl:=hr.box_inv.2.2 hal
   have hln:new.length=d.size:=Nat.eq_of_beq_eq_true b1
   have c1:ys.length=d.size:=by rw [<-(wrs_all2.1 hyr).length];exact hln
   have c2:fo+d.size<=cs.length:=Nat.le_of_ble_eq_true b2
   have c3:=storables_of b3 hyr
   refine step_set (wo':=.box (spliceW cs fo new) false) (ao:=.cells [splice xs fo ys] cs.length 0) rh hp hcs trivial h ?_ (.pure .sc) (by simp [rootO]) rfl trivial ?_
   ·simp only [aop,ho,hd,hy,hz,storeA,hys,hlook,List.length_cons,List.length_nil,Nat.zero_add]
    rw [if_pos ⟨trivial,c1,c3,Nat.zero_le _⟩]
    simp only [List.getElem?_cons_zero]
    rw [if_pos c2]
    rfl
   ·have hlen:(spliceW cs fo new).length=cs.length:=by
     grind [spliceW_eq,List.length_append,List.length_take,List.length_drop]
    refine ⟨splice xs fo ys,0,?_,splice_ok hx fo hyr,Nat.zero_le _,λ_=>rfl⟩
    rw [hlen]
    exact (look_put _ _ _ _).trans (by rw [if_pos rfl])
  grind
 ·rename_i d n i fo new hd ha hnew
  cases hA:isArr d with
  |true=>
   rw [hA] at h
   simp only [cond_true] at h
   unfold storeArr at h
   split at h
   ·rename_i es s rt' hes
    obtain ⟨hb,hB⟩:=beq_of_bif h
    clear h
    have h:=hB
    clear hB
    rw [forceC_eq] at h
    simp only [Bool.and_eq_true] at hb
    obtain ⟨⟨⟨⟨⟨⟨b1,b2⟩,b3⟩,b4⟩,b5⟩,b6⟩,b7⟩:=hb
    obtain rfl:=Nat.eq_of_beq_eq_true b1
    obtain rfl:=Nat.eq_of_beq_eq_true b2
    have b4:d.size=es.length*s:=Nat.eq_of_beq_eq_true b4
    have b5:s<d.size:=Nat.le_of_ble_eq_true b5
    have b6:0<s:=Nat.le_of_ble_eq_true b6
    obtain ⟨v,hv,hc⟩:=bind_some hnew
    obtain ⟨z,hz,hzr⟩:=ev_ok rt hv
    obtain ⟨ys,hys,hyr⟩:=cells_ok hzr hc
    obtain ⟨y,hy,hr⟩:=ev_ok rt ha
    obtain ⟨hal,hlen,hrow⟩:=rh.row_obj hes
    obtain ⟨g,cap,hav,rfl⟩:=hr.elt_inv.2.2 hal
    rcases hrow with ⟨h1,_⟩ | ⟨g',cap',xs,fz',h1,hlook,hg,hx,hcap,hfg,hfz⟩
    ·grind
    have h1':=h1
    rw [hav] at h1'
    cases h1'
    obtain rfl:=hfz rfl
    have hgl:g=es.length:=by rw [All2.length hx,hg]
    have hln:new.length=d.size:=Nat.eq_of_beq_eq_true b3
    have c1:ys.length=d.size:=by rw [<-(wrs_all2.1 hyr).length];exact hln
    have c3:=storables_of b7 hyr
    have hne:0<xs.length:=by
     grind
    have hdv:d.size / s=es.length:=by rw [b4,Nat.mul_div_cancel _ b6]
    obtain ⟨l1,l2⟩:=chunks_lens (cs:=new) (s:=s) (k:=es.length) (by rw [hln,b4])
    have hw:=chunks_ok hyr s es.length
    have hh:hasO R n (.row es s false rt'):=by intro e;rw [hav] at e;cases e
    refine step_set (wo':=.row (chunksW s es.length new) s false rt') (ao:=.cells (chunks s es.length ys) s 0) rh hp hes hh h ?_ (.pure .sc) (by simp [rootO]) rfl hh ?_
    ·simp only [aop,ho,hd,hy,hz,storeA,hys,hlook]
     rw [if_pos ⟨hg,c1,c3,Nat.zero_le _⟩,List.getElem?_eq_getElem hne]
     simp only []
     rw [if_neg (by omega),if_pos ⟨trivial,by omega,by rw [b4,Nat.mul_mod_left],by omega⟩,hdv]
     have e1:xs.drop (0+es.length)=[]:=List.drop_eq_nil_of_le (by omega)
     rw [e1,List.take_zero,List.nil_append,List.append_nil]
     rfl
    ·refine ⟨l1,.inr ⟨g,cap,chunks s es.length ys,0,hav,(look_put _ _ _ _).trans (by rw [if_pos rfl]),by rw [<-All2.length hw,l2,hgl],hw,hcap,Nat.zero_le _,λ_=>rfl⟩⟩
   grind
  |false=>
  rw [hA] at h
  simp only [cond_false] at h
  unfold storeElt at h
  split at h
  ·rename_i es s rt' hes
   obtain ⟨cs,hcs,h⟩:=h
   obtain ⟨hb,h⟩:=beq_of_bif h
   simp only [Bool.and_eq_true] at hb
   obtain ⟨⟨b1,b2⟩,b3⟩:=hb
   obtain ⟨zs,rfl,h⟩:=h
   obtain ⟨v,hv,hc⟩:=bind_some hnew
   obtain ⟨z,hz,hzr⟩:=ev_ok rt hv
   obtain ⟨ys,hys,hyr⟩:=cells_ok hzr hc
   obtain ⟨y,hy,hr⟩:=ev_ok rt ha
   obtain ⟨hal,hlen,hrow⟩:=rh.row_obj hes
   obtain ⟨g,cap,hav,rfl⟩:=hr.elt_inv.2.2 hal
   rcases hrow with ⟨h1,_⟩ | ⟨g',cap',xs,fz',h1,hlook,hg,hx,hcap,hfg,hfz⟩
   ·grind
   have h1':=h1
   rw [hav] at h1'
   cases h1'
   obtain rfl:=hfz rfl
   obtain ⟨x0,hx0,hx0r⟩:=All2.get hx hcs
   have hln:new.length=d.size:=Nat.eq_of_beq_eq_true b1
   have c1:ys.length=d.size:=by rw [<-(wrs_all2.1 hyr).length];exact hln
   have c2:fo+d.size<=s:=Nat.le_of_ble_eq_true b2
   have c3:=storables_of b3 hyr
   have hcl:cs.length=s:=hlen cs (List.mem_of_getElem? hcs)
   have hh:hasO R n (.row es s false rt'):=by intro e;rw [hav] at e;cases e
   refine step_set (wo':=.row (es.set i (spliceW cs fo new)) s false rt') (ao:=.cells (xs.set i (splice x0 fo ys)) s 0) rh hp hes hh h ?_ (.pure .sc) (by simp [rootO]) rfl hh ?_
   ·simp only [aop,ho,hd,hy,hz,storeA,hys,hlook]
    rw [if_pos ⟨hg,c1,c3,Nat.zero_le _⟩,hx0]
    simp only []
    rw [if_pos c2]
    rfl
   ·refine ⟨λe he=>?_,.inr ⟨g,cap,xs.set i (splice x0 fo ys),0,hav,(look_put _ _ _ _).trans (by rw [if_pos rfl]),by grind,All2.set hx i (splice_ok hx0r fo hyr),hcap,Nat.zero_le _,λ_=>rfl⟩⟩
    grind [List.mem_or_eq_of_mem_set,spliceW_eq,List.length_append,List.length_take,List.length_drop]
  grind
 grind
theorem alive_al (rh:RelH R W H) {n:Nat} (h:aliveB W n=true):R.al n:=by
 unfold aliveB at h
 split at h
 ·rename_i o ho;exact (rh.obj n o ho).2.1
 ·cases h
theorem nil_sound (rt:RelT R T Tc) (rh:RelH R W H) {x:Operand} (ho:o.op=.nilCheck x) (h:nilW' T W K x):Stepped P tab R W H Tc o K:=by
 have hp:isPlain o:=plain_op (λc hc=>by grind) (λx hc=>by grind)
 unfold nilW' at h
 split at h
 ·rename_i cs hx
  obtain ⟨y,hy,hr⟩:=ev_ok rt hx
  have hr':=hr
  obtain ⟨xs,rfl,_⟩:=hr.ipt_inv
  exact step_quiet rh hp h (by simp [aop,ho,hy]) hr'
 ·rename_i n fo hx
  obtain ⟨hb,h⟩:=beq_of_bif h
  obtain ⟨y,hy,hr⟩:=ev_ok rt hx
  have hr':=hr
  obtain rfl:=hr.box_inv.2.2 (alive_al rh hb)
  exact step_quiet rh hp h (by simp [aop,ho,hy]) hr'
 ·rename_i n i fo hx
  obtain ⟨hb,h⟩:=beq_of_bif h
  obtain ⟨y,hy,hr⟩:=ev_ok rt hx
  have hr':=hr
  obtain ⟨g,cap,_,rfl⟩:=hr.elt_inv.2.2 (alive_al rh hb)
  exact step_quiet rh hp h (by simp [aop,ho,hy]) hr'
 grind
theorem binOpA_int (op:BinOp) (t:TypeId) (c:Bool) (k j:IntKind) (a b:Int):binOpA tab op t c (.sc (.int k a)) (.sc (.int j b))=match pureVal (binOp op t (.int k a) (.int j b)) with | some v=>quiet (.sc v) | none=>none:=by
 cases op<;>rfl
theorem binOpA_add (t:TypeId) (c:Bool) (a b:ByteArray):binOpA tab .add t c (.sc (.string a)) (.sc (.string b))=if a.size+b.size<=2 ^ 60 then quiet (.sc (.string (a++b))) else none:=rfl
theorem binOpA_str (op:BinOp) (hop:op≠.add) (t:TypeId) (c:Bool) (a b:ByteArray):binOpA tab op t c (.sc (.string a)) (.sc (.string b))=match pureVal (Op.stringOp op a b) with | some v=>quiet (.sc v) | none=>none:=by
 cases op<;>first | rfl | grind
theorem binOpA_eql (t:TypeId) (c:Bool) (a b:Bool):binOpA tab .eql t c (.sc (.bool a)) (.sc (.bool b))=match tab t with | some d=>(match eqA d c (.sc (.bool a)) (.sc (.bool b)) with | some b=>quiet (.sc (.bool b)) | none=>none) | none=>none:=rfl
theorem binOpA_neq (t:TypeId) (c:Bool) (a b:Bool):binOpA tab .neq t c (.sc (.bool a)) (.sc (.bool b))=match tab t with | some d=>(match eqA d c (.sc (.bool a)) (.sc (.bool b)) with | some b=>quiet (.sc (.bool (!b))) | none=>none) | none=>none:=rfl
theorem map_some {α β:Type} {x:Option α} {f:α->β} {b:β} (h:x.map f=some b):∃a,x=some a/\f a=b:=by
 simp_all
theorem isBool_eq {d:TyD} (h:isBool d=true):d.k=.bool:=by
 unfold isBool at h
 grind
theorem hd_same {ks:List TyK} {cs ds:List WV} {xs ys:List AV} {vs ws:List Value} (h:fitsW ks cs ds=true) (hx:WRs R cs xs) (hy:WRs R ds ys) (e1:scs xs=some vs) (e2:scs ys=some ws) (e3:eqVals ks vs ws=some true):hdSame cs ds:=by
 unfold hdSame
 split
 ·rename_i v _ w _
  cases hx with
  |cons h1 hx=>
  cases hy with
  |cons h2 hy=>
  obtain rfl:=h1.sc_inv
  obtain rfl:=h2.sc_inv
  cases ks with
  |nil=>simp [fitsW] at h
  |cons k ks=>
   simp only [scs] at e1 e2
   split at e1
   ·split at e2
    ·cases e1;cases e2
     simp only [eqVals] at e3
     grind
    grind
   grind
 ·trivial
theorem fits_eq:∀{ks:List TyK} {cs ds:List WV} {xs ys:List AV},fitsW ks cs ds=true->WRs R cs xs->WRs R ds ys->∃vs ws b,scs xs=some vs/\scs ys=some ws/\eqVals ks vs ws=some b
 |[],[],[],_,_,_,.nil,.nil=>⟨[],[],true,rfl,rfl,rfl⟩
 |k::ks,.sc v::cs,.sc w::ds,_,_,h,.cons hx hxs,.cons hy hys=>by
  simp only [fitsW,Bool.and_eq_true] at h
  obtain rfl:=hx.sc_inv
  obtain rfl:=hy.sc_inv
  obtain ⟨vs,ws,b,e1,e2,e3⟩:=fits_eq h.2 hxs hys
  obtain ⟨c,hc⟩:=Option.isSome_iff_exists.1 h.1.2
  exact ⟨v::vs,w::ws,c&&b,by simp only [scs,e1],by simp only [scs,e2],by simp only [eqVals,h.1.1,hc,e3,if_true]⟩
theorem fits_self:∀{ks:List TyK} {cs:List WV} {xs ys:List AV} {vs ws:List Value},fitsW ks cs cs=true->WRs R cs xs->WRs R cs ys->scs xs=some vs->scs ys=some ws->eqVals ks vs ws=some true
 |[],[],_,_,_,_,_,.nil,.nil,h1,h2=>by cases h1;cases h2;rfl
 |k::ks,.sc v::cs,_,_,_,_,h,.cons hx hxs,.cons hy hys,h1,h2=>by
  simp only [fitsW,Bool.and_eq_true] at h
  obtain rfl:=hx.sc_inv
  obtain rfl:=hy.sc_inv
  obtain ⟨vs,ws,b,e1,e2,e3⟩:=fits_eq h.2 hxs hys
  simp only [scs,e1,e2] at h1 h2
  cases h1
  cases h2
  have hv:sameKey v v=some true:=by cases v<;>first | (simp [sameKey,ba_refl];done) | (have:=h.1.2;simp [sameKey] at this)
  simp only [eqVals,h.1.1,hv,fits_self h.2 hxs hys e1 e2,if_true,Bool.and_self]
theorem bin_sound (rt:RelT R T Tc) (rh:RelH R W H) {op:BinOp} {t u:TypeId} {x y:Operand} (ho:o.op=.binOp op t x y u) (h:binW tab T W K op t x y):Stepped P tab R W H Tc o K:=by
 have hp:isPlain o:=plain_op (λc hc=>by grind) (λx hc=>by grind)
 unfold binW at h
 split at h
 ·rename_i es ha hb
  obtain ⟨x1,hx1,hr1⟩:=ev_ok rt ha
  obtain ⟨x2,hx2,hr2⟩:=ev_ok rt hb
  obtain rfl:=hr2.sc_inv
  unfold nilB at h
  split at h
  ·rename_i hk
   obtain ⟨d,hd,hdk⟩:=map_some hk
   have hdk':∃e,d.k=.slice e:=by
    unfold isSlK at hdk
    grind
   obtain ⟨e,he⟩:=hdk'
   rcases hr1.lst_inv with ⟨rfl,rfl⟩ | ⟨xs,c,rfl,hx⟩
   ·exact step_quiet rh hp (h true λ_=>rfl) (by simp only [aop,ho,hx1,hx2,binOpA,hd,eqA,nilEq,he]) (.pure .sc)
   ·exact step_quiet rh hp (h false λe=>by cases e) (by simp only [aop,ho,hx1,hx2,binOpA,hd,eqA,nilEq,he]) (.pure .sc)
  grind
 ·rename_i cs ha hb
  obtain ⟨x1,hx1,hr1⟩:=ev_ok rt ha
  obtain ⟨x2,hx2,hr2⟩:=ev_ok rt hb
  obtain rfl:=hr2.sc_inv
  obtain ⟨ys,rfl,_⟩:=hr1.ipt_inv
  unfold ptrB at h
  split at h
  ·rename_i hk
   obtain ⟨d,hd,hdk⟩:=map_some hk
   exact step_quiet rh hp h (by simp only [aop,ho,hx1,hx2,binOpA,hd,eqA,nilEq,hdk]) (.pure .sc)
  ·rename_i hk
   obtain ⟨d,hd,hdk⟩:=map_some hk
   exact step_quiet rh hp h (by simp only [aop,ho,hx1,hx2,binOpA,hd,eqA,nilEq,hdk]) (.pure .sc)
  grind
 ·rename_i ha hb
  obtain ⟨x1,hx1,hr1⟩:=ev_ok rt ha
  obtain ⟨x2,hx2,hr2⟩:=ev_ok rt hb
  obtain rfl:=hr2.sc_inv
  obtain rfl:=hr1.sc_inv
  unfold ptrB at h
  split at h
  ·rename_i hk
   obtain ⟨d,hd,hdk⟩:=map_some hk
   exact step_quiet rh hp h (by simp only [aop,ho,hx1,hx2,binOpA,hd,eqA,nilEq,hdk]) (.pure .sc)
  ·rename_i hk
   obtain ⟨d,hd,hdk⟩:=map_some hk
   exact step_quiet rh hp h (by simp only [aop,ho,hx1,hx2,binOpA,hd,eqA,nilEq,hdk]) (.pure .sc)
  grind
 ·rename_i cs ds ha hb
  obtain ⟨x1,hx1,hr1⟩:=ev_ok rt ha
  obtain ⟨x2,hx2,hr2⟩:=ev_ok rt hb
  obtain ⟨xs,rfl,hxs⟩:=hr1.agg_inv
  obtain ⟨ys,rfl,hys⟩:=hr2.agg_inv
  unfold aggB at h
  split at h
  ·rename_i ks hk
   obtain ⟨d,hd,hdk⟩:=bind_some hk
   obtain ⟨hf,h⟩:=beq_of_bif h
   obtain ⟨vs,ws,b,e1,e2,e3⟩:=fits_eq hf hxs hys
   exact step_quiet rh hp (h b λq=>hd_same hf hxs hys e1 e2 (q ▸ e3)) (by simp only [aop,ho,hx1,hx2,binOpA,hd,eqA,hdk,e1,e2,e3]) (.pure .sc)
  ·rename_i ks hk
   obtain ⟨d,hd,hdk⟩:=bind_some hk
   obtain ⟨hf,h⟩:=beq_of_bif h
   obtain ⟨vs,ws,b,e1,e2,e3⟩:=fits_eq hf hxs hys
   exact step_quiet rh hp (h (!b) λhb e=>by grind [fits_self]) (by simp only [aop,ho,hx1,hx2,binOpA,hd,eqA,hdk,e1,e2,e3]) (.pure .sc)
  grind
 ·rename_i a b _ _ _ _ ha hb
  obtain ⟨x1,hx1,hr1⟩:=ev_ok rt ha
  obtain ⟨x2,hx2,hr2⟩:=ev_ok rt hb
  have fin:∀{v:WV} {z:AV},plainK v W K->binOpA tab op t (isConst x || isConst y) x1 x2=quiet z->WR R v z->Stepped P tab R W H Tc o K:=λh1 h2 h3=>
   step_quiet rh hp h1 (by simp only [aop,ho,hx1,hx2];exact h2) h3
  have num:∀{v:WV},scBin tab op t a b=some v->K v W ⟨[],[]⟩ ->Stepped P tab R W H Tc o K:=λ{v} h1 h2=>by
   unfold scBin at h1
   split at h1
   ·obtain rfl:=hr1.sc_inv
    obtain rfl:=hr2.sc_inv
    obtain ⟨w,hw,rfl⟩:=map_some h1
    exact fin h2 (by rw [binOpA_int,hw]) (.pure .sc)
   ·obtain rfl:=hr1.sc_inv
    obtain rfl:=hr2.sc_inv
    split at h1
    ·rename_i hk
     obtain ⟨d,hd,hdk⟩:=map_some hk
     cases h1
     exact fin h2 (by rw [binOpA_eql,hd];simp only [eqA,isBool_eq hdk]) (.pure .sc)
    ·rename_i hk
     obtain ⟨d,hd,hdk⟩:=map_some hk
     cases h1
     exact fin h2 (by rw [binOpA_neq,hd];simp only [eqA,isBool_eq hdk]) (.pure .sc)
    grind
   grind
  unfold catW at h
  split at h
  ·obtain rfl:=hr1.sc_inv
   obtain rfl:=hr2.sc_inv
   split at h
   ·exact fin h.2 (by rw [binOpA_add,if_pos h.1]) (.pure .sc)
   ·rename_i hop
    obtain ⟨v,hv,h⟩:=give_some h
    obtain ⟨w,hw,rfl⟩:=map_some hv
    exact fin h (by rw [binOpA_str _ (λe=>hop e),hw]) (.pure .sc)
  grind [give_some]
 grind
theorem un_sound (rt:RelT R T Tc) (rh:RelH R W H) {op:UnOp} {t:TypeId} {x:Operand} (ho:o.op=.unOp op t x) (h:unW T W K op x):Stepped P tab R W H Tc o K:=by
 have hp:isPlain o:=plain_op (λc hc=>by grind) (λx hc=>by grind)
 unfold unW at h
 split at h
 ·rename_i v hv
  obtain ⟨y,hy,hr⟩:=ev_ok rt hv
  obtain rfl:=hr.sc_inv
  split at h
  ·obtain ⟨z,hz,h⟩:=give_some h
   obtain ⟨w,hw,rfl⟩:=map_some hz
   exact step_quiet rh hp h (by simp only [aop,ho,hy,hw]) (.pure .sc)
  ·obtain ⟨z,hz,h⟩:=give_some h
   obtain ⟨w,hw,rfl⟩:=map_some hz
   exact step_quiet rh hp h (by simp only [aop,ho,hy,hw]) (.pure .sc)
  grind
 grind
theorem fieldOf_ok {t:TypeId} {f off:Nat} {dt:TyD} (h:fieldOf tab t f=some (off,dt)):∃d fs t',tab t=some d/\d.k=.strct fs/\fs[f]?=some (off,t')/\tab t'=some dt:=by
 unfold fieldOf at h
 split at h
 ·rename_i d hd
  split at h
  ·rename_i fs hk
   split at h
   ·simp_all
   ·cases h
  ·cases h
 ·cases h
theorem fieldAddr_sound (rt:RelT R T Tc) (rh:RelH R W H) {t:TypeId} {x:Operand} {f:Nat} (ho:o.op=.fieldAddr t x f) (h:fieldAddrW tab T W K t x f):Stepped P tab R W H Tc o K:=by
 have hp:isPlain o:=plain_op (λc hc=>by grind) (λx hc=>by grind)
 unfold fieldAddrW at h
 split at h
 ·rename_i off dt a hf ha
  obtain ⟨d,fs,t',hd,hk,hff,ht'⟩:=fieldOf_ok hf
  obtain ⟨y,hy,hr⟩:=ev_ok rt ha
  cases hz:Nat.beq dt.size 0 with
  |true=>grind
  |false=>
   rw [hz] at h
   have hsz:dt.size≠0:=Nat.ne_of_beq_eq_false hz
   simp only [cond_false] at h
   unfold faddr at h
   split at h
   ·rename_i cs
    obtain ⟨hb,h⟩:=beq_of_bif h
    obtain ⟨xs,rfl,hx⟩:=hr.ipt_inv
    have hle:off+dt.size<=xs.length:=by rw [<-(prs_all2.1 hx).length];simp_all
    refine step_quiet rh hp h (x:=.ipt (xs.drop off)) ?_ (.pure (.ipt ?_))
    ·simp only [aop,ho,hd,hy,fieldAtA,hk,hff,ht']
     rw [if_neg hsz,if_pos hle]
    ·rw [dropW_eq];exact prs_all2.2 ((prs_all2.1 hx).drop off)
   ·rename_i n fo
    obtain ⟨hb,h⟩:=beq_of_bif h
    obtain ⟨q1,q2,q3⟩:=hr.box_inv
    obtain rfl:=q3 (alive_al rh hb)
    refine step_quiet rh hp h (x:=.pt (R.ob n) 1 0 (fo+off)) ?_ (.box q1 rfl λ_=>rfl)
    simp only [aop,ho,hd,hy,fieldAtA,hk,hff,ht']
    rw [if_neg hsz]
   ·rename_i n i fo
    obtain ⟨hb,h⟩:=beq_of_bif h
    obtain ⟨q1,q2,q3⟩:=hr.elt_inv
    obtain ⟨g,cap,hav,rfl⟩:=q3 (alive_al rh hb)
    refine step_quiet rh hp h (x:=.pt (R.ob n) g i (fo+off)) ?_ (.elt q1 rfl λ_=>⟨g,cap,hav,rfl⟩)
    simp only [aop,ho,hd,hy,fieldAtA,hk,hff,ht']
    rw [if_neg hsz]
   grind
 grind
theorem field_sound (rt:RelT R T Tc) (rh:RelH R W H) {t:TypeId} {x:Operand} {f:Nat} (ho:o.op=.field t x f) (h:fieldW tab T W K t x f):Stepped P tab R W H Tc o K:=by
 have hp:isPlain o:=plain_op (λc hc=>by grind) (λx hc=>by grind)
 unfold fieldW at h
 split at h
 ·rename_i off dt cs hf ha
  obtain ⟨d,fs,t',hd,hk,hff,ht'⟩:=fieldOf_ok hf
  obtain ⟨y,hy,hr⟩:=ev_ok rt ha
  obtain ⟨xs,rfl,hx⟩:=hr.agg_inv
  obtain ⟨hb,h⟩:=beq_of_bif h
  have hle:off+dt.size<=xs.length:=by rw [<-(wrs_all2.1 hx).length];simp_all
  obtain ⟨v,hv,h⟩:=give_some h
  obtain ⟨z,hz1,hz2⟩:=ofCells_ok (take_drop_ok hx dt.size off) hv
  refine step_quiet rh hp h ?_ hz2
  simp only [aop,ho,hd,hy,fieldA,hk,hff,partA,ht']
  grind
 grind
theorem elemD_ok {t:TypeId} {de:TyD} (h:(tab t).bind (elemD tab)=some de):∃d e,tab t=some d/\d.k=.slice e/\tab e=some de:=by
 obtain ⟨d,h1,h2⟩:=bind_some h
 unfold elemD at h2
 grind
theorem prss_get {es:List (List WV)} {xs:List (List AV)} (h:PRss es xs) {i:Nat} {c:List WV} (hc:es[i]?=some c):∃x,xs[i]?=some x/\PRs c x:=(prss_all2.1 h).get hc
theorem arrAll_ok {m:Nat} {iv:Int} {X:Nat->Prop} (h:arrAll m iv X):0<=iv/\iv<(m:Int)/\X iv.toNat:=by
 obtain ⟨h0,h1,h⟩:=h
 refine ⟨h0,h1,?_⟩
 have key:∀(l:List Nat),List.rec (motive:=λ_=>Prop) True (λ(k:Nat) _ ih=>(iv=(k:Int)->X k)/\ih) l->∀k∈l,iv=(k:Int)->X k:=by
  intro l
  induction l with
  |nil=>grind
  |cons a l ih=>
   grind
 exact key _ h iv.toNat (List.mem_range.2 (by omega)) (by omega)
theorem arrD_ok {t:TypeId} {m:Nat} {de:TyD} (h:arrD tab t=some (m,de)):∃d e,tab t=some d/\d.k=.arr m e/\tab e=some de:=by
 unfold arrD at h
 split at h
 ·rename_i d hd
  split at h
  ·simp_all
  ·cases h
 ·cases h
theorem indexAddr_sound (rt:RelT R T Tc) (rh:RelH R W H) {t:TypeId} {x i:Operand} (ho:o.op=.indexAddr t x i) (h:indexAddrW tab T W K t x i):Stepped P tab R W H Tc o K:=by
 have hp:isPlain o:=plain_op (λc hc=>by grind) (λx hc=>by grind)
 unfold indexAddrW at h
 split at h
 ·rename_i de es k iv hd hx hi
  obtain ⟨d,e,hd1,hk,hde⟩:=elemD_ok hd
  obtain ⟨y,hy,hr⟩:=ev_ok rt hx
  obtain ⟨z,hz,hrz⟩:=ev_ok rt hi
  obtain rfl:=hrz.sc_inv
  obtain ⟨h0,cs,hcs,hlen,h⟩:=h
  rcases hr.lst_inv with ⟨rfl,rfl⟩ | ⟨xs,c,rfl,hxs⟩
  ·grind
  obtain ⟨x0,hx0,hx0r⟩:=prss_get hxs hcs
  have hl:x0.length=de.size:=by rw [<-(prs_all2.1 hx0r).length];exact hlen
  refine step_quiet rh hp h (x:=.ipt x0) ?_ (.pure (.ipt hx0r))
  simp only [aop,ho,hd1,hy,hz,intOf,indexAtA,hk,hde]
  rw [if_pos h0,hx0]
  simp only []
  rw [if_pos hl]
 ·rename_i de n k iv hd hx hi
  obtain ⟨d,e,hd1,hk,hde⟩:=elemD_ok hd
  obtain ⟨y,hy,hr⟩:=ev_ok rt hx
  obtain ⟨z,hz,hrz⟩:=ev_ok rt hi
  obtain rfl:=hrz.sc_inv
  unfold idxRow at h
  split at h
  ·rename_i es s fz rt' hes
   obtain ⟨hb,h0,hlt,h⟩:=beq_of_bif h
   obtain ⟨q1,q2,q3⟩:=hr.row_inv
   obtain ⟨hal,hlen,hrow⟩:=rh.row_obj hes
   have hs:s=de.size:=Nat.eq_of_beq_eq_true hb
   rcases hrow with ⟨_,rfl⟩ | ⟨g,cap,xs,fz',hav,hlook,hg,hxs,_⟩
   ·grind
   have hq:=q3 hal
   rw [hav] at hq
   subst hq
   have hgl:g=es.length:=by rw [All2.length hxs,hg]
   refine step_read (rd:=[R.ob n]) (x:=.pt (R.ob n) g iv.toNat 0) rh hp h ?_ (.elt q1 rfl λ_=>⟨g,cap,hav,rfl⟩) (λm hm=>?_)
   ·simp only [aop,ho,hd1,hy,hz,intOf,indexAtA,hk,hde,hlook]
    rw [if_pos ⟨hg,hs,h0,by omega,by omega⟩]
    simp [reads]
   ·simp only [List.mem_singleton] at hm
    subst hm
    exact ⟨n,_,hes,(show R.av n≠nilA by rw [hav];intro e;cases e),rfl,.inl (by simp [rootO])⟩
  grind
 ·rename_i n i fo k iv hd hx hi
  obtain ⟨y,hy,hr⟩:=ev_ok rt hx
  obtain ⟨z,hz,hrz⟩:=ev_ok rt hi
  obtain rfl:=hrz.sc_inv
  unfold arrElt at h
  split at h
  ·rename_i m de es s fz rt' ha hes
   obtain ⟨d,e,hd1,hk,hde⟩:=arrD_ok ha
   obtain ⟨hb,hB⟩:=beq_of_bif h
   clear h
   obtain ⟨h0,h1,h⟩:=hB
   simp only [Bool.and_eq_true] at hb
   obtain ⟨⟨⟨b1,b2⟩,b3⟩,b4⟩:=hb
   obtain rfl:=Nat.eq_of_beq_eq_true b1
   obtain rfl:=Nat.eq_of_beq_eq_true b2
   have hs:s=de.size:=Nat.eq_of_beq_eq_true b3
   have hm:m<=es.length:=Nat.le_of_ble_eq_true b4
   obtain ⟨hal,hlen,hrow⟩:=rh.row_obj hes
   obtain ⟨q1,q2,q3⟩:=hr.elt_inv
   obtain ⟨g,cap,hav,rfl⟩:=q3 hal
   rcases hrow with ⟨h2,_⟩ | ⟨g',cap',xs,fz',h2,hlook,hg,hxs,_⟩
   ·grind
   rw [hav] at h2
   cases h2
   have hgl:g=es.length:=by rw [All2.length hxs,hg]
   refine step_read (rd:=[R.ob n]) (x:=.pt (R.ob n) g iv.toNat 0) rh hp h ?_ (.elt q1 rfl λ_=>⟨g,cap,hav,rfl⟩) (λm hm=>?_)
   ·simp only [aop,ho,hd1,hy,hz,intOf,indexAtA,hk,hde,hlook]
    rw [if_pos ⟨h0,h1⟩,if_pos ⟨hg,hs,trivial,by omega⟩]
    simp [reads]
   ·simp only [List.mem_singleton] at hm
    subst hm
    exact ⟨n,_,hes,(show R.av n≠nilA by rw [hav];intro e;cases e),rfl,.inl (by simp [rootO])⟩
  grind
 grind
theorem isStr_eq {d:TyD} (h:isStr d=true):d.k=.str:=by
 unfold isStr at h
 grind
theorem index_sound (rt:RelT R T Tc) (rh:RelH R W H) {t:TypeId} {x i:Operand} (ho:o.op=.index t x i) (h:indexW tab T W K t x i):Stepped P tab R W H Tc o K:=by
 have hp:isPlain o:=plain_op (λc hc=>by grind) (λx hc=>by grind)
 unfold indexW at h
 split at h
 ·rename_i d s k iv hd hx hi
  obtain ⟨hb,h0,b,hbb,h⟩:=beq_of_bif h
  obtain ⟨y,hy,hr⟩:=ev_ok rt hx
  obtain ⟨z,hz,hrz⟩:=ev_ok rt hi
  obtain rfl:=hrz.sc_inv
  obtain rfl:=hr.sc_inv
  refine step_quiet rh hp h ?_ (.pure .sc)
  simp only [aop,ho,hd,hy,hz,intOf,indexA,isStr_eq hb]
  rw [if_pos h0,hbb]
 ·rename_i d0 cs k iv hd hx hi
  obtain ⟨y,hy,hr⟩:=ev_ok rt hx
  obtain ⟨z,hz,hrz⟩:=ev_ok rt hi
  obtain rfl:=hrz.sc_inv
  obtain ⟨xs,rfl,hxs⟩:=hr.agg_inv
  unfold arrVal at h
  split at h
  ·rename_i m de ha
   obtain ⟨d,e,hd1,hk,hde⟩:=arrD_ok ha
   obtain ⟨h0,h1,h⟩:=arrAll_ok h
   obtain ⟨hb,h⟩:=beq_of_bif h
   have hle:iv.toNat*de.size+de.size<=xs.length:=by rw [<-(wrs_all2.1 hxs).length];simp_all
   obtain ⟨v,hv,h⟩:=give_some h
   obtain ⟨w,hz1,hz2⟩:=ofCells_ok (take_drop_ok hxs de.size (iv.toNat*de.size)) hv
   refine step_quiet rh hp h ?_ hz2
   simp only [aop,ho,hd1,hy,hz,intOf,indexA,hk,partA,hde]
   grind
  grind
 grind
end Go.Abs
end
