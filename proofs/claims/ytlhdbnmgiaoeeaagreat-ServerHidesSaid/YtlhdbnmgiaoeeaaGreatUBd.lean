/- Of ServerHides: walks. -/
import Derived.Test.YtlhdbnmgiaoeeaaGreatUBc
set_option linter.all false
namespace Go.Abs.RM
open Go.Proofs Go.Proofs.RMH
set_option maxRecDepth 100000
set_option maxHeartbeats 40000000
theorem w12p (a0:RP) (a1:ByteArray) (a2:List Int) (a3:List Int) (a4:Int) (g0:a0.d.f1.length<=12) (g1:∀e∈a0.d.f1,EB e) (g2:a0.d.f2.length<=1000000) (g3:a0.d.f5.length<=1000000) (g4:a2.length<=1000) (g5:a3.length<=1000):WQv 556 [.agg a0.c,sS a1,lI a2,lI a3,sI a4] (λr:List EP=>.lst (r.map EP.c)) (λr=>r.length<=1000/\∀p∈r,AnsP a0 a1 p):=by
 refine goF [559] Tryz.func556 (by kernel_rfl) ?_
 repeat' first
  |with_reducible assumption
  |(conv=>whnf);first
   |apply bD<;>intro h
   |refine ⟨(List.append_nil fs).symm,?_⟩
   |refine ⟨(List.append_nil gs).symm,?_⟩
   |refine ⟨(by kernel_rfl:drawW _ _ _=true),?_⟩
   |refine wC (w48 _ _ _) λz48 hz48=>?_
   |refine ⟨VT,?_⟩
   |refine fI (vs:=[.agg _,lI a3,.sc (.map none)]) (Y:=Yf []) [(2,lI a2),(5,.box 0 0),(6,.box 1 0),(9,.box 2 0),(10,.box 3 0),(11,.box 5 0)] ⟨rfl,rfl,rfl,rfl,rfl,rfl,trivial⟩ Tryz.func559 (by kernel_rfl) λTc1=>?_
   |refine rgF [] [(2,lI a2),(5,.box 0 0),(6,.box 1 0),(9,.box 2 0),(10,.box 3 0),(11,.box 5 0),(26,.fn 561 [] [.box 7 0,.box 8 0,.box 9 0])] rfl ⟨rfl,rfl,rfl,rfl,rfl,rfl,rfl,trivial⟩ rfl Tryz.func561 (by kernel_rfl) rfl λD d1 d2 d3 dk=>?_
   |refine wC (unp (w97 a0.d a3 ?_ ?_) (unC (unA a0.un') unI)) λz97 hz97=>?_
   |refine wC (unp (w97 a0.d ry ?_ ?_) (unC (unA a0.un') unI)) λz97d hz97d=>?_
   |refine wC (unp (w97 a0.d rf ?_ ?_) (unC (unA a0.un') unI)) λz97c hz97c=>?_
   |refine wC (unp (w97 a0.d a2 ?_ ?_) (unC (unA a0.un') unI)) λz97b hz97b=>?_
   |refine wG (l:=ny) ?_ ?_ (λ_=>rfl) λx hx hm=>?_
   |refine wR (l:=ly) ?_ ?_ ?_
   |refine wL (l:=ly) ?_ ?_ λy hy=>?_
   |refine ⟨⟨nx _,_⟩,?_,?_,(ft [(0,some 0),(1,some 1),(2,some 2),(3,some 3),(4,some 4),(5,some 5),(6,some 6),(7,some 7),(8,some 8),(9,some 9),(19,some 19),(11,some 11),(12,some 23),(13,some 13),(14,some 14),(20,some 20)] rfl rfl rfl ⟨fB rfl rfl rfl,fB rfl rfl rfl,fB rfl rfl rfl,fB rfl rfl rfl,fS rfl rfl λ_ h=>h,fX rfl rfl rfl (λ_=>rfl),fX rfl rfl rfl (λ_=>rfl),fB rfl rfl rfl,fB rfl rfl rfl,fX rfl rfl rfl (λ_=>rfl),fL rfl rfl rfl rfl,fS rfl rfl λ_ h=>h,fR (f:=EP.c) rfl rfl λ_=>rfl,fR (f:=c_i64) rfl rfl λ_=>rfl,fR (f:=c_i64) rfl rfl λ_=>rfl,fM rfl rfl rfl rfl,trivial⟩)⟩
   |refine upN gs2 ‹_› rfl ?_
   |refine w51q a0 _ _ ?_ ?_ ?_ ?_ ?_ λp hp hpe ho=>?_
   |refine wA (f:=EP.c) (m:=[_]) rfl (λ_=>⟨rfl,rfl⟩) ?_ ?_ ?_
   |refine V3 (λ(nxt fs B:List Int)=>fs.Nodup/\(∀x∈fs,Kn a0.d.f1 x)/\(∀x∈nxt,Kn a0.d.f1 x)/\nxt.length<=1000) (λnxt fs B=>[(0,.yld 10),(1,.box 7 0),(2,.box 8 0),(3,.box 9 0),(5,.mp 11),(6,lI nxt)]) (λnxt fs B=>⟨[(0,.box (RP.c a0) false),(1,.box [sS a1] false),(2,.box [sI z48] false),(3,.box [.sc (.slice none 0 0)] false),(4,.set (B.map (Value.int .i64)) VT),(5,.box [.mp 4] false),(6,.frm [(2,lI a2),(5,.box 0 0),(6,.box 1 0),(9,.box 2 0),(10,.box 3 0),(11,.box 5 0)] Tc1),(7,.box (RP.c a0) false),(8,.box [lI a3] false),(9,.box [.sc (.map none)] false),(10,.loop D [(2,lI a2),(5,.box 0 0),(6,.box 1 0),(9,.box 2 0),(10,.box 3 0),(11,.box 5 0),(26,.fn 561 [] [.box 7 0,.box 8 0,.box 9 0])] .ready none),(11,.set (fs.map (Value.int .i64)) VT)],14⟩) (λnxt fs B=>a0.d.f1.length-fs.length) z97 [] [] ?_ (ft [(0,some 0),(1,some 1),(2,some 2),(3,some 3),(4,some 4),(5,some 5),(6,some 6),(7,some 7),(8,some 8),(9,some 9),(10,some 10),(11,some 11)] rfl rfl rfl ⟨fB rfl rfl rfl,fB rfl rfl rfl,fB rfl rfl rfl,fB rfl rfl rfl,fS rfl rfl λ_ h=>h,fX rfl rfl rfl (λ_=>rfl),fM rfl rfl rfl rfl,fB rfl rfl rfl,fB rfl rfl rfl,fB rfl rfl rfl,fL rfl rfl rfl rfl,fS rfl rfl λ_ h=>h,trivial⟩) λnxt fs B ⟨i0,i1,i3,i4⟩=>?_
   |refine V4 (λ(p:Int) (fs2 lv rf:List Int)=>0<=p/\p<=(nxt.length:Int)/\fs2=fs++lv/\fs2.Nodup/\(∀x∈fs2,Kn a0.d.f1 x)/\rf.length<=18*lv.length) (λp fs2 lv rf=>[(0,.yld 10),(1,.box 7 0),(2,.box 8 0),(3,.box 9 0),(5,.mp 11),(6,lI nxt),(7,.row 12),(8,.row 13),(20,lI nxt),(21,sI (nxt.length:Int)),(22,sI p)]) (λp fs2 lv rf=>⟨[(0,.box (RP.c a0) false),(1,.box [sS a1] false),(2,.box [sI z48] false),(3,.box [.sc (.slice none 0 0)] false),(4,.set (B.map (Value.int .i64)) VT),(5,.box [.mp 4] false),(6,.frm [(2,lI a2),(5,.box 0 0),(6,.box 1 0),(9,.box 2 0),(10,.box 3 0),(11,.box 5 0)] Tc1),(7,.box (RP.c a0) false),(8,.box [lI a3] false),(9,.box [.sc (.map none)] false),(10,.loop D [(2,lI a2),(5,.box 0 0),(6,.box 1 0),(9,.box 2 0),(10,.box 3 0),(11,.box 5 0),(26,.fn 561 [] [.box 7 0,.box 8 0,.box 9 0])] .ready none),(11,.set (fs2.map (Value.int .i64)) VT),(12,.row (lv.map c_i64) 1 false 12),(13,.row (rf.map c_i64) 1 false 13)],14⟩) (λp fs2 lv rf=>((nxt.length:Int)-p).toNat) (0:Int) fs [] [] ?_ (ft [(0,some 0),(1,some 1),(2,some 2),(3,some 3),(4,some 4),(5,some 5),(6,some 6),(7,some 7),(8,some 8),(9,some 9),(10,some 10),(11,some 11),(12,none),(13,none)] rfl rfl rfl ⟨fB rfl rfl rfl,fB rfl rfl rfl,fB rfl rfl rfl,fB rfl rfl rfl,fS rfl rfl λ_ h=>h,fX rfl rfl rfl (λ_=>rfl),fM rfl rfl rfl rfl,fB rfl rfl rfl,fB rfl rfl rfl,fB rfl rfl rfl,fL rfl rfl rfl rfl,fS rfl rfl λ_ h=>h,f0 rfl rfl,f0 rfl rfl,trivial⟩) λp fs2 lv rf ⟨j0,j1,j2,j3,j4,j7⟩=>?_
   |refine yL [] [(0,.yld 10),(1,.box 7 0),(2,.box 8 0),(3,.box 9 0),(5,.mp 11),(6,lI nxt),(7,.row 12),(8,.row 13),(58,sB false)] d1 d2 d3 dk ⟨rfl,rfl,rfl,rfl,rfl,rfl,rfl,rfl,rfl,trivial⟩ rfl rfl λTc2=>?_
   |refine V2 (λ(q:Int) (B2:List Int)=>0<=q/\q<=(lv.length:Int)) (λq B2=>[(11,.box 5 0),(28,.row 12),(29,sI (lv.length:Int)),(30,sI q)]) (λq B2=>⟨[(0,.box (RP.c a0) false),(1,.box [sS a1] false),(2,.box [sI z48] false),(3,.box [.sc (.slice none 0 0)] false),(4,.set (B2.map (Value.int .i64)) VT),(5,.box [.mp 4] false),(6,.frm [(2,lI a2),(5,.box 0 0),(6,.box 1 0),(9,.box 2 0),(10,.box 3 0),(11,.box 5 0)] Tc1),(7,.box (RP.c a0) false),(8,.box [lI a3] false),(9,.box [.sc (.map none)] false),(10,.loop D [(2,lI a2),(5,.box 0 0),(6,.box 1 0),(9,.box 2 0),(10,.box 3 0),(11,.box 5 0),(26,.fn 561 [] [.box 7 0,.box 8 0,.box 9 0])] .busy none),(11,.set (fs2.map (Value.int .i64)) VT),(12,.row (lv.map c_i64) 1 false 12),(13,.row (rf.map c_i64) 1 false 13),(14,.frm [(0,.yld 10),(1,.box 7 0),(2,.box 8 0),(3,.box 9 0),(5,.mp 11),(6,lI nxt),(7,.row 12),(8,.row 13),(58,sB false)] Tc2)],15⟩) (λq B2=>((lv.length:Int)-q).toNat) (0:Int) B ?_ (ft [(0,some 0),(1,some 1),(2,some 2),(3,some 3),(4,some 4),(5,some 5),(6,some 6),(7,some 7),(8,some 8),(9,some 9),(10,some 10),(11,some 11),(12,some 12),(13,some 13),(14,some 14)] rfl rfl rfl ⟨fB rfl rfl rfl,fB rfl rfl rfl,fB rfl rfl rfl,fB rfl rfl rfl,fS rfl rfl λ_ h=>h,fX rfl rfl rfl (λ_=>rfl),fM rfl rfl rfl rfl,fB rfl rfl rfl,fB rfl rfl rfl,fB rfl rfl rfl,fL rfl rfl rfl rfl,fS rfl rfl λ_ h=>h,fR (f:=c_i64) rfl rfl λ_=>rfl,fR (f:=c_i64) rfl rfl λ_=>rfl,fM rfl rfl rfl rfl,trivial⟩) λq B2 ⟨k0,k1⟩=>?_
   |refine wR (l:=lv) ?_ ?_ ?_
   |refine wL (l:=lv) ?_ ?_ λy hy=>?_
   |refine upS B2 rfl ?_
   |refine ⟨⟨nx _,_⟩,?_,?_,(ft [(0,some 0),(1,some 1),(2,some 2),(3,some 3),(4,some 4),(5,some 5),(6,some 6),(7,some 7),(8,some 8),(9,some 9),(10,some 10),(11,some 11),(12,some 12),(13,some 13),(14,some 14)] rfl rfl rfl ⟨fB rfl rfl rfl,fB rfl rfl rfl,fB rfl rfl rfl,fB rfl rfl rfl,fS rfl rfl λ_ h=>h,fX rfl rfl rfl (λ_=>rfl),fM rfl rfl rfl rfl,fB rfl rfl rfl,fB rfl rfl rfl,fB rfl rfl rfl,fL rfl rfl rfl rfl,fS rfl rfl λ_ h=>h,fR (f:=c_i64) rfl rfl λ_=>rfl,fR (f:=c_i64) rfl rfl λ_=>rfl,fM rfl rfl rfl rfl,trivial⟩)⟩
   |refine ⟨⟨_,_,_⟩,?_,?_,(ft [(0,some 0),(1,some 1),(2,some 2),(3,some 3),(4,some 4),(5,some 5),(6,some 6),(7,some 7),(8,some 8),(9,some 9),(19,some 19),(11,some 11),(12,some 12)] rfl rfl rfl ⟨fB rfl rfl rfl,fB rfl rfl rfl,fB rfl rfl rfl,fB rfl rfl rfl,fS rfl rfl λ_ h=>h,fX rfl rfl rfl (λ_=>rfl),fX rfl rfl rfl (λ_=>rfl),fB rfl rfl rfl,fB rfl rfl rfl,fX rfl rfl rfl (λ_=>rfl),fL rfl rfl rfl rfl,fS rfl rfl λ_ h=>h,fR (f:=EP.c) rfl rfl λ_=>rfl,trivial⟩)⟩
   |refine ⟨⟨_,_,_⟩,?_,?_,(ft [(0,some 0),(1,some 1),(2,some 2),(3,some 3),(4,some 4),(5,some 5),(6,some 6),(7,some 7),(8,some 8),(9,some 9),(10,some 10),(11,some 11)] rfl rfl rfl ⟨fB rfl rfl rfl,fB rfl rfl rfl,fB rfl rfl rfl,fB rfl rfl rfl,fS rfl rfl λ_ h=>h,fX rfl rfl rfl (λ_=>rfl),fM rfl rfl rfl rfl,fB rfl rfl rfl,fB rfl rfl rfl,fB rfl rfl rfl,fL rfl rfl rfl rfl,fS rfl rfl λ_ h=>h,trivial⟩)⟩
   |refine ⟨_,_,deep0 (leafs_map (f:=c_i64) (λ_=>rfl) _),?_⟩
   |refine ⟨_,_,deep0 (leafs_map (f:=EP.c) (λ_=>rfl) _),?_⟩
   |refine lM ?_
   |refine wG (l:=nxt) ?_ ?_ (λ_=>rfl) λx hx hm=>?_
   |refine lkS (λhk=>?_) λhk=>?_
   |refine upN fs2 ‹_› rfl ?_
   |refine w50k a0 (i:=y) ?_ ?_ ?_ λe he hei hg=>?_
   |refine wC (unp (w50 a0.d.f1 _ ?_) (unC (unP a0.p1) unI)) λz50 hz50=>?_
   |refine wA (f:=c_i64) (m:=[_]) rfl (λ_=>⟨rfl,rfl⟩) ?_ ?_ ?_
   |refine wA (f:=c_i64) (m:=_) rfl (λ_=>⟨rfl,rfl⟩) ?_ ?_ ?_
   |refine ⟨⟨nx _,_,_,_⟩,?_,?_,(ft [(0,some 0),(1,some 1),(2,some 2),(3,some 3),(4,some 4),(5,some 5),(6,some 6),(7,some 7),(8,some 8),(9,some 9),(10,some 10),(11,some 11),(12,some 15),(13,some 18)] rfl rfl rfl ⟨fB rfl rfl rfl,fB rfl rfl rfl,fB rfl rfl rfl,fB rfl rfl rfl,fS rfl rfl λ_ h=>h,fX rfl rfl rfl (λ_=>rfl),fM rfl rfl rfl rfl,fB rfl rfl rfl,fB rfl rfl rfl,fB rfl rfl rfl,fL rfl rfl rfl rfl,fS rfl rfl λ_ h=>h,fR (f:=c_i64) rfl rfl λ_=>rfl,fR (f:=c_i64) rfl rfl λ_=>rfl,trivial⟩)⟩
   |refine ⟨⟨nx _,fs2,lv,rf⟩,?_,?_,(ft [(0,some 0),(1,some 1),(2,some 2),(3,some 3),(4,some 4),(5,some 5),(6,some 6),(7,some 7),(8,some 8),(9,some 9),(10,some 10),(11,some 11),(12,some 12),(13,some 13)] rfl rfl rfl ⟨fB rfl rfl rfl,fB rfl rfl rfl,fB rfl rfl rfl,fB rfl rfl rfl,fS rfl rfl λ_ h=>h,fX rfl rfl rfl (λ_=>rfl),fM rfl rfl rfl rfl,fB rfl rfl rfl,fB rfl rfl rfl,fB rfl rfl rfl,fL rfl rfl rfl rfl,fS rfl rfl λ_ h=>h,fR (f:=c_i64) rfl rfl λ_=>rfl,fR (f:=c_i64) rfl rfl λ_=>rfl,trivial⟩)⟩
   |refine ⟨rfl,rfl,?_⟩
   |refine ⟨rfl,?_⟩
   |refine fI (Y:=Yf []) [(2,lI a2),(5,.box 0 0),(6,.box 1 0),(9,.box 2 0),(10,.box 3 0),(11,.box 5 0),(15,.box 14 0)] ⟨rfl,rfl,rfl,rfl,rfl,rfl,rfl,trivial⟩ Tryz.func559 (by kernel_rfl) λTc1=>?_
   |refine rgF [] [(2,lI a2),(5,.box 0 0),(6,.box 1 0),(9,.box 2 0),(10,.box 3 0),(11,.box 5 0),(15,.box 14 0),(40,.fn 561 [] [.box 16 0,.box 17 0,.box 18 0])] rfl ⟨rfl,rfl,rfl,rfl,rfl,rfl,rfl,rfl,trivial⟩ rfl Tryz.func561 (by kernel_rfl) rfl λD2 d1 d2 d3 dk=>?_
   |refine V3 (λ(ny gs:List Int) (r:List EP)=>gs.Nodup/\(∀x∈gs,Kn a0.d.f1 x)/\(∀x∈ny,Kn a0.d.f1 x)/\ny.length<=1000/\(∀p∈r,AnsP a0 a1 p)/\(r.length:Int)<=z48) (λny gs r=>[(0,.yld 19),(1,.box 7 0),(2,.box 8 0),(3,.box 9 0),(5,.mp 11),(6,lI ny)]) (λny gs r=>⟨[(0,.box (RP.c a0) false),(1,.box [sS a1] false),(2,.box [sI z48] false),(3,.box [.sc (.slice none 0 0)] false),(4,.set (B.map (Value.int .i64)) VT),(5,.box [.mp 4] false),(6,.box [.row 12] false),(7,.box (RP.c a0) false),(8,.box [lI a2] false),(9,.box [.mp 4] false),(19,.loop D2 [(2,lI a2),(5,.box 0 0),(6,.box 1 0),(9,.box 2 0),(10,.box 3 0),(11,.box 5 0),(15,.box 6 0),(40,.fn 561 [] [.box 7 0,.box 8 0,.box 9 0])] .ready none),(11,.set (gs.map (Value.int .i64)) VT),(12,.row (r.map EP.c) 29 false 12)],20⟩) (λny gs r=>a0.d.f1.length-gs.length) z97b [] [] ?_ (ft [(0,some 0),(1,some 1),(2,some 2),(3,some 3),(4,some 4),(5,some 5),(6,some 14),(7,some 16),(8,some 17),(9,some 18),(19,some 19),(11,some 20),(12,none)] rfl rfl rfl ⟨fB rfl rfl rfl,fB rfl rfl rfl,fB rfl rfl rfl,fB rfl rfl rfl,fS rfl rfl λ_ h=>h,fX rfl rfl rfl (λ_=>rfl),fX rfl rfl rfl (λ_=>rfl),fB rfl rfl rfl,fB rfl rfl rfl,fX rfl rfl rfl (λ_=>rfl),fL rfl rfl rfl rfl,fS rfl rfl λ_ h=>h,f0 rfl rfl,trivial⟩) λny gs r ⟨u0,u1,u3,u4,u5,u6⟩=>?_
   |refine V4 (λ(p:Int) (gs2 ly ry:List Int)=>0<=p/\p<=(ny.length:Int)/\gs2=gs++ly/\gs2.Nodup/\(∀x∈gs2,Kn a0.d.f1 x)/\ry.length<=18*ly.length) (λp gs2 ly ry=>[(0,.yld 19),(1,.box 7 0),(2,.box 8 0),(3,.box 9 0),(5,.mp 11),(6,lI ny),(7,.row 13),(8,.row 14),(20,lI ny),(21,sI (ny.length:Int)),(22,sI p)]) (λp gs2 ly ry=>⟨[(0,.box (RP.c a0) false),(1,.box [sS a1] false),(2,.box [sI z48] false),(3,.box [.sc (.slice none 0 0)] false),(4,.set (B.map (Value.int .i64)) VT),(5,.box [.mp 4] false),(6,.box [.row 12] false),(7,.box (RP.c a0) false),(8,.box [lI a2] false),(9,.box [.mp 4] false),(19,.loop D2 [(2,lI a2),(5,.box 0 0),(6,.box 1 0),(9,.box 2 0),(10,.box 3 0),(11,.box 5 0),(15,.box 6 0),(40,.fn 561 [] [.box 7 0,.box 8 0,.box 9 0])] .ready none),(11,.set (gs2.map (Value.int .i64)) VT),(12,.row (r.map EP.c) 29 false 12),(13,.row (ly.map c_i64) 1 false 13),(14,.row (ry.map c_i64) 1 false 14)],20⟩) (λp gs2 ly ry=>((ny.length:Int)-p).toNat) (0:Int) gs [] [] ?_ (ft [(0,some 0),(1,some 1),(2,some 2),(3,some 3),(4,some 4),(5,some 5),(6,some 6),(7,some 7),(8,some 8),(9,some 9),(19,some 19),(11,some 11),(12,some 12),(13,none),(14,none)] rfl rfl rfl ⟨fB rfl rfl rfl,fB rfl rfl rfl,fB rfl rfl rfl,fB rfl rfl rfl,fS rfl rfl λ_ h=>h,fX rfl rfl rfl (λ_=>rfl),fX rfl rfl rfl (λ_=>rfl),fB rfl rfl rfl,fB rfl rfl rfl,fX rfl rfl rfl (λ_=>rfl),fL rfl rfl rfl rfl,fS rfl rfl λ_ h=>h,fR (f:=EP.c) rfl rfl λ_=>rfl,f0 rfl rfl,f0 rfl rfl,trivial⟩) λp gs2 ly ry ⟨v0,v1,v2,v3,v4,v6⟩=>?_
   |refine ⟨⟨nx _,_,_,_⟩,?_,?_,(ft [(0,some 0),(1,some 1),(2,some 2),(3,some 3),(4,some 4),(5,some 5),(6,some 6),(7,some 7),(8,some 8),(9,some 9),(19,some 19),(11,some 11),(12,some 12),(13,some 21),(14,some 24)] rfl rfl rfl ⟨fB rfl rfl rfl,fB rfl rfl rfl,fB rfl rfl rfl,fB rfl rfl rfl,fS rfl rfl λ_ h=>h,fX rfl rfl rfl (λ_=>rfl),fX rfl rfl rfl (λ_=>rfl),fB rfl rfl rfl,fB rfl rfl rfl,fX rfl rfl rfl (λ_=>rfl),fL rfl rfl rfl rfl,fS rfl rfl λ_ h=>h,fR (f:=EP.c) rfl rfl λ_=>rfl,fR (f:=c_i64) rfl rfl λ_=>rfl,fR (f:=c_i64) rfl rfl λ_=>rfl,trivial⟩)⟩
   |refine ⟨⟨nx _,gs2,ly,ry⟩,?_,?_,(ft [(0,some 0),(1,some 1),(2,some 2),(3,some 3),(4,some 4),(5,some 5),(6,some 6),(7,some 7),(8,some 8),(9,some 9),(19,some 19),(11,some 11),(12,some 12),(13,some 13),(14,some 14)] rfl rfl rfl ⟨fB rfl rfl rfl,fB rfl rfl rfl,fB rfl rfl rfl,fB rfl rfl rfl,fS rfl rfl λ_ h=>h,fX rfl rfl rfl (λ_=>rfl),fX rfl rfl rfl (λ_=>rfl),fB rfl rfl rfl,fB rfl rfl rfl,fX rfl rfl rfl (λ_=>rfl),fL rfl rfl rfl rfl,fS rfl rfl λ_ h=>h,fR (f:=EP.c) rfl rfl λ_=>rfl,fR (f:=c_i64) rfl rfl λ_=>rfl,fR (f:=c_i64) rfl rfl λ_=>rfl,trivial⟩)⟩
   |refine yL [] [(0,.yld 19),(1,.box 7 0),(2,.box 8 0),(3,.box 9 0),(5,.mp 11),(6,lI ny),(7,.row 13),(8,.row 14),(58,sB false)] d1 d2 d3 dk ⟨rfl,rfl,rfl,rfl,rfl,rfl,rfl,rfl,rfl,trivial⟩ rfl rfl λTc3=>?_
   |refine V2 (λ(q:Int) (r2:List EP)=>0<=q/\q<=(ly.length:Int)/\(∀p∈r2,AnsP a0 a1 p)/\(r2.length:Int)<=z48) (λq r2=>[(5,.box 0 0),(6,.box 1 0),(9,.box 2 0),(10,.box 3 0),(15,.box 6 0),(42,.row 13),(43,sI (ly.length:Int)),(44,sI q)]) (λq r2=>⟨[(0,.box (RP.c a0) false),(1,.box [sS a1] false),(2,.box [sI z48] false),(3,.box [.sc (.slice none 0 0)] false),(4,.set (B.map (Value.int .i64)) VT),(5,.box [.mp 4] false),(6,.box [.row 12] false),(7,.box (RP.c a0) false),(8,.box [lI a2] false),(9,.box [.mp 4] false),(19,.loop D2 [(2,lI a2),(5,.box 0 0),(6,.box 1 0),(9,.box 2 0),(10,.box 3 0),(11,.box 5 0),(15,.box 6 0),(40,.fn 561 [] [.box 7 0,.box 8 0,.box 9 0])] .busy none),(11,.set (gs2.map (Value.int .i64)) VT),(12,.row (r2.map EP.c) 29 false 12),(13,.row (ly.map c_i64) 1 false 13),(14,.row (ry.map c_i64) 1 false 14),(20,.frm [(0,.yld 19),(1,.box 7 0),(2,.box 8 0),(3,.box 9 0),(5,.mp 11),(6,lI ny),(7,.row 13),(8,.row 14),(58,sB false)] Tc3)],21⟩) (λq r2=>((ly.length:Int)-q).toNat) (0:Int) r ?_ (ft [(0,some 0),(1,some 1),(2,some 2),(3,some 3),(4,some 4),(5,some 5),(6,some 6),(7,some 7),(8,some 8),(9,some 9),(19,some 19),(11,some 11),(12,some 12),(13,some 13),(14,some 14),(20,some 20)] rfl rfl rfl ⟨fB rfl rfl rfl,fB rfl rfl rfl,fB rfl rfl rfl,fB rfl rfl rfl,fS rfl rfl λ_ h=>h,fX rfl rfl rfl (λ_=>rfl),fX rfl rfl rfl (λ_=>rfl),fB rfl rfl rfl,fB rfl rfl rfl,fX rfl rfl rfl (λ_=>rfl),fL rfl rfl rfl rfl,fS rfl rfl λ_ h=>h,fR (f:=EP.c) rfl rfl λ_=>rfl,fR (f:=c_i64) rfl rfl λ_=>rfl,fR (f:=c_i64) rfl rfl λ_=>rfl,fM rfl rfl rfl rfl,trivial⟩) λq r2 ⟨w0,w1,w2,w3⟩=>?_
   |refine ⟨_,rfl,?_⟩
  |exact List.nodup_nil
  |exact he
  |exact v4 _ (mem_lv v2 hy)
  |exact snoc_all w2 ⟨hp,e,by rw [hpe,hei];exact hg,ho⟩
  |exact g1 _ he
  |exact λp hp=>absurd hp List.not_mem_nil
  |(have:=lv_le j2 j3 j4;omega)
  |(have:=lv_le j2 j3 j4;(simp (disch:=omega) only [ls]<;>omega))
  |(have:=lv_le v2 v3 v4;(simp (disch:=omega) only [ls]<;>omega))
  |exact mea_lv j2 ‹_› j3 j4
  |exact mea_lv v2 ‹_› v3 v4
  |exact λx hx=>((hz97c.2 x).1 hx).2
  |exact λx hx=>((hz97b.2 x).1 hx).2
  |exact λx hx=>((hz97d.2 x).1 hx).2
  |(have:=lv_le v2 v3 v4;have:=hz97d.1;omega)
  |(have:=lv_le v2 v3 v4;omega)
  |(have:=lv_le v2 v3 v4;have:=eb_of g1 (u3 _ hm) hz50;omega)
  |(have:=lv_le v2 v3 v4;have:=eb_of g1 (u3 _ hm) hz50;simp only [List.length_append,List.length_singleton];omega)
  |exact nodup_snoc v3 ‹_›
  |exact snoc_all v4 (u3 _ hm)
  |exact app_snoc v2
  |(have:=hz48.1 (by decide);have:=hz48.2;omega)
  |exact λx hx=>((hz97.2 x).1 hx).2
  |(have:=lv_le j2 j3 j4;have:=eb_of g1 (i3 _ hm) hz50;omega)
  |(have:=lv_le j2 j3 j4;have:=eb_of g1 (i3 _ hm) hz50;simp only [List.length_append,List.length_singleton];omega)
  |exact nodup_snoc j3 ‹_›
  |exact snoc_all j4 (i3 _ hm)
  |exact app_snoc j2
  |dsimp only
  |with_reducible apply And.intro
  |(simp (disch:=omega) only [ls]<;>omega)
  |contradiction
  |intro hr
end Go.Abs.RM
