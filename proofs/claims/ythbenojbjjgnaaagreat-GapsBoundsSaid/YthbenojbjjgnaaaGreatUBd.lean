/- Of GapsBounds: walks. -/
import Derived.Test.YthbenojbjjgnaaaGreatUBc
set_option linter.all false
namespace Go.Abs.RM
open Go.Proofs
set_option maxRecDepth 100000
set_option maxHeartbeats 40000000
theorem w12 (a0:S30) (a1:ByteArray) (a2:List Int) (a3:List Int) (a4:Int) (g0:a0.f1.length≤12) (g1:∀e∈a0.f1,EB e) (g2:a0.f2.length≤1000000) (g3:a0.f5.length≤1000000) (g4:a2.length≤1000) (g5:a3.length≤1000):WQv 12 [.agg (S30.c a0),sS a1,lI a2,lI a3,sI a4] lE (fun r=>(r.length:Int)≤max 0 a4∧(r.map S65.f0).Nodup∧(∀x∈r.map S65.f0,Kn a0.f1 x)∧∀x∈r.map S65.f0,¬Reach a0.f1 a3 x):=by
 refine goF [49] Tryz.func12 (by kernel_rfl) ?_
 repeat' first
  |with_reducible assumption
  |(conv=>whnf);first
   |apply bD<;>intro h
   |refine ⟨(List.append_nil fs).symm,?_⟩
   |refine ⟨(List.append_nil gs).symm,?_⟩
   |refine ⟨(by kernel_rfl:drawW _ _ _=true),?_⟩
   |refine wC (w48 _ _ _) fun z48 hz48=>?_
   |refine ⟨VT,?_⟩
   |refine fI (vs:=[.agg _,lI a3,.sc (.map none)]) (Y:=Yf []) [(2,lI a2),(5,.box 0 0),(6,.box 1 0),(9,.box 2 0),(10,.box 3 0),(11,.box 5 0)] ⟨rfl,rfl,rfl,rfl,rfl,rfl,trivial⟩ Tryz.func49 (by kernel_rfl) fun Tc1=>?_
   |refine rgF [] [(2,lI a2),(5,.box 0 0),(6,.box 1 0),(9,.box 2 0),(10,.box 3 0),(11,.box 5 0),(26,.fn 96 [] [.box 7 0,.box 8 0,.box 9 0])] rfl ⟨rfl,rfl,rfl,rfl,rfl,rfl,rfl,trivial⟩ rfl Tryz.func96 (by kernel_rfl) rfl fun D d1 d2 d3 dk=>?_
   |refine wC (w97 a0 a3 ?_ ?_) fun z97 hz97=>?_
   |refine wC (w97 a0 ry ?_ ?_) fun z97d hz97d=>?_
   |refine wC (w97 a0 rf ?_ ?_) fun z97c hz97c=>?_
   |refine wC (w97 a0 a2 ?_ ?_) fun z97b hz97b=>?_
   |refine wG (l:=ny) ?_ ?_ (fun _=>rfl) fun x hx hm=>?_
   |refine wR (l:=ly) ?_ ?_ ?_
   |refine wL (l:=ly) ?_ ?_ fun y hy=>?_
   |refine ⟨⟨nx _,_⟩,?_,?_,(ft [(0,some 0),(1,some 1),(2,some 2),(3,some 3),(4,some 4),(5,some 5),(6,some 6),(7,some 7),(8,some 8),(9,some 9),(19,some 19),(11,some 11),(12,some 23),(13,some 13),(14,some 14),(20,some 20)] rfl rfl rfl ⟨fB rfl rfl rfl,fB rfl rfl rfl,fB rfl rfl rfl,fB rfl rfl rfl,fS rfl rfl fun _ h=>h,fX rfl rfl rfl (fun _=>rfl),fX rfl rfl rfl (fun _=>rfl),fB rfl rfl rfl,fB rfl rfl rfl,fX rfl rfl rfl (fun _=>rfl),fL rfl rfl rfl rfl,fS rfl rfl fun _ h=>h,fR (f:=S65.c) rfl rfl fun _=>rfl,fR (f:=c_i64) rfl rfl fun _=>rfl,fR (f:=c_i64) rfl rfl fun _=>rfl,fM rfl rfl rfl rfl,trivial⟩)⟩
   |refine upN gs2 ‹_› rfl ?_
   |refine wC (w51 a0 _ _ ?_ ?_ ?_ ?_ ?_) fun z51 hz51=>?_
   |refine wA (f:=S65.c) (m:=[_]) rfl (fun _=>⟨rfl,rfl⟩) ?_ ?_ ?_
   |refine V3 (fun (nxt fs B:List Int)=>fs.Nodup∧(∀x∈fs,Kn a0.f1 x)∧(∀x∈fs,x∈B)∧(∀x∈nxt,Kn a0.f1 x)∧nxt.length≤1000∧PF a0.f1 a3 fs nxt) (fun nxt fs B=>[(0,.yld 10),(1,.box 7 0),(2,.box 8 0),(3,.box 9 0),(5,.mp 11),(6,lI nxt)]) (fun nxt fs B=>⟨[(0,.box (S30.c a0) false),(1,.box [sS a1] false),(2,.box [sI z48] false),(3,.box [.sc (.slice none 0 0)] false),(4,.set (B.map (Value.int .i64)) VT),(5,.box [.mp 4] false),(6,.frm [(2,lI a2),(5,.box 0 0),(6,.box 1 0),(9,.box 2 0),(10,.box 3 0),(11,.box 5 0)] Tc1),(7,.box (S30.c a0) false),(8,.box [lI a3] false),(9,.box [.sc (.map none)] false),(10,.loop D [(2,lI a2),(5,.box 0 0),(6,.box 1 0),(9,.box 2 0),(10,.box 3 0),(11,.box 5 0),(26,.fn 96 [] [.box 7 0,.box 8 0,.box 9 0])] .ready none),(11,.set (fs.map (Value.int .i64)) VT)],14⟩) (fun nxt fs B=>a0.f1.length-fs.length) z97 [] [] ?_ (ft [(0,some 0),(1,some 1),(2,some 2),(3,some 3),(4,some 4),(5,some 5),(6,some 6),(7,some 7),(8,some 8),(9,some 9),(10,some 10),(11,some 11)] rfl rfl rfl ⟨fB rfl rfl rfl,fB rfl rfl rfl,fB rfl rfl rfl,fB rfl rfl rfl,fS rfl rfl fun _ h=>h,fX rfl rfl rfl (fun _=>rfl),fM rfl rfl rfl rfl,fB rfl rfl rfl,fB rfl rfl rfl,fB rfl rfl rfl,fL rfl rfl rfl rfl,fS rfl rfl fun _ h=>h,trivial⟩) fun nxt fs B ⟨i0,i1,i2,i3,i4,i5⟩=>?_
   |refine V4 (fun (p:Int) (fs2 lv rf:List Int)=>0≤p∧p≤(nxt.length:Int)∧fs2=fs++lv∧fs2.Nodup∧(∀x∈fs2,Kn a0.f1 x)∧Upto nxt p fs2∧RefsIn a0.f1 lv rf∧rf.length≤18*lv.length) (fun p fs2 lv rf=>[(0,.yld 10),(1,.box 7 0),(2,.box 8 0),(3,.box 9 0),(5,.mp 11),(6,lI nxt),(7,.row 12),(8,.row 13),(20,lI nxt),(21,sI (nxt.length:Int)),(22,sI p)]) (fun p fs2 lv rf=>⟨[(0,.box (S30.c a0) false),(1,.box [sS a1] false),(2,.box [sI z48] false),(3,.box [.sc (.slice none 0 0)] false),(4,.set (B.map (Value.int .i64)) VT),(5,.box [.mp 4] false),(6,.frm [(2,lI a2),(5,.box 0 0),(6,.box 1 0),(9,.box 2 0),(10,.box 3 0),(11,.box 5 0)] Tc1),(7,.box (S30.c a0) false),(8,.box [lI a3] false),(9,.box [.sc (.map none)] false),(10,.loop D [(2,lI a2),(5,.box 0 0),(6,.box 1 0),(9,.box 2 0),(10,.box 3 0),(11,.box 5 0),(26,.fn 96 [] [.box 7 0,.box 8 0,.box 9 0])] .ready none),(11,.set (fs2.map (Value.int .i64)) VT),(12,.row (lv.map c_i64) 1 false 12),(13,.row (rf.map c_i64) 1 false 13)],14⟩) (fun p fs2 lv rf=>((nxt.length:Int)-p).toNat) (0:Int) fs [] [] ?_ (ft [(0,some 0),(1,some 1),(2,some 2),(3,some 3),(4,some 4),(5,some 5),(6,some 6),(7,some 7),(8,some 8),(9,some 9),(10,some 10),(11,some 11),(12,none),(13,none)] rfl rfl rfl ⟨fB rfl rfl rfl,fB rfl rfl rfl,fB rfl rfl rfl,fB rfl rfl rfl,fS rfl rfl fun _ h=>h,fX rfl rfl rfl (fun _=>rfl),fM rfl rfl rfl rfl,fB rfl rfl rfl,fB rfl rfl rfl,fB rfl rfl rfl,fL rfl rfl rfl rfl,fS rfl rfl fun _ h=>h,f0 rfl rfl,f0 rfl rfl,trivial⟩) fun p fs2 lv rf ⟨j0,j1,j2,j3,j4,j5,j6,j7⟩=>?_
   |refine yL [] [(0,.yld 10),(1,.box 7 0),(2,.box 8 0),(3,.box 9 0),(5,.mp 11),(6,lI nxt),(7,.row 12),(8,.row 13),(58,sB false)] d1 d2 d3 dk ⟨rfl,rfl,rfl,rfl,rfl,rfl,rfl,rfl,rfl,trivial⟩ rfl rfl fun Tc2=>?_
   |refine V2 (fun (q:Int) (B2:List Int)=>0≤q∧q≤(lv.length:Int)∧(∀y∈fs,y∈B2)∧Upto lv q B2) (fun q B2=>[(11,.box 5 0),(28,.row 12),(29,sI (lv.length:Int)),(30,sI q)]) (fun q B2=>⟨[(0,.box (S30.c a0) false),(1,.box [sS a1] false),(2,.box [sI z48] false),(3,.box [.sc (.slice none 0 0)] false),(4,.set (B2.map (Value.int .i64)) VT),(5,.box [.mp 4] false),(6,.frm [(2,lI a2),(5,.box 0 0),(6,.box 1 0),(9,.box 2 0),(10,.box 3 0),(11,.box 5 0)] Tc1),(7,.box (S30.c a0) false),(8,.box [lI a3] false),(9,.box [.sc (.map none)] false),(10,.loop D [(2,lI a2),(5,.box 0 0),(6,.box 1 0),(9,.box 2 0),(10,.box 3 0),(11,.box 5 0),(26,.fn 96 [] [.box 7 0,.box 8 0,.box 9 0])] .busy none),(11,.set (fs2.map (Value.int .i64)) VT),(12,.row (lv.map c_i64) 1 false 12),(13,.row (rf.map c_i64) 1 false 13),(14,.frm [(0,.yld 10),(1,.box 7 0),(2,.box 8 0),(3,.box 9 0),(5,.mp 11),(6,lI nxt),(7,.row 12),(8,.row 13),(58,sB false)] Tc2)],15⟩) (fun q B2=>((lv.length:Int)-q).toNat) (0:Int) B ?_ (ft [(0,some 0),(1,some 1),(2,some 2),(3,some 3),(4,some 4),(5,some 5),(6,some 6),(7,some 7),(8,some 8),(9,some 9),(10,some 10),(11,some 11),(12,some 12),(13,some 13),(14,some 14)] rfl rfl rfl ⟨fB rfl rfl rfl,fB rfl rfl rfl,fB rfl rfl rfl,fB rfl rfl rfl,fS rfl rfl fun _ h=>h,fX rfl rfl rfl (fun _=>rfl),fM rfl rfl rfl rfl,fB rfl rfl rfl,fB rfl rfl rfl,fB rfl rfl rfl,fL rfl rfl rfl rfl,fS rfl rfl fun _ h=>h,fR (f:=c_i64) rfl rfl fun _=>rfl,fR (f:=c_i64) rfl rfl fun _=>rfl,fM rfl rfl rfl rfl,trivial⟩) fun q B2 ⟨k0,k1,k2,k3⟩=>?_
   |refine wR (l:=lv) ?_ ?_ ?_
   |refine wL (l:=lv) ?_ ?_ fun y hy=>?_
   |refine upS B2 rfl ?_
   |refine ⟨⟨nx _,_⟩,?_,?_,(ft [(0,some 0),(1,some 1),(2,some 2),(3,some 3),(4,some 4),(5,some 5),(6,some 6),(7,some 7),(8,some 8),(9,some 9),(10,some 10),(11,some 11),(12,some 12),(13,some 13),(14,some 14)] rfl rfl rfl ⟨fB rfl rfl rfl,fB rfl rfl rfl,fB rfl rfl rfl,fB rfl rfl rfl,fS rfl rfl fun _ h=>h,fX rfl rfl rfl (fun _=>rfl),fM rfl rfl rfl rfl,fB rfl rfl rfl,fB rfl rfl rfl,fB rfl rfl rfl,fL rfl rfl rfl rfl,fS rfl rfl fun _ h=>h,fR (f:=c_i64) rfl rfl fun _=>rfl,fR (f:=c_i64) rfl rfl fun _=>rfl,fM rfl rfl rfl rfl,trivial⟩)⟩
   |refine ⟨⟨_,_,_⟩,?_,?_,(ft [(0,some 0),(1,some 1),(2,some 2),(3,some 3),(4,some 4),(5,some 5),(6,some 6),(7,some 7),(8,some 8),(9,some 9),(19,some 19),(11,some 11),(12,some 12)] rfl rfl rfl ⟨fB rfl rfl rfl,fB rfl rfl rfl,fB rfl rfl rfl,fB rfl rfl rfl,fS rfl rfl fun _ h=>h,fX rfl rfl rfl (fun _=>rfl),fX rfl rfl rfl (fun _=>rfl),fB rfl rfl rfl,fB rfl rfl rfl,fX rfl rfl rfl (fun _=>rfl),fL rfl rfl rfl rfl,fS rfl rfl fun _ h=>h,fR (f:=S65.c) rfl rfl fun _=>rfl,trivial⟩)⟩
   |refine ⟨⟨_,_,_⟩,?_,?_,(ft [(0,some 0),(1,some 1),(2,some 2),(3,some 3),(4,some 4),(5,some 5),(6,some 6),(7,some 7),(8,some 8),(9,some 9),(10,some 10),(11,some 11)] rfl rfl rfl ⟨fB rfl rfl rfl,fB rfl rfl rfl,fB rfl rfl rfl,fB rfl rfl rfl,fS rfl rfl fun _ h=>h,fX rfl rfl rfl (fun _=>rfl),fM rfl rfl rfl rfl,fB rfl rfl rfl,fB rfl rfl rfl,fB rfl rfl rfl,fL rfl rfl rfl rfl,fS rfl rfl fun _ h=>h,trivial⟩)⟩
   |refine ⟨_,_,deep0 (leafs_map (f:=c_i64) (fun _=>rfl) _),?_⟩
   |refine ⟨_,_,deep0 (leafs_map (f:=S65.c) (fun _=>rfl) _),?_⟩
   |refine lM ?_
   |refine wG (l:=nxt) ?_ ?_ (fun _=>rfl) fun x hx hm=>?_
   |refine lkS (fun hk=>?_) fun hk=>?_
   |refine upN fs2 ‹_› rfl ?_
   |refine wC (w50 _ _ ?_) fun z50 hz50=>?_
   |refine wA (f:=c_i64) (m:=[_]) rfl (fun _=>⟨rfl,rfl⟩) ?_ ?_ ?_
   |refine wA (f:=c_i64) (m:=_) rfl (fun _=>⟨rfl,rfl⟩) ?_ ?_ ?_
   |refine ⟨⟨nx _,_,_,_⟩,?_,?_,(ft [(0,some 0),(1,some 1),(2,some 2),(3,some 3),(4,some 4),(5,some 5),(6,some 6),(7,some 7),(8,some 8),(9,some 9),(10,some 10),(11,some 11),(12,some 15),(13,some 18)] rfl rfl rfl ⟨fB rfl rfl rfl,fB rfl rfl rfl,fB rfl rfl rfl,fB rfl rfl rfl,fS rfl rfl fun _ h=>h,fX rfl rfl rfl (fun _=>rfl),fM rfl rfl rfl rfl,fB rfl rfl rfl,fB rfl rfl rfl,fB rfl rfl rfl,fL rfl rfl rfl rfl,fS rfl rfl fun _ h=>h,fR (f:=c_i64) rfl rfl fun _=>rfl,fR (f:=c_i64) rfl rfl fun _=>rfl,trivial⟩)⟩
   |refine ⟨⟨nx _,fs2,lv,rf⟩,?_,?_,(ft [(0,some 0),(1,some 1),(2,some 2),(3,some 3),(4,some 4),(5,some 5),(6,some 6),(7,some 7),(8,some 8),(9,some 9),(10,some 10),(11,some 11),(12,some 12),(13,some 13)] rfl rfl rfl ⟨fB rfl rfl rfl,fB rfl rfl rfl,fB rfl rfl rfl,fB rfl rfl rfl,fS rfl rfl fun _ h=>h,fX rfl rfl rfl (fun _=>rfl),fM rfl rfl rfl rfl,fB rfl rfl rfl,fB rfl rfl rfl,fB rfl rfl rfl,fL rfl rfl rfl rfl,fS rfl rfl fun _ h=>h,fR (f:=c_i64) rfl rfl fun _=>rfl,fR (f:=c_i64) rfl rfl fun _=>rfl,trivial⟩)⟩
   |refine ⟨rfl,rfl,?_⟩
   |refine ⟨rfl,?_⟩
   |refine fI (Y:=Yf []) [(2,lI a2),(5,.box 0 0),(6,.box 1 0),(9,.box 2 0),(10,.box 3 0),(11,.box 5 0),(15,.box 14 0)] ⟨rfl,rfl,rfl,rfl,rfl,rfl,rfl,trivial⟩ Tryz.func49 (by kernel_rfl) fun Tc1=>?_
   |refine rgF [] [(2,lI a2),(5,.box 0 0),(6,.box 1 0),(9,.box 2 0),(10,.box 3 0),(11,.box 5 0),(15,.box 14 0),(40,.fn 96 [] [.box 16 0,.box 17 0,.box 18 0])] rfl ⟨rfl,rfl,rfl,rfl,rfl,rfl,rfl,rfl,trivial⟩ rfl Tryz.func96 (by kernel_rfl) rfl fun D2 d1 d2 d3 dk=>?_
   |refine V3 (fun (ny gs:List Int) (r:List S65)=>gs.Nodup∧(∀x∈gs,Kn a0.f1 x)∧(∀x∈gs,x∉B)∧(∀x∈ny,Kn a0.f1 x)∧ny.length≤1000∧r.map S65.f0=gs∧(r.length:Int)≤z48) (fun ny gs r=>[(0,.yld 19),(1,.box 7 0),(2,.box 8 0),(3,.box 9 0),(5,.mp 11),(6,lI ny)]) (fun ny gs r=>⟨[(0,.box (S30.c a0) false),(1,.box [sS a1] false),(2,.box [sI z48] false),(3,.box [.sc (.slice none 0 0)] false),(4,.set (B.map (Value.int .i64)) VT),(5,.box [.mp 4] false),(6,.box [.row 12] false),(7,.box (S30.c a0) false),(8,.box [lI a2] false),(9,.box [.mp 4] false),(19,.loop D2 [(2,lI a2),(5,.box 0 0),(6,.box 1 0),(9,.box 2 0),(10,.box 3 0),(11,.box 5 0),(15,.box 6 0),(40,.fn 96 [] [.box 7 0,.box 8 0,.box 9 0])] .ready none),(11,.set (gs.map (Value.int .i64)) VT),(12,.row (r.map S65.c) 29 false 12)],20⟩) (fun ny gs r=>a0.f1.length-gs.length) z97b [] [] ?_ (ft [(0,some 0),(1,some 1),(2,some 2),(3,some 3),(4,some 4),(5,some 5),(6,some 14),(7,some 16),(8,some 17),(9,some 18),(19,some 19),(11,some 20),(12,none)] rfl rfl rfl ⟨fB rfl rfl rfl,fB rfl rfl rfl,fB rfl rfl rfl,fB rfl rfl rfl,fS rfl rfl fun _ h=>h,fX rfl rfl rfl (fun _=>rfl),fX rfl rfl rfl (fun _=>rfl),fB rfl rfl rfl,fB rfl rfl rfl,fX rfl rfl rfl (fun _=>rfl),fL rfl rfl rfl rfl,fS rfl rfl fun _ h=>h,f0 rfl rfl,trivial⟩) fun ny gs r ⟨u0,u1,u2,u3,u4,u5,u6⟩=>?_
   |refine V4 (fun (p:Int) (gs2 ly ry:List Int)=>0≤p∧p≤(ny.length:Int)∧gs2=gs++ly∧gs2.Nodup∧(∀x∈gs2,Kn a0.f1 x)∧(∀x∈gs2,x∉B)∧ry.length≤18*ly.length) (fun p gs2 ly ry=>[(0,.yld 19),(1,.box 7 0),(2,.box 8 0),(3,.box 9 0),(5,.mp 11),(6,lI ny),(7,.row 13),(8,.row 14),(20,lI ny),(21,sI (ny.length:Int)),(22,sI p)]) (fun p gs2 ly ry=>⟨[(0,.box (S30.c a0) false),(1,.box [sS a1] false),(2,.box [sI z48] false),(3,.box [.sc (.slice none 0 0)] false),(4,.set (B.map (Value.int .i64)) VT),(5,.box [.mp 4] false),(6,.box [.row 12] false),(7,.box (S30.c a0) false),(8,.box [lI a2] false),(9,.box [.mp 4] false),(19,.loop D2 [(2,lI a2),(5,.box 0 0),(6,.box 1 0),(9,.box 2 0),(10,.box 3 0),(11,.box 5 0),(15,.box 6 0),(40,.fn 96 [] [.box 7 0,.box 8 0,.box 9 0])] .ready none),(11,.set (gs2.map (Value.int .i64)) VT),(12,.row (r.map S65.c) 29 false 12),(13,.row (ly.map c_i64) 1 false 13),(14,.row (ry.map c_i64) 1 false 14)],20⟩) (fun p gs2 ly ry=>((ny.length:Int)-p).toNat) (0:Int) gs [] [] ?_ (ft [(0,some 0),(1,some 1),(2,some 2),(3,some 3),(4,some 4),(5,some 5),(6,some 6),(7,some 7),(8,some 8),(9,some 9),(19,some 19),(11,some 11),(12,some 12),(13,none),(14,none)] rfl rfl rfl ⟨fB rfl rfl rfl,fB rfl rfl rfl,fB rfl rfl rfl,fB rfl rfl rfl,fS rfl rfl fun _ h=>h,fX rfl rfl rfl (fun _=>rfl),fX rfl rfl rfl (fun _=>rfl),fB rfl rfl rfl,fB rfl rfl rfl,fX rfl rfl rfl (fun _=>rfl),fL rfl rfl rfl rfl,fS rfl rfl fun _ h=>h,fR (f:=S65.c) rfl rfl fun _=>rfl,f0 rfl rfl,f0 rfl rfl,trivial⟩) fun p gs2 ly ry ⟨v0,v1,v2,v3,v4,v5,v6⟩=>?_
   |refine ⟨⟨nx _,_,_,_⟩,?_,?_,(ft [(0,some 0),(1,some 1),(2,some 2),(3,some 3),(4,some 4),(5,some 5),(6,some 6),(7,some 7),(8,some 8),(9,some 9),(19,some 19),(11,some 11),(12,some 12),(13,some 21),(14,some 24)] rfl rfl rfl ⟨fB rfl rfl rfl,fB rfl rfl rfl,fB rfl rfl rfl,fB rfl rfl rfl,fS rfl rfl fun _ h=>h,fX rfl rfl rfl (fun _=>rfl),fX rfl rfl rfl (fun _=>rfl),fB rfl rfl rfl,fB rfl rfl rfl,fX rfl rfl rfl (fun _=>rfl),fL rfl rfl rfl rfl,fS rfl rfl fun _ h=>h,fR (f:=S65.c) rfl rfl fun _=>rfl,fR (f:=c_i64) rfl rfl fun _=>rfl,fR (f:=c_i64) rfl rfl fun _=>rfl,trivial⟩)⟩
   |refine ⟨⟨nx _,gs2,ly,ry⟩,?_,?_,(ft [(0,some 0),(1,some 1),(2,some 2),(3,some 3),(4,some 4),(5,some 5),(6,some 6),(7,some 7),(8,some 8),(9,some 9),(19,some 19),(11,some 11),(12,some 12),(13,some 13),(14,some 14)] rfl rfl rfl ⟨fB rfl rfl rfl,fB rfl rfl rfl,fB rfl rfl rfl,fB rfl rfl rfl,fS rfl rfl fun _ h=>h,fX rfl rfl rfl (fun _=>rfl),fX rfl rfl rfl (fun _=>rfl),fB rfl rfl rfl,fB rfl rfl rfl,fX rfl rfl rfl (fun _=>rfl),fL rfl rfl rfl rfl,fS rfl rfl fun _ h=>h,fR (f:=S65.c) rfl rfl fun _=>rfl,fR (f:=c_i64) rfl rfl fun _=>rfl,fR (f:=c_i64) rfl rfl fun _=>rfl,trivial⟩)⟩
   |refine yL [] [(0,.yld 19),(1,.box 7 0),(2,.box 8 0),(3,.box 9 0),(5,.mp 11),(6,lI ny),(7,.row 13),(8,.row 14),(58,sB false)] d1 d2 d3 dk ⟨rfl,rfl,rfl,rfl,rfl,rfl,rfl,rfl,rfl,trivial⟩ rfl rfl fun Tc3=>?_
   |refine V2 (fun (q:Int) (r2:List S65)=>0≤q∧q≤(ly.length:Int)∧Pre gs ly q r2∧(r2.length:Int)≤z48) (fun q r2=>[(5,.box 0 0),(6,.box 1 0),(9,.box 2 0),(10,.box 3 0),(15,.box 6 0),(42,.row 13),(43,sI (ly.length:Int)),(44,sI q)]) (fun q r2=>⟨[(0,.box (S30.c a0) false),(1,.box [sS a1] false),(2,.box [sI z48] false),(3,.box [.sc (.slice none 0 0)] false),(4,.set (B.map (Value.int .i64)) VT),(5,.box [.mp 4] false),(6,.box [.row 12] false),(7,.box (S30.c a0) false),(8,.box [lI a2] false),(9,.box [.mp 4] false),(19,.loop D2 [(2,lI a2),(5,.box 0 0),(6,.box 1 0),(9,.box 2 0),(10,.box 3 0),(11,.box 5 0),(15,.box 6 0),(40,.fn 96 [] [.box 7 0,.box 8 0,.box 9 0])] .busy none),(11,.set (gs2.map (Value.int .i64)) VT),(12,.row (r2.map S65.c) 29 false 12),(13,.row (ly.map c_i64) 1 false 13),(14,.row (ry.map c_i64) 1 false 14),(20,.frm [(0,.yld 19),(1,.box 7 0),(2,.box 8 0),(3,.box 9 0),(5,.mp 11),(6,lI ny),(7,.row 13),(8,.row 14),(58,sB false)] Tc3)],21⟩) (fun q r2=>((ly.length:Int)-q).toNat) (0:Int) r ?_ (ft [(0,some 0),(1,some 1),(2,some 2),(3,some 3),(4,some 4),(5,some 5),(6,some 6),(7,some 7),(8,some 8),(9,some 9),(19,some 19),(11,some 11),(12,some 12),(13,some 13),(14,some 14),(20,some 20)] rfl rfl rfl ⟨fB rfl rfl rfl,fB rfl rfl rfl,fB rfl rfl rfl,fB rfl rfl rfl,fS rfl rfl fun _ h=>h,fX rfl rfl rfl (fun _=>rfl),fX rfl rfl rfl (fun _=>rfl),fB rfl rfl rfl,fB rfl rfl rfl,fX rfl rfl rfl (fun _=>rfl),fL rfl rfl rfl rfl,fS rfl rfl fun _ h=>h,fR (f:=S65.c) rfl rfl fun _=>rfl,fR (f:=c_i64) rfl rfl fun _=>rfl,fR (f:=c_i64) rfl rfl fun _=>rfl,fM rfl rfl rfl rfl,trivial⟩) fun q r2 ⟨w0,w1,w2,w3⟩=>?_
   |refine ⟨_,rfl,?_⟩
  |exact List.nodup_nil
  |(have:=lv_le j2 j3 j4;omega)
  |(have:=lv_le j2 j3 j4;(simp (disch:=omega) only [ls]<;>omega))
  |(have:=lv_le v2 v3 v4;(simp (disch:=omega) only [ls]<;>omega))
  |exact mea_lv j2 ‹_› j3 j4
  |exact mea_lv v2 ‹_› v3 v4
  |exact fun x hx=>((hz97c.2 x).1 hx).2
  |exact fun x hx=>((hz97b.2 x).1 hx).2
  |exact fun x hx=>((hz97d.2 x).1 hx).2
  |exact all_app j2 k2 (upto_all k3 ‹_›)
  |exact pf_step2 j2 i5 (upto_all j5 ‹_›) j6 hz97c.2
  |(have:=lv_le v2 v3 v4;have:=hz97d.1;omega)
  |(have:=lv_le v2 v3 v4;omega)
  |(have:=lv_le v2 v3 v4;have:=eb_of g1 (u3 _ hm) hz50;omega)
  |(have:=lv_le v2 v3 v4;have:=eb_of g1 (u3 _ hm) hz50;simp only [List.length_append,List.length_singleton];omega)
  |exact nodup_snoc v3 ‹_›
  |exact snoc_all v4 (u3 _ hm)
  |exact snoc_all v5 ‹_›
  |exact app_snoc v2
  |exact eb_get g1 (v4 _ (mem_lv v2 hy)) hz50
  |exact pre_zero u5
  |(have:=lv_le v2 v3 v4;exact pre_next w0 (by omega) hy w2 (hz51.2.trans (ev_of (v4 _ (mem_lv v2 hy)) hz50).2.2))
  |exact pre_all v2 w2 ‹_›
  |exact pre_nodup v2 w2 v3
  |exact pre_in v2 w2 v4
  |exact nr_of i2 i5 (nil_in ‹_›) (pre_in v2 w2 v5)
  |exact nr_of i2 i5 (lv_in j2 ‹_› j5 ‹_›) (pre_in v2 w2 v5)
  |exact u5.symm ▸ u0
  |exact u5.symm ▸ u1
  |exact nr_of i2 i5 (nil_in ‹_›) (u5.symm ▸ u2)
  |exact nr_of i2 i5 (lv_in j2 ‹_› j5 ‹_›) (u5.symm ▸ u2)
  |(have:=hz48.1 (by decide);have:=hz48.2;omega)
  |exact fun x hx=>((hz97.2 x).1 hx).2
  |exact pf_zero hz97.2
  |exact upto_next j0 (by omega) hx j5 (fun y h=>h) ‹_›
  |exact upto_next j0 (by omega) hx j5 (fun y h=>List.mem_append_left _ h) (List.mem_append_right _ (List.mem_singleton.2 rfl))
  |(have:=lv_le j2 j3 j4;have:=eb_of g1 (i3 _ hm) hz50;omega)
  |(have:=lv_le j2 j3 j4;have:=eb_of g1 (i3 _ hm) hz50;simp only [List.length_append,List.length_singleton];omega)
  |exact upto_zero
  |(have:=lv_le j2 j3 j4;exact upto_ins k0 (by omega) hy k3)
  |exact all_ins k2
  |exact nodup_snoc j3 ‹_›
  |exact snoc_all j4 (i3 _ hm)
  |exact refs_next j6 (ev_of (i3 _ hm) hz50).1
  |exact app_snoc j2
  |dsimp only
  |with_reducible apply And.intro
  |(simp (disch:=omega) only [ls]<;>omega)
  |contradiction
  |intro hr
end Go.Abs.RM
