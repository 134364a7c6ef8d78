/- Of ServerHides: lemmas. -/
import Derived.Test.YtlhdbnmgiaoeeaaGreatUAi
import Derived.Test.YtlhdbnmgiaoeeaaGreatUAe
import Derived.Test.YtlhdbnmgiaoeeaaGreatProg
import Derived.Lib.Strings
import Derived.Lib.Slices
import Derived.Lib.Walk
import Derived.Lib.Bytealg
import Derived.Tactics
import Derived.Tactics2
import Derived.Defers
import Derived.Recover
import Derived.KernelRfl
import Derived.Laws.Pointers
import Derived.Shelf.Sort.Plain
import Derived.Maps.RangeWalk
import Derived.OwnWalk
import Derived.WalkKit
import Derived.ProofKit
import Derived.LoopTactic
import Derived.Handy
import Derived.Below
import Derived.Sort.OwnSortedInts
import Derived.Lib.Hide
import Derived.Lib.IndexBytes
import Derived.Laws.RangeString
import Derived.Deep.LoopGhost
import Derived.WalkSmall
set_option linter.all false
section
namespace Go.Abs.RM
open Go.Proofs
set_option maxRecDepth 100000
set_option maxHeartbeats 4000000
def WQv {α:Type} (f:FuncId) (args:List WV) (en:α->WV) (Q:α->Prop):Prop:=WValid P f args (λz=>∃r,z=en r/\Q r)
def WOQ {α:Type} (f:FuncId) (args:List WV) (s:Nat) (b:Bool) (c:α->List WV) (Q:List α->Prop):Prop:=WOwn P f args s b (λes=>∃r,es=r.map c/\Q r)
def WUQ {α:Type} (f:FuncId) (post:List WV) (s:Nat) (l:List α) (c:α->List WV) (Q:List α->Prop):Prop:=WUpd P f post s (l.map c) (λes=>∃r,es=r.map c/\Q r)
def WTQ {α:Type} (f:FuncId) (post:List WV) (s:Nat) (l:List α) (c:α->List WV) (Q:List α->Prop):Prop:=WSet P f post s (l.map c) (λes=>∃r,es=r.map c/\Q r)
section
variable {α β:Type}
theorem wO {g:FuncId} {args:List WV} {s:Nat} {b:Bool} {c:α->List WV} {Q:List α->Prop} {X:Nat->Bool->List (List WV)->Prop} {Y Z:Prop} (ok:WOQ g args s b c Q) (h:∀z,Q z->X s b (z.map c)):Z\/(∃s b G,WOwn P g args s b G/\∀v,G v->X s b v)\/Y:=
 .inr (.inl ⟨_,_,_,ok,λv ⟨r,e,q⟩=>by grind⟩)
theorem wU {g:FuncId} {vs post:List WV} {l:List α} {c:α->List WV} {objs:List (Nat×WO)} {m s rt:Nat} {Q:List α->Prop} {X:Nat->Nat->Nat->List (List WV)->Prop} {Y Z V:Prop} (hl:leafs (l.map c)) (ok:WUQ g post s l c Q) (h:∀z,Q z->X m s rt (z.map c)) (e1:vs=.row m::post) (e2:lk objs m=some (.row (l.map c) s false rt)) (e3:post.all leafB=true) :
 Y\/Z\/(∃m post es s rt G,vs=.row m::post/\lk objs m=some (.row es s false rt)/\leafs es/\post.all leafB=true/\WUpd P g post s es G/\∀es',G es'->X m s rt es')\/V:=
 .inr (.inr (.inl ⟨_,_,_,_,_,_,e1,e2,hl,e3,ok,λv ⟨r,e,q⟩=>by grind⟩))
theorem wT {g:FuncId} {vs post:List WV} {l:List α} {c:α->List WV} {objs:List (Nat×WO)} {m s rt:Nat} {Q:List α->Prop} {X:Nat->Nat->Nat->List (List WV)->Prop} {Y Z V U:Prop} (hl:leafs (l.map c)) (ok:WTQ g post s l c Q) (h:∀z,Q z->X m s rt (z.map c)) (e1:vs=.row m::post) (e2:lk objs m=some (.row (l.map c) s false rt)) (e3:post.all leafB=true) :
 Y\/Z\/V\/(∃m post es s rt G,vs=.row m::post/\lk objs m=some (.row es s false rt)/\leafs es/\post.all leafB=true/\WSet P g post s es G/\∀es',G es'->X m s rt es')\/U:=
 .inr (.inr (.inr (.inl ⟨_,_,_,_,_,_,e1,e2,hl,e3,ok,λv ⟨r,e,q⟩=>by grind⟩)))
theorem wK {b:Nat} {c:Int} {f:α->List WV} {z:α} {zs:List WV} {X:List (List WV)->Prop} (e:zs=f z) (h0:0<=c) (h1:c<=1099511627776) (h2:(b:Int)*c<=140737488355328) (h:X ((List.replicate c.toNat z).map f)):0<=c/\c<=c/\c<=2 ^ 40/\(b:Int)*c<=2 ^ 47/\∃y,List.replicate c.toNat zs=y/\X y:=
 ⟨h0,Int.le_refl _,h1,h2,_,by rw [List.map_replicate,e],h⟩
theorem wN {l m:List α} {f:α->List WV} {b s:Nat} {ys:List (List WV)} {X:List (List WV)->Prop} (hy:ys.length=m.length) (hc:cellP s ys) (e:l.map f++ys=(l++m).map f) (h1:(2*(l.length+m.length)+192)*b<=281474976710656) (h2:l.length+m.length<=1152921504606846976) (h:X ((l++m).map f)):roomP b ((l.map f).length+ys.length)/\cellP s ys/\∃zs,l.map f++ys=zs/\X zs:=by
 rw [List.length_map,hy]
 exact ⟨⟨h1,h2⟩,hc,_,e,h⟩
theorem wW {l:List α} {f:α->List WV} {k n s:Nat} {base ys zs:List (List WV)} {X:List (List WV)->Prop} {Z:Prop} (hy:ys.length=l.length) (hc:cellP s ys) (e:base++ys=zs) (h0:0<l.length) (h1:(2*(n+l.length)+192)*k<=281474976710656) (h2:n+l.length<=1152921504606846976) (h:X zs):(ys≠[]->roomP k (n+ys.length)/\cellP s ys/\∃zs,base++ys=zs/\X zs)/\(ys=[]->Z):=by
 rw [hy]
 exact ⟨λ_=>⟨⟨h1,h2⟩,hc,_,e,h⟩,λh=>by grind⟩
theorem bD {p:Prop} [Decidable p] {X Y:Prop} (h1:p->X) (h2:¬p->Y):Bool.rec (motive:=λ_=>Prop) Y X (decide p):=br (λh=>h1 (of_decide_eq_true h)) λh=>h2 (of_decide_eq_false h)
theorem bI {a b:Int} {X Y:Prop} (h1:a=b->X) (h2:a≠b->Y):Bool.rec (motive:=λ_=>Prop) Y X (a==b):=br (λh=>h1 (eq_of_beq h)) λh=>h2 (by grind)
theorem bJ {a b:Int} {X Y:Prop} (h1:a≠b->X) (h2:a=b->Y):Bool.rec (motive:=λ_=>Prop) Y X (!(a==b)):=br (λh=>h1 (by grind)) λh=>h2 (by grind)
theorem bN {b:Bool} {X Y:Prop} (h1:b=false->X) (h2:b=true->Y):Bool.rec (motive:=λ_=>Prop) Y X (!b):=br (λh=>h1 (by grind)) λh=>h2 (by grind)
theorem bS {a b:ByteArray} {X Y:Prop} (h1:a=b->X) (h2:a≠b->Y):Bool.rec (motive:=λ_=>Prop) Y X (a.toList==b.toList):=br (λh=>h1 (str_inj (eq_of_beq h))) λh=>h2 (λe=>by grind)
theorem bT' {a b:ByteArray} {X Y:Prop} (h1:a≠b->X) (h2:a=b->Y):Bool.rec (motive:=λ_=>Prop) Y X (!(a.toList==b.toList)):=bN (λh=>h1 (λe=>by grind)) λh=>h2 (str_inj (eq_of_beq h))
theorem wG {l:List α} {f:α->List WV} {i:Int} {s:Nat} {X:List WV->Prop} (h0:0<=i) (h1:i<(l.length:Int)) (hl:∀a,(f a).length=s) (h:∀a,l[i.toNat]?=some a->a∈l->X (f a)):0<=i/\∃cs,(l.map f)[i.toNat]?=some cs/\cs.length=s/\X cs:=by
 simp_all
theorem wE {l:List α} {f:α->List WV} {i:Int} {s:Nat} {x:α} {X:List WV->Prop} (he:l[i.toNat]?=some x) (h0:0<=i) (hl:∀a,(f a).length=s) (h:X (f x)):0<=i/\∃cs,(l.map f)[i.toNat]?=some cs/\cs.length=s/\X cs:=
 ⟨h0,f x,at_ _ he,hl _,h⟩
theorem wA {l m:List α} {f:α->List WV} {b s:Nat} {ys:List (List WV)} {X:List (List WV)->Prop} (e:ys=m.map f) (hc:∀a,(f a).length=s/\(f a).all storableW=true) (h1:(2*(l.length+m.length)+192)*b<=281474976710656) (h2:l.length+m.length<=1152921504606846976) (h:X ((l++m).map f)):roomP b ((l.map f).length+ys.length)/\cellP s ys/\∃zs,l.map f++ys=zs/\X zs:=by
 subst e
 rw [List.length_map,List.length_map]
 exact ⟨⟨h1,h2⟩,cellP_map hc _,_,List.map_append.symm,h⟩
theorem wC {g:FuncId} {args:List WV} {en:α->WV} {Q:α->Prop} {X:WV->Prop} {Y:Prop} (ok:WQv g args en Q) (h:∀z,Q z->X (en z)):(∃G,WValid P g args G/\∀v,G v->X v)\/Y:=
 .inl ⟨_,ok,λv ⟨r,e,q⟩=>by grind⟩
theorem wS {a:ByteArray} {i:Int} {X:UInt8->Prop} (h0:0<=i) (h1:i<(a.size:Int)) (h:∀b,a[i.toNat]?=some b->X b):0<=i/\∃b,a[i.toNat]?=some b/\X b:=by
 simp_all
theorem wR {l:List α} {f:α->List WV} {i:Int} {X:Prop} (h0:0<=i) (h1:i<(l.length:Int)) (h:X):0<=i/\i.toNat<(l.map f).length/\X:=⟨h0,by grind,h⟩
theorem wL {l:List α} {f:α->List WV} {i:Int} {X:List WV->Prop} (h0:0<=i) (h1:i<(l.length:Int)) (h:∀a,l[i.toNat]?=some a->X (f a)):∃cs,(l.map f)[i.toNat]?=some cs/\X cs:=by
 simp_all
theorem wLE {l:List α} {f:α->List WV} {i:Int} {x:α} {X:List WV->Prop} (he:l[i.toNat]?=some x) (h:X (f x)):∃cs,(l.map f)[i.toNat]?=some cs/\X cs:=⟨f x,at_ _ he,h⟩
theorem wA0 {m:List α} {f:α->List WV} {b s:Nat} {ys:List (List WV)} {X:Prop} (e:ys=m.map f) (hc:∀a,(f a).length=s/\(f a).all storableW=true) (h1:(2*m.length+192)*b<=281474976710656) (h2:m.length<=1152921504606846976) (h:X):roomP b ys.length/\cellP s ys/\X:=by
 subst e
 rw [List.length_map]
 exact ⟨⟨h1,h2⟩,cellP_map hc _,h⟩
theorem slB {l:List α} {f:α->List WV} (a:Nat) {X:List (List WV)->Prop} (h:X (((l.drop a).take (l.length-a)).map f)):∃zs,((l.map f).drop a).take ((l.map f).length-a)=zs/\X zs:=⟨_,by rw [List.length_map,List.map_take,List.map_drop],h⟩
theorem slA {l:List α} {f:α->List WV} (a n:Nat) {X:List (List WV)->Prop} (h:X (((l.drop a).take n).map f)):∃zs,((l.map f).drop a).take n=zs/\X zs:=⟨_,by rw [List.map_take,List.map_drop],h⟩
theorem wnB {l:List α} {f:α->List WV} (a:Nat) {X:Nat->Prop} (h:X (l.length-a)):∃n,(l.map f).length-a=n/\X n:=⟨_,by rw [List.length_map],h⟩
theorem V0 {Y:YP} {T:WT} {W:WH} {x:Code} {Q:WQ} (I:Prop) (sh:WT) (hp:WH) (m:Nat) (hI:I) (fit:Suits T W (sh) (hp))
 (step:I->Wk P tabL Y x (sh) (hp) (λe T' W'=>match e with | .normal=>∃q:Unit,I/\m<m/\Suits T' W' (sh) (hp) | .exit id=>Q (.exit id) T' W' | .ret=>Q .ret T' W' | .pan v=>Q (.pan v) T' W')):LoopW P Y x T W Q:=
 loopW tabOk mixed (S:=Unit) (λq=>sh) (λq=>hp) (λq=>I) (λq=>m) () hI fit λq h=>step h
theorem V1 {A0:Type} {Y:YP} {T:WT} {W:WH} {x:Code} {Q:WQ} (I:A0->Prop) (sh:A0->WT) (hp:A0->WH) (m:A0->Nat) (s0:A0) (hI:I s0) (fit:Suits T W (sh s0) (hp s0))
 (step:∀s0,I s0->Wk P tabL Y x (sh s0) (hp s0) (λe T' W'=>match e with | .normal=>∃q:A0,I q/\m q<m s0/\Suits T' W' (sh q) (hp q) | .exit id=>Q (.exit id) T' W' | .ret=>Q .ret T' W' | .pan v=>Q (.pan v) T' W')):LoopW P Y x T W Q:=
 loopW tabOk mixed (S:=A0) (λq=>sh q) (λq=>hp q) (λq=>I q) (λq=>m q) s0 hI fit λq h=>step q h
theorem V2 {A0 A1:Type} {Y:YP} {T:WT} {W:WH} {x:Code} {Q:WQ} (I:A0->A1->Prop) (sh:A0->A1->WT) (hp:A0->A1->WH) (m:A0->A1->Nat) (s0:A0) (s1:A1) (hI:I s0 s1) (fit:Suits T W (sh s0 s1) (hp s0 s1))
 (step:∀s0 s1,I s0 s1->Wk P tabL Y x (sh s0 s1) (hp s0 s1) (λe T' W'=>match e with | .normal=>∃q:A0×A1,I q.1 q.2/\m q.1 q.2<m s0 s1/\Suits T' W' (sh q.1 q.2) (hp q.1 q.2) | .exit id=>Q (.exit id) T' W' | .ret=>Q .ret T' W' | .pan v=>Q (.pan v) T' W')):LoopW P Y x T W Q:=
 loopW tabOk mixed (S:=A0×A1) (λq=>sh q.1 q.2) (λq=>hp q.1 q.2) (λq=>I q.1 q.2) (λq=>m q.1 q.2) ⟨s0,s1⟩ hI fit λq h=>step q.1 q.2 h
theorem V3 {A0 A1 A2:Type} {Y:YP} {T:WT} {W:WH} {x:Code} {Q:WQ} (I:A0->A1->A2->Prop) (sh:A0->A1->A2->WT) (hp:A0->A1->A2->WH) (m:A0->A1->A2->Nat) (s0:A0) (s1:A1) (s2:A2) (hI:I s0 s1 s2) (fit:Suits T W (sh s0 s1 s2) (hp s0 s1 s2))
 (step:∀s0 s1 s2,I s0 s1 s2->Wk P tabL Y x (sh s0 s1 s2) (hp s0 s1 s2) (λe T' W'=>match e with | .normal=>∃q:A0×A1×A2,I q.1 q.2.1 q.2.2/\m q.1 q.2.1 q.2.2<m s0 s1 s2/\Suits T' W' (sh q.1 q.2.1 q.2.2) (hp q.1 q.2.1 q.2.2) | .exit id=>Q (.exit id) T' W' | .ret=>Q .ret T' W' | .pan v=>Q (.pan v) T' W')):LoopW P Y x T W Q:=
 loopW tabOk mixed (S:=A0×A1×A2) (λq=>sh q.1 q.2.1 q.2.2) (λq=>hp q.1 q.2.1 q.2.2) (λq=>I q.1 q.2.1 q.2.2) (λq=>m q.1 q.2.1 q.2.2) ⟨s0,s1,s2⟩ hI fit λq h=>step q.1 q.2.1 q.2.2 h
theorem V4 {A0 A1 A2 A3:Type} {Y:YP} {T:WT} {W:WH} {x:Code} {Q:WQ} (I:A0->A1->A2->A3->Prop) (sh:A0->A1->A2->A3->WT) (hp:A0->A1->A2->A3->WH) (m:A0->A1->A2->A3->Nat) (s0:A0) (s1:A1) (s2:A2) (s3:A3) (hI:I s0 s1 s2 s3) (fit:Suits T W (sh s0 s1 s2 s3) (hp s0 s1 s2 s3))
 (step:∀s0 s1 s2 s3,I s0 s1 s2 s3->Wk P tabL Y x (sh s0 s1 s2 s3) (hp s0 s1 s2 s3) (λe T' W'=>match e with | .normal=>∃q:A0×A1×A2×A3,I q.1 q.2.1 q.2.2.1 q.2.2.2/\m q.1 q.2.1 q.2.2.1 q.2.2.2<m s0 s1 s2 s3/\Suits T' W' (sh q.1 q.2.1 q.2.2.1 q.2.2.2) (hp q.1 q.2.1 q.2.2.1 q.2.2.2) | .exit id=>Q (.exit id) T' W' | .ret=>Q .ret T' W' | .pan v=>Q (.pan v) T' W')):LoopW P Y x T W Q:=
 loopW tabOk mixed (S:=A0×A1×A2×A3) (λq=>sh q.1 q.2.1 q.2.2.1 q.2.2.2) (λq=>hp q.1 q.2.1 q.2.2.1 q.2.2.2) (λq=>I q.1 q.2.1 q.2.2.1 q.2.2.2) (λq=>m q.1 q.2.1 q.2.2.1 q.2.2.2) ⟨s0,s1,s2,s3⟩ hI fit λq h=>step q.1 q.2.1 q.2.2.1 q.2.2.2 h
end
theorem sz0:(⟨#[]⟩:ByteArray).size=0:=rfl
end Go.Abs.RM
end
section
namespace Go.Abs.RM
attribute [grind] CB EB EM PutP Got IS ids zL
attribute [grind] nx_eq wrap_i64 sz0 IS.len Got.eb Got.mem Got.ids txt_len strL_len List.length_drop List.length_take
end Go.Abs.RM
end
section
namespace Go.Abs.RM
noncomputable section
structure S422 where
 f0:Int
 f1:ByteArray
 deriving Inhabited
def S422.c (e:S422):List WV:=[.sc (.int .i64 e.f0),.sc (.string e.f1)]
structure S393 where
 f0:Int
 f1:Int
 deriving Inhabited
def S393.c (e:S393):List WV:=[.sc (.int .i64 e.f0),.sc (.int .i64 e.f1)]
structure S197 where
 f0:Int
 f1:Int
 f2:Int
 deriving Inhabited
def S197.c (e:S197):List WV:=[.sc (.int .i64 e.f0),.sc (.int .i64 e.f1),.sc (.int .i64 e.f2)]
structure S279 where
 f0:List Int
 deriving Inhabited
def S279.c (e:S279):List WV:=[.lst (e.f0.map c_u8)]
end
end Go.Abs.RM
end
section
namespace Go.Abs.RM
open Go.Proofs
theorem sz58:(⟨#[58]⟩:ByteArray).size=1:=rfl
theorem pos_ne {a:ByteArray} (h:a≠⟨#[]⟩):0<(a.size:Int):=by
 rcases Nat.eq_zero_or_pos a.size with q | q
 ·exact absurd (by cases a;rename_i d;cases d;rename_i l;cases l with | nil=>rfl | cons _ _=>cases q) h
 ·omega
theorem ext_le (s:ByteArray) (i j:Nat):(s.extract i j).size<=s.size:=by rw [ByteArray.size_extract];omega
structure A7 where
 f0:Int
 f1:Int
 f2:Int
 f3:Int
 f4:Int
 f5:Int
 f6:Int
def A7.c (e:A7):List WV:=[.sc (.int .i64 e.f0),.sc (.int .i64 e.f1),.sc (.int .i64 e.f2),.sc (.int .i64 e.f3),.sc (.int .i64 e.f4),.sc (.int .i64 e.f5),.sc (.int .i64 e.f6)]
def A7.l (e:A7):List Int:=[e.f0,e.f1,e.f2,e.f3,e.f4,e.f5,e.f6]
def intCell:List WV->Bool
 |[.sc (.int .i64 _)]=>true
 |_=>false
theorem arrG {es:List (List WV)} {i m:Int} {X:List WV->Prop} (hc:es.all intCell=true) (hl:m=(es.length:Int)) (h0:0<=i) (hi:i<m) (h:∀x:Int,X [.sc (.int .i64 x)]):∃cs,es[i.toNat]?=some cs/\X cs:=by
 have hlt:i.toNat<es.length:=by omega
 have hm:es[i.toNat]∈es:=List.getElem_mem hlt
 have:=List.all_eq_true.1 hc _ hm
 refine ⟨es[i.toNat],List.getElem?_eq_getElem hlt,?_⟩
 revert this
 generalize es[i.toNat]=c
 intro hq
 unfold intCell at hq
 split at hq
 ·exact h _
 ·cases hq
theorem shlG {F:WV->Prop} {t:TypeId} {k j:IntKind} {a b:Int} (h:0<=b) (X:∀v:Int,F (.sc (.int k v))):giveW ⟨[],0⟩ (λv _ _=>F v) ⟨[],[]⟩ (scBin tabL .shl t (.sc (.int k a)) (.sc (.int j b))):=by
 have e1:scBin tabL .shl t (.sc (.int k a)) (.sc (.int j b))=some (.sc (.int k (k.wrap (a*2 ^ min b.toNat k.bits)))):=by
  show (pureVal (if b<0 then _ else _)).map WV.sc=_
  rw [if_neg (by omega)]
  rfl
 rw [e1]
 exact X _
theorem arr3 {a m:Int} {L:Prop} (h0:0<=a) (h1:a<m) (h:L):0<=a/\a<m/\L:=⟨h0,h1,h⟩
theorem arrC {a b:Int} {X Y:Prop} (h1:a=b->X) (h2:Y):(a=b->X)/\Y:=⟨h1,h2⟩
theorem cb_pick {a c:S61} (g:CB a 400 100) (h0:c.f0=zS\/c.f0=a.f0) (h4:c.f4=zS\/c.f4=a.f4) (h5:c.f5=[]\/c.f5=a.f5) (h6:c.f6=[]\/c.f6=a.f6) (h7:c.f7=ze59\/c.f7=a.f7):CB c 400 100:=by
 unfold CB at *
 have z:zS.size=0:=rfl
 have e0:ze59.f0=[]:=rfl
 have e1:ze59.f1=[]:=rfl
 rcases h0 with h0 | h0<;>rcases h4 with h4 | h4<;>rcases h5 with h5 | h5<;>rcases h6 with h6 | h6<;>rcases h7 with h7 | h7<;>(rw [h0,h4,h5,h6,h7];simp_all)
theorem u8_lo (x:Int):0<=IntKind.u8.wrap x:=by
 show 0<=x % 2 ^ 8
 omega
theorem u8_hi {a:ByteArray} (h:a.size=256) (x:Int):IntKind.u8.wrap x<(a.size:Int):=by
 rw [h]
 show x % 2 ^ 8<256
 omega
theorem u64_lo (x:Int):0<=IntKind.u64.wrap x:=by
 show 0<=x % 2 ^ 64
 omega
theorem u64_hi (x:Int):IntKind.u64.wrap x<18446744073709551616:=by
 show x % 2 ^ 64<_
 omega
end Go.Abs.RM
end
section
namespace Go.Abs
def zi (n:Int):Value:=.int .i64 n
def zs (b:ByteArray):Value:=.string b
def nsl:Value:=.slice none 0 0
def u8s (l:List Int):List (List AV):=l.map λn=>[.sc (.int .u8 n)]
def i64s (l:List Int):List (List AV):=l.map λn=>[.sc (.int .i64 n)]
structure Ent where
 f:FuncId
 args:List AV
 out:Out
def findE (f:FuncId) (args:List AV):List Ent->Option Out
 |[]=>none
 |e::es=>bif Nat.beq e.f f then (bif eqAVs e.args args then some e.out else findE f args es) else findE f args es
theorem findE_ok {P:Program} {f:FuncId} {args:List AV} {r:Out}:∀{es:List Ent},(∀e∈es,Valid P e.f e.args e.out)->findE f args es=some r->Valid P f args r
 |[],_,h=>by cases h
 |e::es,he,h=>by
  simp only [findE] at h
  cases h1:Nat.beq e.f f with
  |false=>
   rw [h1] at h
   exact findE_ok (λx hx=>he x (by simp [hx])) h
  |true=>
   rw [h1] at h
   cases h2:eqAVs e.args args with
   |false=>
    rw [h2] at h
    exact findE_ok (λx hx=>he x (by simp [hx])) h
   |true=>
    rw [h2] at h
    cases h
    have:=he e (by simp)
    rwa [Nat.eq_of_beq_eq_true h1,eqAVs_eq h2] at this
structure Spec where
 s1:FuncId->List AV->(FuncId->List AV->Option Out)->Option Out
 s2:FuncId->List AV->Heap->(FuncId->List AV->Heap->Option (Out×Heap))->Option (Out×Heap)
 meth:TypeId->String->Option FuncId:=λ_ _=>none
structure SpecOK (P:Program) (S:Spec):Prop where
 s1:∀c1,(∀f args r,c1 f args=some r->Valid P f args r)->∀f args r,S.s1 f args c1=some r->Valid P f args r
 s2:∀c2,(∀f args H r H',c2 f args H=some (r,H')->Valid2 P f args H r H')->∀f args H r H',S.s2 f args H c2=some (r,H')->Valid2 P f args H r H'
 meth:∀t m f,S.meth t m=some f->MethOK P t m f:=by intro _ _ _ h;cases h
def mkE (P:Program) (inl own:List FuncId) (S:Spec) (es:List Ent):Env where
 tab:=tabT P
 fn:=fnT P
 isInl:=λf=>inl.any λg=>Nat.beq g f
 isOwn:=λf=>own.any λg=>Nat.beq g f
 spec:=λf args c1=>match findE f args es with
  |some r=>some r
  |none=>S.s1 f args c1
 spec2:=S.s2
 meth:=S.meth
theorem mkE_ok {P : Program} {inl own : List FuncId} {S : Spec} {es : List Ent} (hm : P.follows .mixedOrders = true) (hn : P.funcs.toList.all (λfn => !(fn.name == "runtime.NumGoroutine")) = true) (hS : SpecOK P S) (he : ∀ e ∈ es, Valid P e.f e.args e.out) :
 EnvOK P (mkE P inl own S es) where
 tab:=tabT_ok P
 mixed:=hm
 fn:=λ_ _ h=>fnT_ok hn h
 spec:=λc1 hc f args r h=>by
  simp only [mkE] at h
  split at h
  ·rename_i hf;cases h;exact findE_ok he hf
  ·exact hS.s1 c1 hc f args r h
 spec2:=hS.s2
 meth:=hS.meth
def isOut:Option Out->Out->Bool
 |some (.ret a),.ret b=>eqAV a b
 |some (.pan a),.pan b=>eqAV a b
 |_,_=>false
theorem isOut_eq {x:Option Out} {r:Out} (h:isOut x r=true):x=some r:=by
 unfold isOut at h
 split at h
 ·rw [eqAV_eq h]
 ·rw [eqAV_eq h]
 ·cases h
theorem ran {P:Program} {E:Env} (ok:EnvOK P E) (fuel n:Nat) {f:FuncId} {args:List AV} {r:Out} (h:isOut ((ev E fuel n).c1 f args) r=true):Valid P f args r:=ev_valid ok (isOut_eq h)
theorem ents_cons {P:Program} {f:FuncId} {args:List AV} {r:Out} {es:List Ent} (h:Valid P f args r) (he:∀e∈es,Valid P e.f e.args e.out):∀e∈(⟨f,args,r⟩::es:List Ent),Valid P e.f e.args e.out:=λe hm=>by
 rcases List.mem_cons.1 hm with rfl | hm
 ·exact h
 ·exact he e hm
end Go.Abs
end
section
namespace Go.Proofs
set_option maxHeartbeats 1000000 in
set_option maxRecDepth 100000 in
theorem Tryz.stringslite_IndexByte (s:ByteArray) (c:Int) (w:World) :
 Calls Tryz.prog 264 #[.string s,.int .u8 c] w λe w'=>e=.returned (.int .i64 (Lib.indexByte s.data.toList c.toNat.toUInt8))/\w'=w:=by
 go_enter Tryz.func264,Tryz.ntmps264
 go_wp2
 rw [run_callFunc_extern Tryz.func332 (by kernel_rfl) (by kernel_rfl) (by kernel_rfl) (e:=Extern.BytealgIndexByte.indexByte) (by kernel_rfl),Lib.run_indexByteString]
 simp only [Result.andThen]
 rw [Oper.upon_value]
 go_wp2
 go_ret
 exact ⟨rfl,rfl⟩
#print axioms Tryz.stringslite_IndexByte
end Go.Proofs
end
section
namespace Go.Proofs.RLP
open Go.Proofs
open Go.Abs Go.RowKit
theorem catch_idle (p:Addr) (w:World) :
 CallsD Tryz.prog 297 #[.pointer (some p)] .returning w λe u' w'=>e=.returned (.tuple #[])/\u'=.returning/\w'=w:=by
 refine callsD_of_wpS Tryz.func297 rfl λc₀ cs hu=>?_
 apply wpS_seq
 apply wpS_region
 simp [wpOpsS,go_sem,recoverD,hu,Tryz.ntmps297,Exit.thenS]
 apply wpS_seq
 apply wpS_region
 simp [wpOpsS,go_sem,Exit.thenS]
 refine wpS_cond (t:=false) (by simp [Act.eval,Array.replicate]) ?_
 simp only [Bool.false_eq_true,if_false]
 refine wpS_of_wp (wp_skip ?_)
 cases c₀
 simp_all [bodyPostS,results,Tryz.results297]
set_option maxRecDepth 100000 in
theorem catch_panicking (b:Nat) (n:Int) (w:World) (x:Value) (hc:w.cell? ⟨b,0,none⟩=some x) (hz:w.frozen? ⟨b,0,none⟩=false) (hp:b<w.heap.size) :
 CallsD Tryz.prog 297 #[.pointer (some ⟨b,0,none⟩)] (.panicking [{ v:=.iface 329 (.agg #[.int .i64 n]),recovered:=false }]) w λe u' w'=>
  e=.returned (.tuple #[])/\u'=.panicking [{ v:=.iface 329 (.agg #[.int .i64 n]),recovered:=true }]/\w'=(w.setCell ⟨b,0,none⟩ (.int .i64 n)).alloc (.cells #[.int .i64 n] 329):=by
 refine callsD_of_wpS Tryz.func297 rfl λc₀ cs hu=>?_
 apply wpS_seq
 apply wpS_region
 simp [wpOpsS,go_sem,recoverD,hu,Tryz.ntmps297,Exit.thenS]
 apply wpS_seq
 apply wpS_region
 simp [wpOpsS,go_sem,Exit.thenS]
 refine wpS_cond (t:=true) (by simp [Act.eval,Array.replicate]) ?_
 simp only [if_true]
 refine wpS_of_wp ?_
 have hta:∀w,(Instr.typeAssert (.iface 329 (.agg #[.int .i64 n])) 20 329 true).run Tryz.prog w=.ok (.tuple #[.agg #[.int .i64 n],.bool true]) w:=λ_=>by kernel_rfl
 have e:(#[Value.pointer (some ⟨b,0,none⟩)]++((((Array.replicate 16 undef).setIfInBounds 3 (Value.iface 329 (Value.agg #[Value.int IntKind.i64 n]))).setIfInBounds 0 (Value.iface 329 (Value.agg #[Value.int IntKind.i64 n]))).setIfInBounds
          4 (Value.iface 329 (Value.agg #[Value.int IntKind.i64 n]))).setIfInBounds 5 (Value.bool true))=#[Value.pointer (some ⟨b,0,none⟩),Value.iface 329 (Value.agg #[Value.int IntKind.i64 n]),undef,undef,Value.iface 329 (Value.agg #[Value.int IntKind.i64 n]),Value.iface 329 (Value.agg #[Value.int IntKind.i64 n]),Value.bool true,undef,undef,undef,undef,undef,undef,undef,undef,undef,undef]:=by kernel_rfl
 rw [e]
 clear e
 have hnot:∀(b:Bool) (w:World),(Op.unary .not (.bool b)).run Tryz.prog w=.ok (.bool (!b)) w:=λ_ _=>rfl
 have hc1:(w.alloc (.cells #[.int .i64 n] 329)).cell? ⟨b,0,none⟩=some x:=(cell_same (heap_alloc_lt w _ hp)).trans hc
 have hz1:(w.alloc (.cells #[.int .i64 n] 329)).frozen? ⟨b,0,none⟩=false:=(World.frozen?_of_block (heap_alloc_lt w _ hp)).trans hz
 go_wp2
 cases c₀
 simp_all [bodyPostS,results,Tryz.results297]
theorem decided_ret (g:FuncId) (fs cs:Array Value) (w:World) (he:∀args w,(callFunc g args).run Tryz.prog w=.ok (.enter g args) w) (R:Value->World->Prop)
 (h:Calls Tryz.prog g (fs++cs) (w.alloc (.cells #[.int .i64 0] 35)) λe w'=>Below (w.heap.size+1) (w.alloc (.cells #[.int .i64 0] 35)) w'/\∃v,e=.returned v/\R v w') :
 Calls Tryz.prog 213 #[.func (.func g) fs cs] w λe w'=>e=.returned (.int .i64 0)/\Below w.heap.size w w':=by
 have hmf:∀(fn:Fn) (first cap:Array Value) (w:World),(Instr.makeFunc fn first cap).run Tryz.prog w=.ok (.func fn first cap) w:=λ_ _ _ _=>rfl
 go_enter_defers Tryz.func213,Tryz.ntmps213
 go_wp2
 refine h.mono ?_
 rintro e w2 ⟨hb,v,rfl,_⟩
 have hblk:w2.heap[w.heap.size]?=some (.cells #[.int .i64 0] 35):=by
  rw [hb.block _ (by omega)]
  exact heap_alloc_at _ _
 have hc:w2.cell? ⟨w.heap.size,0,none⟩=some (.int .i64 0):=by rw [cell_of_heap hblk];rfl
 have hz:w2.frozen? ⟨w.heap.size,0,none⟩=false:=by simp [World.frozen?,hblk]
 go_wp2
 refine leaves_cons (f:=297) (args:=#[.pointer (some ⟨w.heap.size,0,none⟩)]) (by simp) (by simp [go_sem]) ?_
 refine (catch_idle _ _).mono ?_
 rintro e u' w'' ⟨rfl,rfl,rfl⟩
 have hlt:=(Array.getElem?_eq_some_iff.1 hblk).1
 have hc2:(w2.setCell ⟨w.heap.size,0,none⟩ (.int .i64 0)).cell? ⟨w.heap.size,0,none⟩=some (.int .i64 0):=World.cell?_setCell_same _ _ _ hc
 simp [Leaves,settle,results,Tryz.results213,go_sem,hc2]
 exact ((((Below.refl w.heap.size w).alloc (Nat.le_refl _) _)).trans (hb.mono (by omega))).setCell (Nat.le_refl _) _
set_option maxRecDepth 100000 in
theorem decided_pan (g:FuncId) (fs cs:Array Value) (n:Int) (w:World) (he:∀args w,(callFunc g args).run Tryz.prog w=.ok (.enter g args) w)
 (h:Calls Tryz.prog g (fs++cs) (w.alloc (.cells #[.int .i64 0] 35)) λe w'=>Below (w.heap.size+1) (w.alloc (.cells #[.int .i64 0] 35)) w'/\e=.panicked [{ v:=.iface 329 (.agg #[.int .i64 n]),recovered:=false }]) :
 Calls Tryz.prog 213 #[.func (.func g) fs cs] w λe w'=>e=.returned (.int .i64 n)/\Below w.heap.size w w':=by
 have hmf:∀(fn:Fn) (first cap:Array Value) (w:World),(Instr.makeFunc fn first cap).run Tryz.prog w=.ok (.func fn first cap) w:=λ_ _ _ _=>rfl
 go_enter_defers Tryz.func213,Tryz.ntmps213
 go_wp2
 refine h.mono ?_
 rintro e w2 ⟨hb,rfl⟩
 have hblk:w2.heap[w.heap.size]?=some (.cells #[.int .i64 0] 35):=by
  rw [hb.block _ (by omega)]
  exact heap_alloc_at _ _
 have hc:w2.cell? ⟨w.heap.size,0,none⟩=some (.int .i64 0):=by rw [cell_of_heap hblk];rfl
 have hz:w2.frozen? ⟨w.heap.size,0,none⟩=false:=by simp [World.frozen?,hblk]
 have hlt:=(Array.getElem?_eq_some_iff.1 hblk).1
 go_wp2
 refine leaves_cons (f:=297) (args:=#[.pointer (some ⟨w.heap.size,0,none⟩)]) (by simp) (by simp [go_sem]) ?_
 refine (catch_panicking _ n _ _ hc hz hlt).mono ?_
 rintro e u' w'' ⟨rfl,rfl,rfl⟩
 have hc2:(w2.setCell ⟨w.heap.size,0,none⟩ (.int .i64 n)).cell? ⟨w.heap.size,0,none⟩=some (.int .i64 n):=World.cell?_setCell_same _ _ _ hc
 have hc3:((w2.setCell ⟨w.heap.size,0,none⟩ (.int .i64 n)).alloc (.cells #[.int .i64 n] 329)).cell? ⟨w.heap.size,0,none⟩=some (.int .i64 n):=(cell_same (heap_alloc_lt _ _ (by show _<(w2.heap.modify _ _).size;simpa using hlt))).trans hc2
 simp [Leaves,settle,results,Tryz.results213,go_sem,hc3]
 exact (((((Below.refl w.heap.size w).alloc (Nat.le_refl _) _)).trans (hb.mono (by omega))).setCell (Nat.le_refl _) _).alloc (by show _<=(w2.heap.modify _ _).size;simp;omega) _
end Go.Proofs.RLP
end
section
namespace Go.Proofs.RLP
open Go.Proofs
open Go.Shelf
def renPairs:List (Nat×Nat)->Nat->Nat
 |[],n=>n
 |p::r,n=>bif Nat.beq p.1 n then p.2 else renPairs r n
def sortRen:Ren:=⟨renPairs [(125,197),(128,282),(129,283),(189,105),(215,350),(216,279),(257,196),(294,273),(295,274),(296,275),(297,276),(298,277),(299,278),(300,280),(301,281),(328,345),(329,346),(330,347),(331,348),(332,349),(343,398)],renPairs [(0,0),(3,3),(4,4),(5,5),(9,9),(28,34),(46,250),(51,322),(53,304),(131,203),(182,314),(183,315),(218,369),(222,373),(228,410),(229,411)],λn=>n⟩
theorem sortLays:Lays.n189 Tryz.prog sortRen:=by
 constructor<;>first | kernel_rfl | (intro _;kernel_rfl)
theorem sort_run (blk off cap:Nat) (zs:List Int) (w:World) (hH:Sort.Holds (Value.int .i64) w blk off zs.toArray) (hblk:blk<w.heap.size) (hsz:zs.length<4611686018427387904) :
 Calls Tryz.prog 105 #[.slice (some ⟨blk,off,none⟩) zs.length cap] w λe w'=>
  e=.returned (.tuple #[])/\∃n os,w'=Sort.grow (Sort.putRow (Value.int .i64) (Sort.ahead w n) blk off (zs.mergeSort λx y=>decide (x<=y)).toArray) os:=Any.slices_Sort_int sortLays blk off cap zs w hH hblk hsz
end Go.Proofs.RLP
end
section
namespace Go.Proofs.RLP
open Go.Proofs
open Go.Abs Go.RowKit Go.ChangeMaps
section
variable {P:Program} (w:World) {ops:Array Oper} {rest:List Oper} {o:Oper} {a:Act} {Q:Exit->Act->World->Prop}
theorem wpList_range_at (hg:o.guard=none) (m:Operand) (t:TypeId) (hop:o.op=Op.range t m) (k e:TypeId) (ht:P.underlying t=some (.map k e)) (b:Nat) (es:Array MapEntry) (clock:Nat) (hm:a.eval m=.map (some b)) (hb:w.heap[b]?=some (.map es clock))
 (hK:wpList P ops Q rest (a.put o.dst (.pointer (some ⟨w.heap.size,0,none⟩))) (w.alloc (.mapIter (some b) clock #[] clock))):wpList P ops Q (o::rest) a w:=by
 refine wpList_plain hg λK' hK'=>?_
 have hrun:(Instr.range t (.map (some b))).run P w=.ok (.pointer (some ⟨w.heap.size,0,none⟩)) (w.alloc (.mapIter (some b) clock #[] clock)):=by
  simp [Instr.range,Sem.run_bind,run_under ht,Result.andThen,getObj,Sem.run,hb,run_newObj_alloc]
 unfold Oper.wp
 simp [execOp,hop,hm,hrun,Result.andThen]
 exact hK' _ _ hK
theorem wpList_next_at (hg:o.guard=none) (it:Operand) (hop:o.op=Op.next it false) (r bm since c0:Nat) (seen:Array Nat) (es:Array MapEntry) (clock:Nat) (hit:a.eval it=.pointer (some ⟨r,0,none⟩))
 (hr:w.heap[r]?=some (.mapIter (some bm) since seen c0)) (hb:w.heap[bm]?=some (.map es clock)) (hold:∀x∈es.toList,x.born<since) (hsc:since<=c0)
 (hDone:(leftOf es seen).size=0->wpList P ops Q rest (a.put o.dst (.tuple #[.bool false])) w)
 (hMore:∀e∈(leftOf es seen).toList,∀w1:World,(w1=w\/w1=w.drew)->wpList P ops Q rest (a.put o.dst (.tuple #[.bool true,e.key,e.val])) (setBlock w1 r (.mapIter (some bm) since (seen.push e.born) clock))) :
 wpList P ops Q (o::rest) a w:=by
 refine wpList_plain hg λK' hK'=>?_
 unfold Oper.wp
 rcases run_next_at (P:=P) w o.type r bm since c0 seen es clock hr hb hold hsc with ⟨h0,hrun⟩ | ⟨e,he,w1,h1,hrun⟩
 ·simp [execOp,hop,hit,hrun,Result.andThen]
  exact hK' _ _ (hDone h0)
 ·simp [execOp,hop,hit,hrun,Result.andThen]
  exact hK' _ _ (hMore e he w1 h1)
end
def keyI (e:MapEntry):Int:=match e.key with | .int _ n=>n | _=>0
theorem contains_push (seen:Array Nat) (b x:Nat):(seen.push b).contains x=(seen.contains x || (x==b)):=by
 rw [Bool.eq_iff_iff]
 simp
theorem left_perm (seen:Array Nat) (e:MapEntry):∀(l:List MapEntry),(l.map (·.born)).Nodup->e∈l->seen.contains e.born=false->
 (l.filter λx=>!seen.contains x.born).Perm (e::l.filter λx=>!(seen.push e.born).contains x.born)
 |[],_,h,_=>by cases h
 |a::r,hn,hm,hs=>by
  simp only [List.map_cons,List.nodup_cons] at hn
  have hout:∀(l:List MapEntry),e.born∉l.map (·.born)->(l.filter λx=>!(seen.push e.born).contains x.born)=l.filter λx=>!seen.contains x.born:=λl hl=>by
   apply List.filter_congr
   intro x hx
   have:x.born≠e.born:=λq=>hl (q ▸ List.mem_map_of_mem hx)
   rw [contains_push]
   simp [this]
  rcases List.mem_cons.1 hm with rfl | hm
  ·rw [List.filter_cons_of_pos (by show (!seen.contains e.born)=true;rw [hs];rfl),List.filter_cons_of_neg (by show ¬(!(seen.push e.born).contains e.born)=true;rw [contains_push];simp),hout r hn.1]
  ·have ha:a.born≠e.born:=λq=>hn.1 (q ▸ List.mem_map_of_mem hm)
   have ih:=left_perm seen e r hn.2 hm hs
   have hq:(seen.push e.born).contains a.born=seen.contains a.born:=by rw [contains_push];simp [ha]
   cases hc:seen.contains a.born with
   |true=>
    rw [List.filter_cons_of_neg (by show ¬(!seen.contains a.born)=true;rw [hc];simp),List.filter_cons_of_neg (by show ¬(!(seen.push e.born).contains a.born)=true;rw [hq,hc];simp)]
    exact ih
   |false=>
    rw [List.filter_cons_of_pos (by show (!seen.contains a.born)=true;rw [hc];rfl),List.filter_cons_of_pos (by show (!(seen.push e.born).contains a.born)=true;rw [hq,hc];rfl)]
    exact (ih.cons a).trans (List.Perm.swap _ _ _)
theorem sort_perm {a b:List Int} (h:a.Perm b):(a.mergeSort λx y=>decide (x<=y))=b.mergeSort λx y=>decide (x<=y):=by
 have tr:∀(a b c:Int),decide (a<=b)=true->decide (b<=c)=true->decide (a<=c)=true:=λa b c h1 h2=>by simp at *;omega
 have tot:∀(a b:Int),(decide (a<=b) || decide (b<=a))=true:=λa b=>by simp;omega
 have pa:=List.pairwise_mergeSort (le:=λx y:Int=>decide (x<=y)) tr tot a
 have pb:=List.pairwise_mergeSort (le:=λx y:Int=>decide (x<=y)) tr tot b
 refine List.Perm.eq_of_pairwise (le:=λx y=>decide (x<=y)=true) ?_ pa pb (((List.mergeSort_perm a _).trans h).trans (List.mergeSort_perm b _).symm)
 intro x y _ _ h1 h2
 simp at h1 h2
 omega
theorem Tryz.info3':(Tryz.prog.info? 3).map (λi=>(i.zero,i.size,i.bytes))=some (some (.int .i64 0),1,8):=by kernel_rfl
set_option maxHeartbeats 4000000 in
set_option maxRecDepth 100000 in
theorem sorted_walk (bm:Nat) (es:Array MapEntry) (clock:Nat) (ks:List Int) (w:World) (hb:w.heap[bm]?=some (.map es clock)) (hk:es.toList.map (·.key)=ks.map (Value.int .i64)) (hborn:bornsOk clock (es.toList.map (·.born))=true) (hn:es.size<=1000000) :
 Calls Tryz.prog 313 #[.map (some bm)] w λe w'=>∃cap,e=.returned (.slice (some ⟨w.heap.size,0,none⟩) ks.length cap)/\
  w'.ownsRow w.heap.size 3 1 (.slice (some ⟨w.heap.size,0,none⟩) ks.length cap) ks.length ((ks.mergeSort λx y=>decide (x<=y)).map (Value.int .i64))/\Below w.heap.size w w':=by
 obtain ⟨i0,hi,hz0,hz1,hz2⟩:=info_parts Tryz.info3'
 have hbm:=(Array.getElem?_eq_some_iff.1 hb).1
 have hlen:(Builtin.len_ #[339] 3 #[.map (some bm)]).run Tryz.prog w=.ok (.int .i64 es.size) w:=by
  simp [Builtin.len_,Sem.run_bind,run_under Tryz.underlying339,Result.andThen,getObj,Sem.run,hb,goInt]
 go_enter Tryz.func313,Tryz.ntmps313
 go_wp2_with (at_make;refine wpList_make_own _ rfl _ _ 34 rfl w.heap.size 3 i0 (.int .i64 0) 1 Tryz.underlying34 hi hz0 hz1 .i64 .i64 _ es.size rfl rfl rfl (by rw [hz2];omega) (by unfold maxLen;omega) (Nat.le_refl _) ?_)
 intro w1 hown hgrow
 have hsz1:=hgrow.size
 have hb1:w1.heap[bm]?=some (.map es clock):=(hgrow.block _ hbm (by simp)).trans hb
 go_wp2_with (at_range;refine wpList_range_at _ rfl _ 339 rfl 3 4 Tryz.underlying339 bm es clock rfl hb1 ?_)
 go_frame
 obtain ⟨hnd,hold⟩:=bornsOk_ok hborn
 have hold':∀x∈es.toList,x.born<clock:=λx hx=>hold _ (List.mem_map_of_mem hx)
 have hit0:(w1.alloc (.mapIter (some bm) clock #[] clock)).heap[w1.heap.size]?=some (.mapIter (some bm) clock #[] clock):=heap_alloc_at _ _
 have hb0:(w1.alloc (.mapIter (some bm) clock #[] clock)).heap[bm]?=some (.map es clock):=(heap_alloc_lt _ _ (by omega)).trans hb1
 have hown0:=hown.alloc (.mapIter (some bm) clock #[] clock)
 have bel0:Below w.heap.size w (w1.alloc (.mapIter (some bm) clock #[] clock)):=((Below.refl _ w).grown hgrow (Nat.le_refl _) (λk h=>by cases h)).alloc (by omega) _
 have hsz1':w.heap.size<w1.heap.size:=by
  rcases hown.2 with ⟨h,_⟩ | ⟨g,cap,cur,h,_,hg,_⟩
  ·cases h
  ·cases h;exact (Array.getElem?_eq_some_iff.1 hg).1
 clear hgrow hlen
 go_loopw [3] (λv wr=>∃(seen:Array Nat) (c0:Nat) (acc:List Int),v=.slice (some ⟨w.heap.size,0,none⟩) acc.length es.size/\wr.ownsRow w.heap.size 3 1 (.slice (some ⟨w.heap.size,0,none⟩) acc.length es.size) acc.length (acc.map (Value.int .i64))/\
  wr.heap[w1.heap.size]?=some (.mapIter (some bm) clock seen c0)/\clock<=c0/\wr.heap[bm]?=some (.map es clock)/\(acc++(leftOf es seen).toList.map keyI).Perm ks/\Below w.heap.size w wr)
  (λ_ wr=>wr.rangeLeft bm w1.heap.size)
 case atStart=>
  have e0:(leftOf es #[]).toList=es.toList:=by simp [leftOf]
  refine ⟨#[],clock,[],rfl,hown0,hit0,Nat.le_refl _,hb0,?_,bel0⟩
  rw [List.nil_append,e0]
  have:es.toList.map keyI=ks:=by
   have h1:es.toList.map keyI=(es.toList.map (·.key)).map (λv=>match v with | .int _ n=>n | _=>0):=by rw [List.map_map];rfl
   rw [h1,hk,List.map_map]
   exact List.map_id _
  rw [this]
 case round=>
  obtain ⟨seen,c0,acc,rfl,hrow,hit,hcc,hbw,hperm,bel⟩:=hrel
  have hlenp:=hperm.length_eq
  have hkl:ks.length=es.size:=by have:=congrArg List.length hk;simpa using this.symm
  clear hown0 hit0 hb0 bel0 hb1 hown
  have hm0:wr.rangeLeft bm w1.heap.size=(leftOf es seen).size:=by simp [World.rangeLeft,hit,hbw]
  refine wp_seq_k λK1 hK1=>?_
  refine wp_region_list ?_
  refine wpList_next_at _ rfl _ rfl w1.heap.size bm clock c0 seen es clock rfl hit hbw hold' hcc ?_ ?_
  ·intro h0
   have hl0:(leftOf es seen).toList=[]:=List.eq_nil_of_length_eq_zero (by simpa using h0)
   replace hperm:acc.Perm ks:=by
    rw [hl0] at hperm
    rw [List.map_nil,List.append_nil] at hperm
    exact hperm
   have hal:acc.length=ks.length:=hperm.length_eq
   have hs:(acc.mergeSort λx y=>decide (x<=y))=ks.mergeSort λx y=>decide (x<=y):=sort_perm hperm
   rcases hrow.2 with ⟨hnil,_⟩ | ⟨g,cap,cur,hv,hbase,hbl,h1,h2,h3,h4⟩
   ·cases hnil
   ·cases hv
    have hH:Sort.Holds (Value.int .i64) wr w.heap.size 0 acc.toArray:=holds_of_blockI hbl (by simpa using h4)
    have hgl:w.heap.size<wr.heap.size:=(Array.getElem?_eq_some_iff.1 hbl).1
    have hsort:=sort_run w.heap.size 0 es.size acc wr hH hgl (by omega)
    have hl2:(acc.mergeSort λx y=>decide (x<=y)).length=acc.length:=List.length_mergeSort acc
    have hsort2:Calls Tryz.prog 105 #[.slice (some ⟨w.heap.size,0,none⟩) acc.length es.size] wr λe w'=>e=.returned (.tuple #[])/\
     w'.ownsRow w.heap.size 3 1 (.slice (some ⟨w.heap.size,0,none⟩) ks.length es.size) ks.length ((ks.mergeSort λx y=>decide (x<=y)).map (Value.int .i64))/\Below w.heap.size w w':=by
     refine hsort.mono ?_
     rintro e w' ⟨he,nn,os,hw'⟩
     refine ⟨he,?_,?_⟩
     ·rw [hw',<-hs,<-hal]
      exact ownsRow_sortedI (n:=nn) (os:=os) (ts:=acc.mergeSort λx y=>decide (x<=y)) hl2 (Nat.le_refl _) hbl h1 h2 h3
     ·have hg:=grownBy_sortedI (w:=wr) (g:=w.heap.size) (n:=nn) (os:=os) (acc.mergeSort λx y=>decide (x<=y)).toArray
      rw [<-hw'] at hg
      exact bel.grown hg bel.size (λk h=>by cases h;exact Nat.le_refl _)
    clear hit hbw hrow hcc hsort hH hbl hs hl2 h1 h2 h3 h4 hperm hl0 h0 hm0 hkl hlenp bel hgl hbase hnd hold hold' hborn hk hn hsz1 hsz1'
    rw [hal] at hsort2
    iterate 21 (first | go_values | go_skip | go_guarded | go_step | go_upon | go_back)
    refine hsort2.mono ?_
    rintro e w' ⟨rfl,hro,hbe⟩
    trace_state
    go_wp2
    go_ret
    exact ⟨es.size,rfl,hro,hbe⟩
  ·intro e he w2 hw2
   obtain ⟨hem,hes⟩:=mem_left he
   obtain ⟨x,hx⟩:∃x,e.key=.int .i64 x:=by
    have:e.key∈es.toList.map (·.key):=List.mem_map_of_mem hem
    rw [hk] at this
    obtain ⟨x,_,h⟩:=List.mem_map.1 this
    exact ⟨x,h.symm⟩
   have hp2:=left_perm seen e es.toList hnd hem hes
   have hsz2:w2.heap=wr.heap:=by rcases hw2 with rfl | rfl<;>rfl
   have hrow2:w2.ownsRow w.heap.size 3 1 (.slice (some ⟨w.heap.size,0,none⟩) acc.length es.size) acc.length (acc.map (Value.int .i64)):=by rcases hw2 with rfl | rfl<;>exact hrow
   have bel2:Below w.heap.size w w2:=by rcases hw2 with rfl | rfl;exact bel;exact bel.drew
   obtain ⟨w3,hw3⟩:∃w3,setBlock w2 w1.heap.size (.mapIter (some bm) clock (seen.push e.born) clock)=w3:=⟨_,rfl⟩
   rw [hw3,hx]
   have hlt1:w1.heap.size<w2.heap.size:=by rw [hsz2];exact (Array.getElem?_eq_some_iff.1 hit).1
   have ho3:∀k,k≠w1.heap.size->w3.heap[k]?=w2.heap[k]?:=λk hk=>by rw [<-hw3];exact Array.getElem?_setIfInBounds_ne (λq=>hk q.symm)
   have hit3:w3.heap[w1.heap.size]?=some (.mapIter (some bm) clock (seen.push e.born) clock):=by rw [<-hw3];simp [setBlock,hlt1]
   have hb3:w3.heap[bm]?=some (.map es clock):=by rw [ho3 _ (by omega),hsz2];exact hbw
   have hs3:w3.heap.size=w2.heap.size:=by rw [<-hw3];simp [setBlock]
   have hg3:w2.grownBy w3 (some w1.heap.size):=by
    refine ⟨by rw [<-hw3];rfl,by rw [<-hw3];rfl,by rw [<-hw3];rfl,by rw [hs3];exact Nat.le_refl _,λk _ hk=>ho3 k (λq=>hk (by rw [q]))⟩
   have hrow3:=hrow2.kept hg3 (Or.inr (by simp [Value.ownBlock];omega))
   have bel3:Below w.heap.size w w3:=bel2.grown hg3 bel2.size (λk h=>by cases h;omega)
   have hen:(Instr.entry (.pointer (some ⟨w1.heap.size,0,none⟩))).run Tryz.prog w3=.ok (.tuple #[.int .i64 x,e.val]) w3:=by
    have:=run_entry_at (P:=Tryz.prog) w3 w1.heap.size bm clock seen es clock e hit3 hb3 hem hnd
    rw [hx] at this;exact this
   have hleft:(leftOf es seen).toList.length=(leftOf es (seen.push e.born)).toList.length+1:=by
    have:=hp2.length_eq
    simpa [leftOf] using this
   have hfit:acc.length+1<=es.size:=by
    simp only [List.length_append,List.length_map] at hlenp
    omega
   have hcell:∀j u,[Value.int .i64 x][j]?=some u->(w3.alloc (.cells #[.int .i64 x] 3)).cell? ((⟨wr.heap.size,0,none⟩:Addr).add j)=some u:=by
    intro j u h
    cases j with
    |succ j=>simp at h
    |zero=>
     simp at h
     subst h
     have e:wr.heap.size=w3.heap.size:=by rw [hs3,hsz2]
     rw [e]
     exact (cell_of_heap (heap_alloc_at _ _)).trans rfl
   clear hrow hit hbw bel hrow2 bel2 hg3
   go_wp2_with (at_builtin;go_loud (refine wpList_append_fits _ rfl _ _ 34 rfl w.heap.size 3 i0 1 Tryz.underlying34 hi hz1 w.heap.size acc.length es.size _ rfl (hrow3.alloc _) _ 1 1 [.int .i64 x] rfl rfl hcell (λu hu=>by simp at hu;subst hu;rfl) hfit ?_))
   intro w4 hown4 hg4
   have hne:∀k,k≠w.heap.size->k<w3.heap.size->w4.heap[k]?=w3.heap[k]?:=λk h1 h2=>by
    rw [hg4.block k (by rw [World.size_alloc];omega) (λq=>h1 (by cases q;rfl))]
    exact heap_alloc_lt _ _ h2
   have hit4:w4.heap[w1.heap.size]?=some (.mapIter (some bm) clock (seen.push e.born) clock):=by rw [hne _ (by omega) (by omega)];exact hit3
   have hb4:w4.heap[bm]?=some (.map es clock):=by rw [hne _ (by omega) (by omega)];exact hb3
   have bel4:Below w.heap.size w w4:=(bel3.alloc bel3.size (.cells #[.int .i64 x] 3)).grown hg4 (by rw [World.size_alloc];have:=bel3.size;omega) (λk h=>by cases h;exact Nat.le_refl _)
   have hown4':w4.ownsRow w.heap.size 3 1 (.slice (some ⟨w.heap.size,0,none⟩) (acc++[x]).length es.size) (acc++[x]).length ((acc++[x]).map (Value.int .i64)):=by
    simpa using hown4
   have hkx:keyI e=x:=by unfold keyI;rw [hx]
   have hperm4:((acc++[x])++(leftOf es (seen.push e.born)).toList.map keyI).Perm ks:=by
    refine List.Perm.trans ?_ hperm
    have:=(hp2.map keyI)
    rw [List.map_cons,hkx] at this
    have e1:∀s,(leftOf es s).toList=es.toList.filter λz=>!s.contains z.born:=λs=>by simp [leftOf]
    rw [e1,e1,List.append_assoc]
    exact (List.Perm.append_left acc this.symm)
   have hl4:w4.rangeLeft bm w1.heap.size=(leftOf es (seen.push e.born)).size:=by simp [World.rangeLeft,hit4,hb4]
   have hl0:wr.rangeLeft bm w1.heap.size=(leftOf es seen).size:=hm0
   go_wp2
   go_roundw
   case rel=>exact ⟨seen.push e.born,clock,acc++[x],by simp,hown4',hit4,Nat.le_refl _,hb4,hperm4,bel4⟩
   case measure=>rw [hl4,hl0];simpa using (by omega:(leftOf es (seen.push e.born)).toList.length<(leftOf es seen).toList.length)
end Go.Proofs.RLP
end
section
namespace Go.Abs.RL
open Go.Proofs Go.Proofs.RLP Go.RowKit
def putI (n:Int):List Int->List Int
 |[]=>[n]
 |m::l=>bif decide (n<=m) then n::m::l else m::putI n l
def sortI:List Int->List Int
 |[]=>[]
 |n::l=>putI n (sortI l)
theorem putI_perm (n:Int):∀l:List Int,(putI n l).Perm (n::l)
 |[]=>List.Perm.refl _
 |m::l=>by
  unfold putI
  cases decide (n<=m)
  ·exact ((putI_perm n l).cons m).trans (List.Perm.swap _ _ _)
  ·exact List.Perm.refl _
theorem sortI_perm:∀l:List Int,(sortI l).Perm l
 |[]=>List.Perm.refl _
 |n::l=>(putI_perm n _).trans ((sortI_perm l).cons n)
theorem putI_sorted (n:Int):∀l:List Int,l.Pairwise (·<=·)->(putI n l).Pairwise (·<=·)
 |[],_=>by simp [putI]
 |m::l,h=>by
  unfold putI
  obtain ⟨h1,h2⟩:=List.pairwise_cons.1 h
  cases hd:decide (n<=m)
  ·have hlt:m<=n:=by have:=of_decide_eq_false hd;omega
   refine List.pairwise_cons.2 ⟨λx hx=>?_,putI_sorted n l h2⟩
   rcases List.mem_cons.1 ((putI_perm n l).mem_iff.1 hx) with rfl | hx
   ·exact hlt
   ·exact h1 x hx
  ·have hle:n<=m:=of_decide_eq_true hd
   refine List.pairwise_cons.2 ⟨λx hx=>?_,h⟩
   rcases List.mem_cons.1 hx with rfl | hx
   ·exact hle
   ·exact Int.le_trans hle (h1 x hx)
theorem sortI_sorted:∀l:List Int,(sortI l).Pairwise (·<=·)
 |[]=>List.Pairwise.nil
 |n::l=>putI_sorted n _ (sortI_sorted l)
theorem sortI_merge (l:List Int):(l.mergeSort λx y=>decide (x<=y))=sortI l:=by
 have tr:∀(a b c:Int),decide (a<=b)=true->decide (b<=c)=true->decide (a<=c)=true:=λa b c h1 h2=>by simp at *;omega
 have tot:∀(a b:Int),(decide (a<=b) || decide (b<=a))=true:=λa b=>by simp;omega
 have pa:=List.pairwise_mergeSort (le:=λx y:Int=>decide (x<=y)) tr tot l
 refine List.Perm.eq_of_pairwise (le:=λx y=>decide (x<=y)=true) ?_ pa ((sortI_sorted l).imp (by intro a b h;simpa using h)) ((List.mergeSort_perm l _).trans (sortI_perm l).symm)
 intro x y _ _ h1 h2
 simp at h1 h2
 omega
theorem tvs_scs {w:World} {I:Nat->Nat->Prop} {J:Nat->Prop}:∀l:List Int,TVs w I J (l.map λn=>.sc (.int .i64 n)) (l.map (Value.int .i64))
 |[]=>.nil
 |_::l=>.cons (.sc rfl) (tvs_scs l)
theorem flatten_i64s:∀l:List Int,(i64s l).flatten=l.map λn=>.sc (.int .i64 n)
 |[]=>rfl
 |n::l=>by show _::(i64s l).flatten=_;rw [flatten_i64s l];rfl
theorem valid_sorted (l:List Int) (vals:List AV) (hn:l.length<=1000000):Valid Tryz.prog 313 [.imp (l.map (Value.int .i64)) vals] (.ret (.isl (i64s (sortI l)) false)):=by
 refine ⟨⟨_,Tryz.func313,rfl,by kernel_rfl⟩,?_⟩
 intro w I J vs hI hJ hv
 cases hv with
 |cons h hs=>
 cases hs
 cases h with
 |imp h hj hw he hb=>
 rename_i vs r es clock
 have hsz:es.size=l.length:=by have:=congrArg List.length he.1;simpa using this
 refine (sorted_walk r es clock l w hw he.1 hb (by omega)).mono ?_
 rintro e w' ⟨cap,rfl,hrow,hbel⟩
 rw [sortI_merge] at hrow
 have hlen:(sortI l).length=l.length:=(sortI_perm l).length_eq
 rcases hrow.2 with ⟨hnil,_⟩ | ⟨g,cap',cur,hv,hbase,hbl,h1,h2,h3,h4⟩
 ·cases hnil
 ·cases hv
  have hlt:=(Array.getElem?_eq_some_iff.1 hbl).1
  refine ⟨hbel,λb off=>I b off\/(b=w.heap.size/\off<l.length),J,λb off h=>.inl h,λb off h=>?_,λb h=>h,λb h=>.inl h,?_⟩
  ·rcases h with h | ⟨rfl,_⟩
   ·exact .inl h
   ·exact .inr ⟨Nat.le_refl _,hlt⟩
  ·show TV _ _ _ _ _
   have hil:(i64s (sortI l)).length=l.length:=by simp [i64s,hlen]
   have:=TV.isl (w:=w') (I:=λb off=>I b off\/(b=w.heap.size/\off<l.length)) (J:=J) (es:=i64s (sortI l)) (capd:=false) (a:=⟨w.heap.size,0,none⟩) (vs:=(sortI l).map (Value.int .i64)) (s:=1) (cap:=cap)
    (by rw [flatten_i64s];exact tvs_scs _) (λ_=>⟨rfl,λj v hv=>?_⟩) (by intro e he;obtain ⟨n,_,rfl⟩:=List.mem_map.1 he;rfl) (by omega) (by intro h;cases h)
   ·rw [hil] at this
    exact this
   ·have hj:j<l.length:=by
     have:=(List.getElem?_eq_some_iff.1 hv).1
     simpa [hlen] using this
    refine ⟨.inr ⟨rfl,by simpa using hj⟩,?_⟩
    rw [cell_of_heap hbl]
    rw [<-h4] at hv
    rw [List.getElem?_take] at hv
    split at hv
    ·simpa using hv
    ·cases hv
theorem valid_find (s:ByteArray) (b:Int):Valid Tryz.prog 264 [.sc (.string s),.sc (.int .u8 b)] (.ret (.sc (.int .i64 (Lib.indexByte s.data.toList b.toNat.toUInt8)))):=by
 refine ⟨⟨_,Tryz.func264,rfl,by kernel_rfl⟩,?_⟩
 intro w I J vs hI hJ hv
 cases hv with
 |cons h hs=>
 cases hs with
 |cons h2 hs=>
 cases hs
 cases h
 cases h2
 refine (Tryz.stringslite_IndexByte s b w).mono ?_
 rintro e w' ⟨rfl,rfl⟩
 exact ⟨Below.refl _ _,I,J,λ_ _ h=>h,λ_ _ h=>.inl h,λ_ h=>h,λ_ h=>.inl h,.sc rfl⟩
theorem tvs_append {w:World} {I:Nat->Nat->Prop} {J:Nat->Prop}:∀{cs cs':List AV} {ds ds':List Value},TVs w I J cs ds->TVs w I J cs' ds'->TVs w I J (cs++cs') (ds++ds')
 |_,_,_,_,.nil,h=>h
 |_,_,_,_,.cons h hs,h'=>.cons h (tvs_append hs h')
theorem enter_run {g:FuncId} (h:Enters Tryz.prog g) (args:Array Value) (w:World):(callFunc g args).run Tryz.prog w=.ok (.enter g args) w:=by
 obtain ⟨fn,h1,h2,h3⟩:=h
 have hb:fn.body.isNone=false:=by cases hq:fn.body<;>simp_all
 simp only [callFunc,Sem.run_bind,run_program,Result.andThen_ok,h1,h3,hb,Bool.false_eq_true,if_false]
 rfl
theorem valid_decided_ret {g:FuncId} {first caps:List AV} {v:AV} (h:Valid Tryz.prog g (first++caps) (.ret v)):Valid Tryz.prog 213 [.fn (.func g) first caps] (.ret (.sc (.int .i64 0))):=by
 refine ⟨⟨_,Tryz.func213,rfl,by kernel_rfl⟩,?_⟩
 intro w I J vs hI hJ hv
 cases hv with
 |cons hf hs=>
 cases hs
 cases hf with
 |fn hy hf hc=>
 rename_i fs cs
 have hal:∀b off,I b off->(w.alloc (.cells #[.int .i64 0] 35)).cell? ⟨b,off,none⟩=w.cell? ⟨b,off,none⟩:=λb off h=>cell_same (heap_alloc_lt w _ (hI b off h))
 have hargs:TVs (w.alloc (.cells #[.int .i64 0] 35)) I J (first++caps) (fs++cs):=(tvs_append hf hc).mono (λb off h=>⟨h,hal b off h⟩) (λb h=>⟨h,heap_alloc_lt w _ (hJ b h)⟩)
 have hlt:∀n,n<w.heap.size->n<(w.alloc (.cells #[.int .i64 0] 35)).heap.size:=λn h=>by rw [World.size_alloc];omega
 have key:=h.2 _ I J _ (λb off q=>hlt _ (hI b off q)) (λb q=>hlt _ (hJ b q)) hargs
 refine (decided_ret g fs.toArray cs.toArray w (λargs w=>enter_run h.1 args w) (λ_ _=>True) ?_).mono ?_
 ·have e:fs.toArray++cs.toArray=(fs++cs).toArray:=by simp
  rw [e]
  refine key.mono ?_
  rintro e w' ⟨hb,I',J',_,_,_,_,ho⟩
  refine ⟨by rw [World.size_alloc] at hb;exact hb,?_⟩
  cases e with
  |returned x=>exact ⟨x,rfl,trivial⟩
  |panicked c=>exact ho.elim
  |outgrown=>exact ho.elim
 ·rintro e w' ⟨rfl,hb⟩
  exact ⟨hb,I,J,λ_ _ h=>h,λ_ _ h=>.inl h,λ_ h=>h,λ_ h=>.inl h,.sc rfl⟩
theorem valid_decided_pan {g:FuncId} {first caps:List AV} {n:Int} (h:Valid Tryz.prog g (first++caps) (.pan (.ifc 329 (.agg [.sc (.int .i64 n)])))):Valid Tryz.prog 213 [.fn (.func g) first caps] (.ret (.sc (.int .i64 n))):=by
 refine ⟨⟨_,Tryz.func213,rfl,by kernel_rfl⟩,?_⟩
 intro w I J vs hI hJ hv
 cases hv with
 |cons hf hs=>
 cases hs
 cases hf with
 |fn hy hf hc=>
 rename_i fs cs
 have hal:∀b off,I b off->(w.alloc (.cells #[.int .i64 0] 35)).cell? ⟨b,off,none⟩=w.cell? ⟨b,off,none⟩:=λb off h=>cell_same (heap_alloc_lt w _ (hI b off h))
 have hargs:TVs (w.alloc (.cells #[.int .i64 0] 35)) I J (first++caps) (fs++cs):=(tvs_append hf hc).mono (λb off h=>⟨h,hal b off h⟩) (λb h=>⟨h,heap_alloc_lt w _ (hJ b h)⟩)
 have hlt:∀n,n<w.heap.size->n<(w.alloc (.cells #[.int .i64 0] 35)).heap.size:=λn h=>by rw [World.size_alloc];omega
 have key:=h.2 _ I J _ (λb off q=>hlt _ (hI b off q)) (λb q=>hlt _ (hJ b q)) hargs
 refine (decided_pan g fs.toArray cs.toArray n w (λargs w=>enter_run h.1 args w) ?_).mono ?_
 ·have e:fs.toArray++cs.toArray=(fs++cs).toArray:=by simp
  rw [e]
  refine key.mono ?_
  rintro e w' ⟨hb,I',J',_,_,_,_,ho⟩
  refine ⟨by rw [World.size_alloc] at hb;exact hb,?_⟩
  cases e with
  |returned x=>exact ho.elim
  |outgrown=>exact ho.elim
  |panicked c=>
   obtain ⟨v,rfl,hv⟩:=ho
   cases hv with
   |ifc hv=>
    cases hv with
    |agg hv=>
     cases hv with
     |cons h1 h2=>
      cases h2
      cases h1
      rfl
 ·rintro e w' ⟨rfl,hb⟩
  exact ⟨hb,I,J,λ_ _ h=>h,λ_ _ h=>.inl h,λ_ h=>h,λ_ h=>.inl h,.sc rfl⟩
end Go.Abs.RL
end
section
namespace Go.Abs.RM
open Go.Proofs
set_option maxRecDepth 100000
def WQP {α:Type} (f:FuncId) (args:List WV) (en:α->WV) (Q:α->Prop) (Gp:AV->Prop):Prop:=WValidP P f args (λz=>∃r,z=en r/\Q r) Gp
theorem goP {f:FuncId} {fn:Func} {args:List WV} {G:WV->Prop} {Gp:AV->Prop} (hf:P.funcs[f]?=some fn) (hc:chk fn args.length=true)
 (h:Wk P tabL Y0 (bodyOf fn) (argsT 0 args) ⟨[],0⟩ (endsPW tabL (resOf fn) G Gp)):WValidP P f args G Gp:=by
 simp only [chk,Bool.and_eq_true,Bool.not_eq_true'] at hc
 obtain ⟨⟨⟨h1,h2⟩,h3⟩,h4⟩:=hc
 obtain ⟨c,hb⟩:=Option.isSome_iff_exists.1 h1
 have e:bodyOf fn=c:=by unfold bodyOf;rw [hb]
 rw [e] at h h4
 exact wvalidP tabOk mixed hf hb h2 (Nat.le_of_ble_eq_true h3) h4 h
theorem wP {α:Type} {g:FuncId} {args:List WV} {en:α->WV} {Q:α->Prop} {Gp:AV->Prop} {X:WV->Prop} {Y:AV->Prop} {A B C D E F:Prop} (ok:WQP g args en Q Gp) (h:∀z,Q z->X (en z)) (hp:∀v,Gp v->Y v) :
 A\/B\/C\/D\/E\/(∃G Gp,WValidP P g args G Gp/\(∀r,G r->X r)/\∀v,Gp v->Y v)\/F:=
 .inr (.inr (.inr (.inr (.inr (.inl ⟨_,_,ok,λv ⟨r,e,q⟩=>by subst e;exact h r q,hp⟩)))))
def PV (v:AV):Prop:=∃n:Int,v=.ifc 329 (.agg [.sc (.int .i64 n)])
theorem pan_ok {v:AV} (h:PV v):PV v/\panA v=true:=⟨h,by obtain ⟨n,rfl⟩:=h;rfl⟩
theorem prs_one {v:WV} {xs:List AV} (h:PRs [v] xs):∃x,xs=[x]/\PR v x:=by
 cases h with
 |cons h hs=>cases hs;exact ⟨_,rfl,h⟩
theorem w291 {g:FuncId} {first caps:List WV} {α:Type} {en:α->WV} {Q:α->Prop} (h:WQP g (first++caps) en Q PV):WQv 213 [.fnp g first caps] (λr:Int=>.sc (.int .i64 r)) λ_=>True:=by
 intro xs hxs
 obtain ⟨x,rfl,hx⟩:=prs_one hxs
 obtain ⟨ys,zs,rfl,ha,hb,_⟩:=(WR.pure (R:=⟨0,λ_=>False,λ_=>0,λ_=>nilA⟩) hx).fnp_inv
 rcases h (ys++zs) (prs_all2.2 ((prs_all2.1 ha).append (prs_all2.1 hb))) with ⟨r,x,_,_,hv⟩ | ⟨v,⟨n,rfl⟩,hv⟩
 ·exact ⟨_,_,.sc,⟨0,rfl,trivial⟩,RL.valid_decided_ret hv⟩
 ·exact ⟨_,_,.sc,⟨n,rfl,trivial⟩,RL.valid_decided_pan hv⟩
theorem w295 (a0:Int):WQP 217 [.sc (.int .i64 a0)] (λ_:Unit=>.tup []) (λ_=>False) PV:=by
 intro xs hxs
 obtain ⟨x,rfl,hx⟩:=prs_one hxs
 obtain rfl:=(WR.pure (R:=⟨0,λ_=>False,λ_=>0,λ_=>nilA⟩) hx).sc_inv
 refine .inr ⟨_,⟨a0,rfl⟩,?_⟩
 refine valid_of tabOk Tryz.func217 (c:=bodyOf Tryz.f217) (by kernel_rfl) (by kernel_rfl) (by show 1<=_;decide) ?_
 refine CW.region tabOk mixed (hd:=hdA P λ_=>.none) (rr:=.pan (.ifc 329 (.agg [.sc (.int .i64 a0)])) ((((Heap.apply ⟨[],0⟩ (.loc [] [] 0)).apply (.loc [] [] 0)).apply (.loc [] [] 0)).apply (.loc [] [] 0)))
  (recs:=[⟨.ret (.sc (.int .i64 a0)),.loc [] [] 0,[]⟩,⟨.ret (.agg [.sc (.int .i64 a0)]),.loc [] [] 0,[]⟩,⟨.ret (.ifc 329 (.agg [.sc (.int .i64 a0)])),.loc [] [] 0,[]⟩,⟨.pan (.ifc 329 (.agg [.sc (.int .i64 a0)])),.loc [] [] 0,[]⟩]) (by kernel_rfl) (by kernel_rfl) (λh=>by cases h) ?_ (.inl rfl) ?_
 ·intro rc hrc ob hob
  simp at hrc
  rcases hrc with rfl | rfl | rfl | rfl<;>cases hob
 ·exact ⟨9,_,[],rfl,rfl⟩
end Go.Abs.RM
end
section
namespace Go.Abs
noncomputable section
variable {P:Program} {tab:Tab} {R:Rn} {T:WT} {W:WH} {H:Heap} {Tc:TL} {k:FK} {N n0:Nat}
theorem argsT_relW:∀{args:List WV} {xs:List AV} (i:Nat),WRs R args xs->RelT R (argsT i args) (argT i xs)
 |_,_,_,.nil=>λt v h=>by cases h
 |_,_,i,.cons h hs=>λt w hl=>by
  unfold argsT at hl
  rw [lk_cons] at hl
  unfold argT
  simp only [look]
  split at hl
  ·grind
  ·rename_i e;rw [if_neg e];exact argsT_relW (i+1) hs t w hl
theorem relH_frm (rh:RelH R W H) (rt:RelT R T Tc):RelH (R.add 0 nilA) ⟨(W.nx,.frm T Tc)::W.objs,W.nx+1⟩ H:=
 relH_new rh (c:=0) (x:=nilA) (wo:=.frm T Tc) (by rw [rh.nx]) (by show W.nx+1=_;rw [rh.nx]) (λ_ _=>rfl) rh.fresh (λh=>h.elim) (RelT.mono (Rn.add_le _ _) rt)
theorem unown_add (rh:RelH R W H) {c k:Nat} {x:AV} {o:WO} (hu:Unown R W k) (ho:hasO (R.add c x) R.nx o->c≠k):Unown (R.add c x) ⟨(W.nx,o)::W.objs,W.nx+1⟩ k:=λn o' h1 h2 e=>by
 rw [lk_cons] at h1
 split at h1
 ·rename_i q
  cases h1
  rw [rh.nx] at q
  subst q
  refine ho h2 ?_
  rw [<-e]
  exact (upd_at _ _ _).symm
 ·rename_i q
  have hne:n≠R.nx:=λe=>q (by rw [rh.nx,e])
  exact hu n o' h1 (h2.move (upd_ne _ _ hne)) (by rw [<-e];exact (upd_ne _ _ hne).symm)
theorem kept_frm (rh:RelH R W H) {R':Rn} {W':WH} {H':Heap} (h:Kept (R.add 0 nilA) ⟨(W.nx,.frm T Tc)::W.objs,W.nx+1⟩ H R' W' H'):Kept R W H R' W' H':=
 ⟨h.1,h.2.1,λk hk hu=>h.2.2 k hk (unown_add rh hu λh=>h.elim)⟩
def outA:List AV->AV
 |[v]=>v
 |vs=>.tup vs
theorem resA_of {rs:List ResultVar} {xs:List AV} (h:mapOpt (resV tab Tc H) rs=some xs):resA tab Tc H rs=some (outA xs):=by
 unfold resA
 rw [h]
 unfold outA
 grind
theorem one_ok {vs:List WV} {xs:List AV} (h:WRs R vs xs):WR R (oneW vs) (outA xs):=by
 cases h with
 |nil=>exact .tup .nil
 |cons h hs=>
  cases hs with
  |nil=>exact h
  |cons h1 hs=>exact .tup (.cons h (.cons h1 hs))
def farE (tab:Tab) (rs:List ResultVar) (n:Nat) (Tc:TL) (K:WKF) (T1:WT) (W1:WH):Prop:=match mapO (resW tab T1 W1) rs,lk W1.objs n with
 |some vs,some (.frm T' Tc')=>Tc'=Tc/\K (oneW vs) T' W1
 |_,_=>False
def farQ (tab:Tab) (rs:List ResultVar) (n:Nat) (Tc:TL) (K:WKF):WQ:=λe T H=>match e with
 |.exit _=>False
 |.pan _=>False
 |.normal=>farE tab rs n Tc K T H
 |.ret=>farE tab rs n Tc K T H
theorem far_inl (tabOk : TabOK P tab) (hm : P.follows .mixedOrders = true) {Y : YP} {f : FuncId} {fn : Func} {c : Code} {vs : List WV} {K : WKF} (hf : P.funcs[f]? = some fn) (hb : fn.body = some c) (hn : (fn.name == "runtime.NumGoroutine") = false) (hl : vs.length <= fn.ntmps) (hd : codeDst fn.ntmps c = true)
 (h:∀Tc,Wk P tab Y c (argsT 0 vs) ⟨(W.nx,.frm T Tc)::W.objs,W.nx+1⟩ (farQ tab fn.results.toList W.nx Tc K)):FarS P f vs T W K:=by
 refine ⟨λR Tc H xs rt rh hx=>?_⟩
 obtain ⟨e,R1,T1,W1,Tc1,H1,hc,rt1,rh1,kp,hq⟩:=W_sound tabOk hm c _ _ _ _ _ _ hd (argsT_relW 0 (wrs_all2.2 ((wrs_all2.1 hx).mono λ_ _=>WR.mono (Rn.add_le 0 nilA)))) (relH_frm rh rt) (h Tc)
 have fin:farE tab fn.results.toList W.nx Tc K T1 W1->(e=.normal\/e=.ret)->∃v T' W' x H' R',K v T' W'/\Valid2 P f xs H (.ret x) H'/\WR R' v x/\RelT R' T' Tc/\RelH R' W' H'/\Kept R W H R' W' H':=λhq he=>by
  unfold farE at hq
  split at hq
  ·rename_i vs' T' Tc' hvs hl'
   obtain ⟨rfl,hk⟩:=hq
   obtain ⟨ys,hys,hy⟩:=ress_ok rt1 rh1 hvs
   refine ⟨_,_,_,_,H1,R1,hk,valid2_of tabOk hf hb hn (by rw [<-(wrs_all2.1 hx).length];exact hl) ((hc .out H.next λ_=>rfl).mono ?_),one_ok hy,(rh1.obj _ _ hl').2.2,rh1,kept_frm rh kp⟩
   rintro e' T2 H2 ⟨rfl,rfl,rfl⟩
   rcases he with rfl | rfl<;>exact ⟨rfl,_,resA_of hys,rfl⟩
  grind
 cases e with
 |normal=>exact fin hq (.inl rfl)
 |ret=>exact fin hq (.inr rfl)
 |exit id=>exact hq.elim
 |pan v=>exact hq.elim
theorem relH_loop (rh:RelH R W H) {m:Nat} {D:LoopD} {T0:WT} {st st':LoopState} {pend pend':Option Code} (hlk:lk W.objs m=some (.loop D T0 st pend)) :
 RelH R ⟨(m,.loop D T0 st' pend')::W.objs,W.nx⟩ ⟨put H.objs D.b (.loop D.Tc D.N D.ps D.asg D.body st' pend'),H.next⟩:=by
 obtain ⟨hlt,hal,hrt,hb,hlook⟩:=rh.obj m _ hlk
 have other:∀n o,n≠m->lk W.objs n=some o->hasO R n o->D.b≠R.ob n:=λn o hne h1 h2 e=>hne (rh.inj n m _ _ h1 hlk h2 trivial (by rw [<-e,hb]))
 have get:∀n o,lk ((m,WO.loop D T0 st' pend')::W.objs) n=some o->(n=m/\o=.loop D T0 st' pend')\/(n≠m/\lk W.objs n=some o):=λn o h=>by
  grind [lk_cons]
 have back:∀n o,lk ((m,WO.loop D T0 st' pend')::W.objs) n=some o->hasO R n o->∃o',lk W.objs n=some o'/\hasO R n o':=λn o h1 h2=>by
  rcases get n o h1 with ⟨rfl,rfl⟩ | ⟨_,q⟩
  ·exact ⟨_,hlk,trivial⟩
  grind
 refine ⟨rh.nx,λn o h=>?_,λn1 n2 o1 o2 h1 h2 h3 h4 e=>?_,λk hk=>?_⟩
 ·rcases get n o h with ⟨rfl,rfl⟩ | ⟨q1,q2⟩
  ·exact ⟨hlt,hal,hrt,hb,by show look (put _ _ _) _=_;rw [look_put,if_pos rfl]⟩
  ·obtain ⟨p1,p2,p3⟩:=rh.obj n o q2
   exact ⟨p1,p2,p3.move (Rn.Le.refl R) rfl rfl λhh=>by show look (put _ _ _) _=_;rw [look_put,if_neg (other n o q1 q2 hh)]⟩
 ·obtain ⟨p1,a1,b1⟩:=back n1 o1 h1 h3
  obtain ⟨p2,a2,b2⟩:=back n2 o2 h2 h4
  exact rh.inj n1 n2 _ _ a1 a2 b1 b2 e
 ·show look (put _ _ _) k=none
  have hk:H.next<=k:=hk
  rw [look_put,if_neg]
  ·exact rh.fresh k hk
  ·intro e
   have:=rh.fresh k hk
   grind
theorem kept_loop (rh:RelH R W H) {m:Nat} {D:LoopD} {T0:WT} {st st':LoopState} {pend pend':Option Code} (hlk:lk W.objs m=some (.loop D T0 st pend)) :
 Kept R W H R ⟨(m,.loop D T0 st' pend')::W.objs,W.nx⟩ ⟨put H.objs D.b (.loop D.Tc D.N D.ps D.asg D.body st' pend'),H.next⟩:=by
 obtain ⟨hlt,hal,hrt,hb,hlook⟩:=rh.obj m _ hlk
 refine ⟨Nat.le_refl _,λk hk=>.inl λe=>hk ?_,λk _ hu=>⟨?_,λn o h1 h2 e=>?_⟩⟩
 ·grind [look_put]
 ·show look (put _ _ _) k=_
  rw [look_put,if_neg (λq=>hu m _ hlk trivial (by rw [hb,q]))]
 ·rw [lk_cons] at h1
  split at h1
  ·rename_i q;subst q;exact hu m _ hlk trivial e
  ·exact hu n o h1 h2 e
def putsW (T:WT):List Tmp->List WV->WT
 |p::ps,v::vs=>putsW ((p,v)::T) ps vs
 |_,_=>T
theorem putsW_ok:∀{ps:List Tmp} {ys:List WV} {xs:List AV} {T:WT} {Tc:TL},RelT R T Tc->WRs R ys xs->RelT R (putsW T ps ys) (putsT Tc ps xs)
 |[],_,_,_,_,rt,_=>by unfold putsW putsT;exact rt
 |_::_,_,_,_,_,rt,.nil=>by unfold putsW putsT;exact rt
 |_::ps,_,_,_,_,rt,.cons h hs=>by unfold putsW putsT;exact putsW_ok (relT_put rt h) hs
def LoopOk (D:LoopD):Prop:=(∀p∈D.ps,p<D.N)/\codeDst D.N D.asg=true/\codeDst D.N D.body=true
def yieldE (m n:Nat) (D:LoopD) (Tc:TL) (K:WKF):WQ:=λe _ W3=>match lk W3.objs m,lk W3.objs n with
 |some (.loop D' T0 .busy none),some (.frm T' Tc')=>D'=D/\Tc'=Tc/\(match e with
  |.normal=>K (.sc (.bool true)) T' ⟨(m,.loop D T0 .ready none)::W3.objs,W3.nx⟩
  |.ret=>K (.sc (.bool false)) T' ⟨(m,.loop D T0 .done (some .ret))::W3.objs,W3.nx⟩
  |.exit id=>K (.sc (.bool false)) T' ⟨(m,.loop D T0 .done (some (.exit id)))::W3.objs,W3.nx⟩
  |.pan _=>False)
 |_,_=>False
def bodyQ (P:Program) (tab:Tab) (Y:YP) (m n:Nat) (D:LoopD) (body:Code) (Tc:TL) (K:WKF):WQ:=λe T2 W2=>match e with
 |.normal=>(match lk W2.objs m with
  |some (.loop D' T0 .ready none)=>D'=D/\Wk P tab Y body T2 ⟨(m,.loop D T0 .busy none)::W2.objs,W2.nx⟩ (yieldE m n D Tc K)
  |_=>False)
 |.exit _=>False
 |.pan _=>False
 |.ret=>False
theorem yield_of (tabOk:TabOK P tab) (hm:P.follows .mixedOrders=true) {Y:YP} (hY:Y.out=false) {m:Nat} {D:LoopD} {T0:WT} {vs:List WV} {K:WKF} {ps:List Tmp} {asg body:Code} (e1:D.ps=ps) (e2:D.asg=asg) (e3:D.body=body) (ok:LoopOk D)
 (hlk:lk W.objs m=some (.loop D T0 .ready none)) (hlen:vs.length=ps.length)
 (h:∀Tc,Wk P tab Y asg (putsW T0 ps vs) ⟨(W.nx,.frm T Tc)::W.objs,W.nx+1⟩ (bodyQ P tab Y m W.nx D body Tc K)):YieldS P m vs T W K:=by
 subst e1 e2 e3
 refine ⟨λR Tc H xs rt rh hx=>?_⟩
 obtain ⟨hlt,hal,hrt,hb,hlook⟩:=rh.obj m _ hlk
 obtain ⟨okp,okA,okB⟩:=ok
 refine ⟨hal,?_⟩
 rw [hb]
 have le0:=Rn.add_le (R:=R) 0 nilA
 obtain ⟨x1,R1,T1,W1,Tc1,H1,hc1,rt1,rh1,kp1,hq⟩:=W_sound tabOk hm D.asg _ _ _ _ _ _ okA (putsW_ok (ps:=D.ps) (hrt.mono le0) (wrs_all2.2 ((wrs_all2.1 hx).mono λ_ _=>WR.mono le0))) (relH_frm rh rt) (h Tc)
 have kp1:=kept_frm rh kp1
 cases x1 with
 |exit id=>exact hq.elim
 |ret=>exact hq.elim
 |pan v=>exact hq.elim
 |normal=>
 simp only [bodyQ] at hq
 split at hq
 case h_2=>grind
 rename_i D' T0' hlk1
 obtain ⟨rfl,hq⟩:=hq
 obtain ⟨_,_,hrt1,hb1,hlook1⟩:=rh1.obj m _ hlk1
 obtain ⟨x2,R2,T2,W2,Tc2,H2,hc2,rt2,rh2,kp2,hq2⟩:=W_sound tabOk hm D'.body _ _ _ _ _ _ okB rt1 (relH_loop (st':=.busy) (pend':=none) rh1 hlk1) hq
 have kp3:=(kp1.trans (kept_loop (st':=.busy) (pend':=none) rh1 hlk1)).trans kp2
 simp only [yieldE] at hq2
 split at hq2
 case h_2=>grind
 rename_i D2 T02 T' Tc' hlk2 hfr2
 obtain ⟨rfl,rfl,hq2⟩:=hq2
 obtain ⟨_,_,hrt2,hb2,hlook2⟩:=rh2.obj m _ hlk2
 have hrt3:=(rh2.obj _ _ hfr2).2.2
 have nk:∀k:FK,Y.out=true->k.isOut=true:=λ_ h=>by grind
 have fin:∀(b:Bool) (st':LoopState) (pend':Option Code),K (.sc (.bool b)) T' ⟨(m,.loop D2 T02 st' pend')::W2.objs,W2.nx⟩ ->roundP D2.b (.ret (.sc (.bool b))) ⟨put H2.objs D2.b (.loop D2.Tc D2.N D2.ps D2.asg D2.body st' pend'),H2.next⟩ (axOf x2) Tc2 H2->
  ∃v T' W' x H' R',K v T' W'/\Round2 P D2.b xs H (.ret x) H'/\WR R' v x/\RelT R' T' Tc'/\RelH R' W' H'/\Kept R W H R' W' H':=λb st' pend' hk hp=>by
  refine ⟨_,_,_,.sc (.bool b),⟨put H2.objs D2.b (.loop D2.Tc D2.N D2.ps D2.asg D2.body st' pend'),H2.next⟩,R2,hk,round_of hlook (by rw [<-(wrs_all2.1 hx).length];exact hlen) okp λl=>(hc1 (.rnd l) H.next (nk _)).mono ?_,.pure .sc,hrt3,relH_loop rh2 hlk2,kp3.trans (kept_loop rh2 hlk2)⟩
  rintro e T H ⟨rfl,rfl,rfl⟩
  refine ⟨rfl,_,_,_,_,_,hlook1,(hc2 (.rnd l) _ (nk _)).mono ?_⟩
  rintro e T H ⟨rfl,rfl,rfl⟩
  exact hp
 cases x2 with
 |normal=>exact fin true .ready none hq2 ⟨_,_,_,_,_,hlook2,rfl,rfl⟩
 |ret=>exact fin false .done (some .ret) hq2 ⟨_,_,_,_,_,hlook2,rfl,rfl⟩
 |exit id=>exact fin false .done (some (.exit id)) hq2 ⟨_,_,_,_,_,hlook2,rfl,rfl⟩
 |pan v=>grind
def rangeK (m:Nat) (D:LoopD) (Q:WQ) (W1:WH):Prop:=match lk W1.objs m with
 |some (.loop D' T' .ready none)=>D'=D/\Q .normal T' ⟨(m,.loop D T' .exhausted none)::W1.objs,W1.nx⟩
 |some (.loop D' T' .done (some .ret))=>D'=D/\Q .ret T' ⟨(m,.loop D T' .exhausted (some .ret))::W1.objs,W1.nx⟩
 |some (.loop D' T' .done (some (.exit id)))=>D'=D/\Q (.exit id) T' ⟨(m,.loop D T' .exhausted (some (.exit id)))::W1.objs,W1.nx⟩
 |_=>False
def rangeE (m:Nat) (D:LoopD) (Q:WQ):WQ:=λe _ W1=>match e with
 |.exit _=>False
 |.pan _=>False
 |.normal=>rangeK m D Q W1
 |.ret=>rangeK m D Q W1
def fnW:Option WV->Option (FuncId×List WV×List WV)
 |some (.fn f a b)=>some (f,a,b)
 |some (.fnp f a b)=>some (f,a,b)
 |_=>none
theorem range_of (tabOk:TabOK P tab) (hm:P.follows .mixedOrders=true) {Y Y':YP} (hY:Y.out=true) {g:Operand} {ps:Array Tmp} {asg body:Code} {Q:WQ} {f:FuncId} {fn:Func} {c:Code} {first caps:List WV} (hg:fnW (evW T g)=some (f,first,caps))
 (hf : P.funcs[f]? = some fn) (hb : fn.body = some c) (hn : (fn.name == "runtime.NumGoroutine") = false) (hl : first.length + (caps.length + 1) <= fn.ntmps) (hd : codeDst fn.ntmps c = true) (hr : fn.results.toList = [])
 (h:∀D:LoopD,D.ps=ps.toList->D.asg=asg->D.body=body->LoopOk D->Wk P tab Y' c (argsT 0 (first++(.yld W.nx::caps))) ⟨(W.nx,.loop D T .ready none)::W.objs,W.nx+1⟩ (rangeE W.nx D Q)):RangeW P Y g ps asg body T W Q:=by
 refine ⟨λN R Tc H hdst rt rh=>?_⟩
 simp only [codeDst,Bool.and_eq_true,List.all_eq_true] at hdst
 obtain ⟨hp,hdA,hdB⟩:=hdst
 obtain ⟨D,hD⟩:∃D:LoopD,D=⟨H.next,Tc,N,ps.toList,asg,body⟩:=⟨_,rfl⟩
 have d1:D.b=H.next:=by rw [hD]
 have d2:D.Tc=Tc:=by rw [hD]
 have d3:D.N=N:=by rw [hD]
 have d4:D.ps=ps.toList:=by rw [hD]
 have d5:D.asg=asg:=by rw [hD]
 have d6:D.body=body:=by rw [hD]
 have ok:LoopOk D:=by
  refine ⟨?_,?_,?_⟩
  ·simp_all
  ·grind
  grind
 have le0:=Rn.add_le (R:=R) H.next nilA
 obtain ⟨xf,xc,hgv,hfs,hcs⟩:∃xf xc,aev (look Tc) g=some (.fn (.func f) xf xc)/\WRs R first xf/\WRs R caps xc:=by
  unfold fnW at hg
  split at hg
  ·rename_i f' a b he
   cases hg
   obtain ⟨y,hy,hr⟩:=ev_ok rt he
   obtain ⟨xs,ys,rfl,h1,h2⟩:=hr.fn_inv
   grind
  ·rename_i f' a b he
   cases hg
   obtain ⟨y,hy,hr⟩:=ev_ok rt he
   obtain ⟨xs,ys,rfl,h1,h2,_⟩:=hr.fnp_inv
   exact ⟨xs,ys,hy,h1.wrs,h2.wrs⟩
  grind
 have rh0:RelH (R.add H.next nilA) ⟨(W.nx,.loop D T .ready none)::W.objs,W.nx+1⟩ ⟨put H.objs H.next (.loop Tc N ps.toList asg body .ready none),H.next+1⟩:=by
  refine relH_new rh (c:=H.next) (x:=nilA) (wo:=.loop D T .ready none) (by rw [rh.nx]) (by show W.nx+1=_;rw [rh.nx]) (λm hm=>?_) (λm hm=>?_) (λ_=>rh.fresh _ (Nat.le_refl _)) ⟨?_,?_,?_⟩
  ·rcases hm with hm | hm
   ·show look (put _ _ _) m=_;rw [look_put,if_neg (λe=>hm e.symm)]
   ·exact absurd trivial hm
  ·show look (put _ _ _) m=none
   have hm:H.next+1<=m:=hm
   rw [look_put,if_neg (by omega)]
   exact rh.fresh m (by omega)
  ·rw [d2];exact rt.mono le0
  ·rw [d1];exact upd_at _ _ _
  grind [look_put]
 have kp0:∀{R':Rn} {W':WH} {H':Heap},Kept (R.add H.next nilA) ⟨(W.nx,.loop D T .ready none)::W.objs,W.nx+1⟩ ⟨put H.objs H.next (.loop Tc N ps.toList asg body .ready none),H.next+1⟩ R' W' H'->Kept R W H R' W' H':=λ{R' W' H'} q=>by
  refine ⟨by have:H.next+1<=H'.next:=q.1;omega,λk hk=>?_,λk hk hu=>?_⟩
  ·rcases q.2.1 k hk with p | p
   ·grind [look_put]
   grind
  ·obtain ⟨a,b⟩:=q.2.2 k (show k<H.next+1 by omega) (unown_add rh hu λ_=>by omega)
   refine ⟨a.trans ?_,b⟩
   show look (put _ _ _) k=_
   rw [look_put,if_neg (by omega)]
 have args:WRs (R.add H.next nilA) (first++(.yld W.nx::caps)) (xf++[.fn (.yield H.next) [] []]++xc):=by
  have m:∀{a:List WV} {b:List AV},WRs R a b->All2 (WR (R.add H.next nilA)) a b:=λh=>(wrs_all2.1 h).mono λ_ _=>WR.mono le0
  have e:xf++[AV.fn (.yield H.next) [] []]++xc=xf++(AV.fn (.yield H.next) [] []::xc):=by simp
  rw [e]
  refine wrs_all2.2 ((m hfs).append (.cons (.yld (by rw [rh.nx];exact Nat.lt_succ_self _) λ_=>?_) (m hcs)))
  rw [rh.nx,show (R.add H.next nilA).ob R.nx=H.next from upd_at _ _ _]
 obtain ⟨e,R1,T1,W1,Tc1,H1,hc,rt1,rh1,kp1,hq⟩:=W_sound tabOk hm c _ _ _ _ _ _ hd (argsT_relW 0 args) rh0 (h D d4 d5 d6 ok)
 have hk:rangeK W.nx D Q W1/\(e=.normal\/e=.ret):=by
  cases e with
  |normal=>exact ⟨hq,.inl rfl⟩
  |ret=>exact ⟨hq,.inr rfl⟩
  |exit id=>exact hq.elim
  |pan v=>exact hq.elim
 obtain ⟨hk,he⟩:=hk
 have kp1':=kp0 kp1
 have hlen:(xf++[AV.fn (.yield H.next) [] []]++xc).length<=fn.ntmps:=by
  have a:=(wrs_all2.1 hfs).length
  have b:=(wrs_all2.1 hcs).length
  grind
 have hv2:Valid2 P f (xf++[.fn (.yield H.next) [] []]++xc) ⟨put H.objs H.next (.loop Tc N ps.toList asg body .ready none),H.next+1⟩ (.ret (.tup [])) H1:=by
  refine valid2_of tabOk hf hb hn hlen ((hc .out _ λ_=>rfl).mono ?_)
  rintro e' T2 H2 ⟨rfl,rfl,rfl⟩
  rw [hr]
  rcases he with rfl | rfl<;>exact ⟨rfl,_,rfl,rfl⟩
 have fin:∀(x:WX) (T':WT) (st:LoopState) (pend:Option Code),lk W1.objs W.nx=some (.loop D T' st pend)->st≠.busy->Q x T' ⟨(W.nx,.loop D T' .exhausted pend)::W1.objs,W1.nx⟩ ->
  (match pend with | none=>axOf x=.normal | some c=>CW P .out N 0 c Tc ⟨put H1.objs D.b (.loop D.Tc D.N D.ps D.asg D.body .exhausted pend),H1.next⟩ (exactly (axOf x) Tc ⟨put H1.objs D.b (.loop D.Tc D.N D.ps D.asg D.body .exhausted pend),H1.next⟩)/\∀n0,CW P .out N n0 c Tc ⟨put H1.objs D.b (.loop D.Tc D.N D.ps D.asg D.body .exhausted pend),H1.next⟩ (exactly (axOf x) Tc ⟨put H1.objs D.b (.loop D.Tc D.N D.ps D.asg D.body .exhausted pend),H1.next⟩))->
  Comes P Y N (.rangeFunc g ps asg body) R W Tc H Q:=λx T' st pend hlk hst hQ hx=>by
  obtain ⟨_,_,q3,q4,q5⟩:=rh1.obj _ _ hlk
  refine ⟨x,R1,T',_,Tc,⟨put H1.objs D.b (.loop D.Tc D.N D.ps D.asg D.body .exhausted pend),H1.next⟩,λk n0 hk=>?_,by grind,relH_loop rh1 hlk,kp1'.trans (kept_loop rh1 hlk),hQ⟩
  have hk:=hk hY
  cases k with
  |out=>
   refine CW.rangeFunc hgv hv2 (okEff_glob kp1.1 kp1.2.1) ⟨_,_,_,_,_,_,_,by rw [<-d1];exact q5,hst,?_⟩
   cases pend with
   |none=>
    rw [<-d1]
    exact ⟨hx.symm,rfl,rfl⟩
   |some c=>
    grind
  |rnd l=>cases hk
 unfold rangeK at hk
 split at hk
 ·rename_i D' T' hlk
  obtain ⟨rfl,hk⟩:=hk
  exact fin .normal T' _ _ hlk (by grind) hk rfl
 ·rename_i D' T' hlk
  obtain ⟨rfl,hk⟩:=hk
  exact fin .ret T' _ _ hlk (by grind) hk ⟨CW.ret ⟨rfl,rfl,rfl⟩,λn0=>CW.ret ⟨rfl,rfl,rfl⟩⟩
 ·rename_i D' T' id hlk
  obtain ⟨rfl,hk⟩:=hk
  exact fin (.exit id) T' _ _ hlk (by grind) hk ⟨CW.exit ⟨rfl,rfl,rfl⟩,λn0=>CW.exit ⟨rfl,rfl,rfl⟩⟩
 grind
end
end Go.Abs
end
section
namespace Go.Abs.RM
open Go.Proofs
set_option maxRecDepth 100000
def Yf (l:List FuncId):YP:=⟨true,l⟩
def Yb (l:List FuncId):YP:=⟨false,l⟩
theorem chk_of {fn : Func} {n : Nat} (hc : chk fn n = true) : fn.body = some (bodyOf fn) /\ (fn.name == "runtime.NumGoroutine") = false /\ n <= fn.ntmps /\ codeDst fn.ntmps (bodyOf fn) = true := by
 simp only [chk,Bool.and_eq_true,Bool.not_eq_true'] at hc
 obtain ⟨⟨⟨h1,h2⟩,h3⟩,h4⟩:=hc
 obtain ⟨c,hb⟩:=Option.isSome_iff_exists.1 h1
 have e:bodyOf fn=c:=by unfold bodyOf;rw [hb]
 exact ⟨by rw [e];exact hb,h2,Nat.le_of_ble_eq_true h3,h4⟩
theorem goF (l:List FuncId) {f:FuncId} {fn:Func} {args:List WV} {G:WV->Prop} (hf:P.funcs[f]?=some fn) (hc:chk fn args.length=true)
 (h:Wk P tabL (Yf l) (bodyOf fn) (argsT 0 args) ⟨[],0⟩ (endsW tabL (resOf fn) G)):WValid P f args G:=
 let ⟨a,b,c,d⟩:=chk_of hc
 wvalid tabOk mixed hf a b c d h
def someT (T:WT):WT->Prop
 |[]=>True
 |(t,v)::r=>lk T t=some v/\someT T r
theorem someT_rel {T T2:WT} {R:Rn} {Tc:TL} (h:someT T T2) (rt:RelT R T Tc):RelT R T2 Tc:=λt v hl=>by
 refine rt t v ?_
 induction T2 with
 |nil=>cases hl
 |cons p r ih=>
  obtain ⟨t',v'⟩:=p
  rw [lk_cons] at hl
  split at hl
  ·rename_i e;subst e;cases hl;exact h.1
  ·exact ih h.2 hl
def newO (W:WH) (o:WO) (K:Nat->WH->Prop):Prop:=match W with | ⟨objs,nx⟩=>forceN nx λn=>forceN (n+1) λm=>K n ⟨(n,o)::objs,m⟩
theorem newO_eq {W:WH} {o:WO} {K:Nat->WH->Prop} (h:newO W o K):K W.nx ⟨(W.nx,o)::W.objs,W.nx+1⟩:=h
theorem fI (T2:WT) {Y:YP} {f:FuncId} {fn:Func} {vs:List WV} {T:WT} {W:WH} {K:WKF} (hs:someT T T2) (hf:P.funcs[f]?=some fn) (hc:chk fn vs.length=true)
 (h:∀Tc,newO W (.frm T2 Tc) λn W'=>Wk P tabL Y (bodyOf fn) (argsT 0 vs) W' (farQ tabL (resOf fn) n Tc K)):FarS P f vs T W K:=by
 obtain ⟨a,b,c,d⟩:=chk_of hc
 cases far_inl tabOk mixed hf a b c d λTc=>newO_eq (h Tc) with
 |mk h=>exact ⟨λR Tc H xs rt rh hx=>h R Tc H xs (someT_rel hs rt) rh hx⟩
theorem yL (l:List FuncId) (T2:WT) {m:Nat} {D:LoopD} {T T0:WT} {W:WH} {vs:List WV} {K:WKF} {ps:List Tmp} {asg body:Code} (e1:D.ps=ps) (e2:D.asg=asg) (e3:D.body=body) (ok:LoopOk D) (hs:someT T T2)
 (hlk:lk W.objs m=some (.loop D T0 .ready none)) (hlen:vs.length=ps.length)
 (h:∀Tc,newO W (.frm T2 Tc) λn W'=>Wk P tabL (Yb l) asg (putsW T0 ps vs) W' (bodyQ P tabL (Yb l) m n D body Tc K)):YieldS P m vs T W K:=by
 cases yield_of tabOk mixed rfl e1 e2 e3 ok hlk hlen λTc=>newO_eq (h Tc) with
 |mk h=>exact ⟨λR Tc H xs rt rh hx=>h R Tc H xs (someT_rel hs rt) rh hx⟩
theorem rgF (l:List FuncId) (T2:WT) {Y:YP} {T:WT} {W:WH} {g:Operand} {ps:Array Tmp} {asg body:Code} {Q:WQ} {f:FuncId} {fn:Func} {first caps:List WV} (hY:Y.out=true) (hs:someT T T2) (hg:fnW (evW T2 g)=some (f,first,caps))
 (hf:P.funcs[f]?=some fn) (hc:chk fn (first.length+(caps.length+1))=true) (hr:resOf fn=[])
 (h:∀D:LoopD,D.ps=ps.toList->D.asg=asg->D.body=body->LoopOk D->newO W (.loop D T2 .ready none) λn W'=>Wk P tabL (Yf l) (bodyOf fn) (argsT 0 (first++(.yld n::caps))) W' (rangeE n D Q)):RangeW P Y g ps asg body T W Q:=by
 obtain ⟨a,b,c,d⟩:=chk_of hc
 cases range_of tabOk mixed hY hg hf a b c d hr λD h1 h2 h3 h4=>newO_eq (h D h1 h2 h3 h4) with
 |mk h=>exact ⟨λN R Tc H hd rt rh=>h N R Tc H hd (someT_rel hs rt) rh⟩
theorem fL {ns:NM} {W:WH} {n m:Nat} {D:LoopD} {T T1:WT} {st:LoopState} {pend:Option Code} {vs:List WV} (h1:lk ns n=some (some m)) (h2:lk W.objs m=some (.loop D T st pend)) (h3:mapO (λp:Nat×WV=>backV ns p.2) T1=some vs) (h4:T1.map (λp=>lk T p.1)=vs.map some):fitO ns W n (.loop D T1 st pend):=by
 unfold fitO;rw [h1];exact ⟨T,h2,fitT_of h3 h4⟩
theorem fM {ns:NM} {W:WH} {n m:Nat} {Tc:TL} {T T1:WT} {vs:List WV} (h1:lk ns n=some (some m)) (h2:lk W.objs m=some (.frm T Tc)) (h3:mapO (λp:Nat×WV=>backV ns p.2) T1=some vs) (h4:T1.map (λp=>lk T p.1)=vs.map some):fitO ns W n (.frm T1 Tc):=by
 unfold fitO;rw [h1];exact ⟨T,h2,fitT_of h3 h4⟩
theorem fX {ns:NM} {W:WH} {n m:Nat} {cs cs':List WV} {fz fz':Bool} (h1:lk ns n=some (some m)) (h2:mapO (backC ns) cs=some cs') (h3:lk W.objs m=some (.box cs' fz')) (h4:fz=false->fz'=false):fitO ns W n (.box cs fz):=by
 unfold fitO;rw [h1];exact ⟨cs',fz',h2,h3,h4⟩
theorem fS {ns:NM} {W:WH} {n m:Nat} {ks:List Value} {V V0:Value->Prop} (h1:lk ns n=some (some m)) (h2:lk W.objs m=some (.set ks V0)) (h3:∀v,V0 v->V v):fitO ns W n (.set ks V):=by
 unfold fitO;rw [h1];exact ⟨V0,h2,h3⟩
theorem fG {ns:NM} {W:WH} {n m:Nat} {G:Value->AV->Prop} {fz fz':Bool} {pe pe':List (Nat×Value)} (h1:lk ns n=some (some m)) (h2:lk W.objs m=some (.bag G fz' pe')) (h3:∀p∈pe,p∈pe') (h4:fz=false->fz'=false):fitO ns W n (.bag G fz pe):=by
 unfold fitO;rw [h1];exact ⟨G,fz',pe',h2,λ_ _ h=>h,h3,h4⟩
theorem fGm {ns:NM} {W:WH} {n m:Nat} {G G0:Value->AV->Prop} {fz fz':Bool} {pe:List (Nat×Value)} (h1:lk ns n=some (some m)) (h2:lk W.objs m=some (.bag G0 fz' pe)) (h3:∀k x,G0 k x->G k x) (h4:fz=false->fz'=false):fitO ns W n (.bag G fz []):=by
 unfold fitO;rw [h1];exact ⟨G0,fz',pe,h2,h3,λ_ h=>(by cases h),h4⟩
theorem f0 {ns:NM} {W:WH} {n s rt:Nat} {es:List (List WV)} {fz:Bool} (h1:lk ns n=some none) (h2:es=[]):fitO ns W n (.row es s fz rt):=by
 unfold fitO;rw [h1];exact h2
section
variable {α:Type} {l m:List α} {f:α->List WV} {k len s:Nat} {ys:List (List WV)} {X:List (List WV)->Prop} {Z:Prop}
theorem wX {d:List α} (hlen:len=l.length) (hy:ys=m.map f) (hc:∀a,(f a).length=s/\(f a).all storableW=true) (h1:(2*(l.length+m.length)+192)*k<=281474976710656) (h2:l.length+m.length<=1152921504606846976) (h:X ((l++m).map f)) (hz:m=[]->Z) :
 (ys≠[]->roomP k (len+ys.length)/\cellP s ys/\∃zs,(((l++d).map f).drop 0).take len++ys=zs/\X zs)/\(ys=[]->Z):=by
 subst hlen hy
 rw [List.length_map]
 exact ⟨λ_=>⟨⟨h1,h2⟩,cellP_map hc _,_,by rw [List.drop_zero,<-List.map_take,List.take_left,List.map_append],h⟩,λe=>hz (List.map_eq_nil_iff.1 e)⟩
theorem wX0 (hlen:len=l.length) (hy:ys=m.map f) (hc:∀a,(f a).length=s/\(f a).all storableW=true) (h1:(2*(l.length+m.length)+192)*k<=281474976710656) (h2:l.length+m.length<=1152921504606846976) (h:X ((l++m).map f)) (hz:m=[]->Z) :
 (ys≠[]->roomP k (len+ys.length)/\cellP s ys/\∃zs,((l.map f).drop 0).take len++ys=zs/\X zs)/\(ys=[]->Z):=by
 have:=wX (d:=[]) (X:=X) hlen hy hc h1 h2 h hz
 rwa [List.append_nil] at this
theorem wY (hy:ys=m.map f) (hc:∀a,(f a).length=s/\(f a).all storableW=true) (h1:(2*(l.length+m.length)+192)*k<=281474976710656) (h2:l.length+m.length<=1152921504606846976) (h:X ((l++m).map f)) (hz:m=[]->Z) :
 (∀e∈l.map f,e.length=s)/\(ys≠[]->roomP k ((l.map f).length+ys.length)/\cellP s ys/\∃zs,l.map f++ys=zs/\X zs)/\(ys=[]->Z):=by
 subst hy
 rw [List.length_map,List.length_map]
 exact ⟨lens_map λa=>(hc a).1,λ_=>⟨⟨h1,h2⟩,cellP_map hc _,_,by rw [List.map_append],h⟩,λe=>hz (List.map_eq_nil_iff.1 e)⟩
theorem slM {h m:Int} {X:Prop} (h0:0<=h) (h1:h<=(l.length:Int)) (e:m=h) (hx:X):0<=h/\h<=((l.map f).length:Int)/\m=h/\X:=⟨h0,by rw [List.length_map];exact h1,e,hx⟩
end
theorem fFit (ns:NM) {f:FuncId} {vs vs1 us:List WV} {T T1:WT} {W W1:WH} {K:WKF} (h:FarS P f vs1 T1 W1 K) (hn:nmOk ns W1.nx=true) (h1:mapO (λp:Nat×WV=>backV ns p.2) T1=some us) (h2:T1.map (λp=>lk T p.1)=us.map some) (hH:fitH ns W W1.objs) (hv:mapO (backV ns) vs1=some vs):FarS P f vs T W K:=
 far_fit ns hn (fitT_of h1 h2) hH hv h
def WSQ {α:Type} (f:FuncId) (args:List WV) (s:Nat) (c:α->List WV) (Q:List α->Prop):Prop:=WOwnS P f args s (λes=>∃r,es=r.map c/\Q r)
theorem goS (l:List FuncId) {f:FuncId} {fn:Func} {args:List WV} {s:Nat} {G:List (List WV)->Prop} (hf:P.funcs[f]?=some fn) (hc:chk fn args.length=true)
 (h:Wk P tabL (Yf l) (bodyOf fn) (argsT 0 args) ⟨[],0⟩ (ownsS (resOf fn) s G)):WOwnS P f args s G:=
 let ⟨a,b,c,d⟩:=chk_of hc
 wownS tabOk mixed hf a b c d h
theorem wSn {α:Type} {g:FuncId} {args:List WV} {s:Nat} {c:α->List WV} {Q:List α->Prop} {X:Nat->List (List WV)->Prop} {A B C D E F Z:Prop} (ok:WSQ g args s c Q) (hc:∀a,(c a).all scB=true) (h:∀z,Q z->X s (z.map c)) (h0:Q []->Z) :
 A\/B\/C\/D\/E\/F\/(∃s G,WOwnS P g args s G/\(∀es,G es->es.all (·.all scB)=true/\X s es)/\(G []->Z)):=
 .inr (.inr (.inr (.inr (.inr (.inr ⟨_,_,ok,λv ⟨r,e,q⟩=>by subst e;exact ⟨by rw [List.all_map];exact List.all_eq_true.2 λa _=>hc a,h r q⟩,λ⟨r,e,q⟩=>h0 (by cases r with | nil=>exact q | cons _ _=>cases e)⟩)))))
theorem wSv {α:Type} {f:FuncId} {args:List WV} {s:Nat} {c:α->List WV} {Q:List α->Prop} (h:WSQ f args s c Q):WQv f args (λr:List α=>.lst (r.map c)) Q:=λxs hx=>by
 rcases h xs hx with ⟨es,ys,h1,⟨r,e,hr⟩,_,h4⟩ | ⟨⟨r,e,hr⟩,x,h1,h2⟩
 ·exact ⟨_,_,.lst (c:=false) h1,⟨r,by rw [e],hr⟩,h4.valid⟩
 ·exact ⟨_,_,h1,⟨r,by rw [e],hr⟩,h2⟩
theorem wq_mono {α:Type} {f:FuncId} {args:List WV} {en:α->WV} {Q Q':α->Prop} (h:WQv f args en Q) (hq:∀r,Q r->Q' r):WQv f args en Q':=λxs hx=>by
 obtain ⟨r,x,h1,⟨z,e,hz⟩,h3⟩:=h xs hx
 exact ⟨r,x,h1,⟨z,e,hq z hz⟩,h3⟩
theorem wnS {α:Type} {f:α->List WV} {z d:List α} {Q:List α->Prop} (hl:∀a,(f a).all leafB=true) (h:Q z):leafs ((z++d).map f)/\∃zs,((z++d).map f).take z.length=zs/\∃r,zs=r.map f/\Q r:=
 ⟨leafs_map hl _,_,rfl,z,by rw [<-List.map_take,List.take_left],h⟩
theorem tk0 {s:Nat} {Y:List (List WV)->Prop} (h:Y []):(∀x∈([]:List (List WV)),x.length=s)/\0<=(0:Int)/\(0:Int)<=(([]:List (List WV)).length:Int)/\(0:Int)=0/\∃zs,([]:List (List WV)).take (Int.toNat 0)=zs/\Y zs:=
 ⟨λ_ h=>(by cases h),Int.le_refl _,Int.le_refl _,rfl,_,rfl,h⟩
theorem wY0 {α:Type} {m:List α} {f:α->List WV} {k s:Nat} {ys:List (List WV)} {X:List (List WV)->Prop} {Z:Prop} (hy:ys=m.map f) (hc:∀a,(f a).length=s/\(f a).all storableW=true) (h1:(2*m.length+192)*k<=281474976710656) (h2:m.length<=1152921504606846976) (h:X (m.map f)) (hz:m=[]->Z) :
 (∀e∈([]:List (List WV)),e.length=s)/\(ys≠[]->roomP k (([]:List (List WV)).length+ys.length)/\cellP s ys/\∃zs,[]++ys=zs/\X zs)/\(ys=[]->Z):=by
 have:=wY (l:=([]:List α)) (m:=m) (f:=f) (k:=k) (s:=s) (ys:=ys) (X:=X) (Z:=Z) hy hc (by rw [List.length_nil,Nat.zero_add];exact h1) (by rw [List.length_nil,Nat.zero_add];exact h2) h hz
 exact this
def cFn (p:FuncId×List WV):List WV:=[.fnp p.1 [] p.2]
end Go.Abs.RM
end
section
namespace Go.Proofs.RMH
open Go.RowKit Go.Lib
def fitsL:List UInt8->List UInt8->Bool
 |[],[]=>true
 |a::r,b::s=>(a==63 || a==b)&&fitsL r s
 |_,_=>false
def asciiB (s:ByteArray):Bool:=s.data.toList.all λb=>decide (b.toNat<128)
theorem fitsL_len:∀{a b:List UInt8},a.length≠b.length->fitsL a b=false
 |[],[],h=>absurd rfl h
 |[],_::_,_=>rfl
 |_::_,[],_=>rfl
 |a::r,b::s,h=>by
  have:r.length≠s.length:=λe=>h (by simp [e])
  simp [fitsL,fitsL_len this]
theorem fits_drop {p s:ByteArray} {i:Nat} (hp:i<p.size) (hs:i<s.size):fitsL (p.data.toList.drop i) (s.data.toList.drop i)=((p[i]==63 || p[i]==s[i])&&fitsL (p.data.toList.drop (i+1)) (s.data.toList.drop (i+1))):=by
 rw [List.drop_eq_getElem_cons (l:=p.data.toList) (i:=i) (by simpa using hp),List.drop_eq_getElem_cons (l:=s.data.toList) (i:=i) (by simpa using hs)]
 rfl
set_option maxRecDepth 100000 in
set_option maxHeartbeats 1000000 in
theorem fits_walk (p s:ByteArray) (w:World) (hsz:p.size<=1000000) (hascii:asciiB p=true) :
 Calls Tryz.prog 448 #[.string p,.string s] w λe w'=>e=.returned (.bool (fitsL p.data.toList s.data.toList))/\Below w.heap.size w w':=by
 have HA:=Lib.hid hascii
 clear hascii
 go_enter Tryz.func448,Tryz.ntmps448
 by_cases hn:p.size=s.size
 ·go_wp2
  go_loopg [] p.size (λg wx=>∃i:Nat,i+g=p.size/\wx=w.iter p i/\fitsL (p.data.toList.drop i) (s.data.toList.drop i)=fitsL p.data.toList s.data.toList)
  case atStart=>exact ⟨0,by omega,rfl,rfl⟩
  case round=>
   obtain ⟨i,hig,rfl,hrec⟩:=hrel
   have HR:=Lib.hid hrec
   clear hrec
   cases gk with
   |zero=>
    obtain rfl:i=s.size:=by omega
    have hnx:=λty=>run_next_end (P:=Tryz.prog) w p s.size ty (by omega)
    go_wp2
    go_ret
    refine ⟨?_,(Below.refl _ _).alloc (Nat.le_refl _) _⟩
    rw [<-(HR:_=_)]
    rw [List.drop_of_length_le (by simp;omega),List.drop_of_length_le (by simp)]
    rfl
   |succ g=>
    have hi:i<p.size:=by omega
    have ha:(p[i]'hi).toNat<128:=by
     have hA:asciiB p=true:=HA
     unfold asciiB at hA
     exact of_decide_eq_true (List.all_eq_true.1 hA _ (List.getElem_mem (l:=p.data.toList) (n:=i) (by simpa using hi)))
    have hnx:=λty=>run_next_ascii (P:=Tryz.prog) w p i ty hi ha
    have hs:i<s.size:=by omega
    have hsi:s[i]?=some s[i]:=by simp [hs]
    have HF:=Lib.hid (fits_drop hi hs)
    go_wp2
    ·rename_i h
     go_roundg g
     case measure=>omega
     case rel=>
      refine ⟨i+1,by omega,rfl,?_⟩
      rw [<-(HR:_=_),(HF:_=_)]
      have:p[i]=63:=UInt8.toNat_inj.1 (by show p[i].toNat=63;omega)
      rw [this];rfl
    ·rename_i h h2
     go_ret
     refine ⟨?_,(Below.refl _ _).alloc (Nat.le_refl _) _⟩
     rw [<-(HR:_=_),(HF:_=_)]
     have h3:(p[i]==63)=false:=by simp only [beq_eq_false_iff_ne];intro e;rw [e] at h;exact h rfl
     have h4:(p[i]==s[i])=false:=by simp only [beq_eq_false_iff_ne];intro e;have:=h2.2;rw [e] at this;simp at this
     rw [h3,h4];rfl
    ·rename_i h h2
     go_roundg g
     case measure=>omega
     case rel=>
      refine ⟨i+1,by omega,rfl,?_⟩
      rw [<-(HR:_=_),(HF:_=_)]
      have h4:p[i]=s[i]:=UInt8.toNat_inj.1 (by rcases h2 with h2 | h2<;>simp at h2<;>omega)
      rw [h4];simp
 ·go_wp2
  go_ret
  rw [fitsL_len (by simpa using hn)]
  exact ⟨rfl,Below.refl _ _⟩
def cutS:List UInt8->List UInt8->List ByteArray
 |[],cur=>[⟨cur.toArray⟩]
 |b::r,cur=>bif b==42 then ⟨cur.toArray⟩::cutS r [] else cutS r (cur++[b])
theorem cutS_step {p:ByteArray} {pos:Nat} (h:pos<p.size) (cur:List UInt8):cutS (p.data.toList.drop pos) cur=bif p[pos]==42 then ⟨cur.toArray⟩::cutS (p.data.toList.drop (pos+1)) [] else cutS (p.data.toList.drop (pos+1)) (cur++[p[pos]]):=by
 rw [List.drop_eq_getElem_cons (l:=p.data.toList) (i:=pos) (by simpa using h)]
 rfl
theorem ext_nil (p:ByteArray) (n:Nat):(p.extract n n).data.toList=[]:=by
 apply List.eq_nil_of_length_eq_zero
 show (p.extract n n).size=0
 simp
theorem ext_snoc {p:ByteArray} {f n:Nat} (hf:f<=n) (hn:n<p.size):(p.extract f (n+1)).data.toList=(p.extract f n).data.toList++[p[n]]:=by
 simp only [ByteArray.data_extract,Array.toList_extract,List.extract_eq_take_drop]
 rw [show n+1-f=(n-f)+1 by omega,List.take_add_one,List.getElem?_drop,show f+(n-f)=n by omega,List.getElem?_eq_getElem (by simpa using hn)]
 rfl
theorem arr_eq (p:ByteArray):(⟨p.data.toList.toArray⟩:ByteArray)=p:=by cases p;simp
theorem map_str_snoc (l:List ByteArray) (x:ByteArray):l.map Value.string++[.string x]=(l++[x]).map Value.string:=by simp
theorem cell_one_new (w:World) (a:Value) (t:TypeId):∀j u,[a][j]?=some u->(w.alloc (.cells #[a] t)).cell? ((⟨w.heap.size,0,none⟩:Addr).add j)=some u:=by
 intro j u hj
 match j,hj with
 |0,hj=>simp at hj;subst hj;simp [Addr.add]
 |j+1,hj=>simp at hj
theorem Tryz.info9':(Tryz.prog.info? 9).map (λi=>(i.zero,i.size,i.bytes))=some (some (.string ByteArray.empty),1,16):=by kernel_rfl
theorem Tryz.under24:Tryz.prog.underlying 24=some (.slice 9):=by kernel_rfl
set_option maxRecDepth 100000 in
set_option maxHeartbeats 1000000 in
theorem pieces_walk (p:ByteArray) (w:World) (hsz:p.size<=1000000) (hascii:asciiB p=true) :
 Calls Tryz.prog 447 #[.string p] w λe w'=>∃v,e=.returned v/\w'.ownsRow (w.heap.size+1) 9 1 v (cutS p.data.toList []).length ((cutS p.data.toList []).map Value.string)/\Below w.heap.size w w':=by
 have HA:=Lib.hid hascii
 clear hascii
 obtain ⟨i0,hi,hz0,hz1,hz2⟩:=info_parts Tryz.info9'
 go_enter Tryz.func447,Tryz.ntmps447
 go_wp2
 go_loopw [3,4] (λv fr wr=>∃(pos f:Nat) (acc:List ByteArray),fr=.int .i64 f/\wr.heap[w.heap.size]?=some (.stringIter p pos)/\wr.ownsRow (w.heap.size+1) 9 1 v acc.length (acc.map Value.string)/\Below w.heap.size w wr/\Hid (acc++cutS (p.data.toList.drop pos) (p.extract f pos).data.toList=cutS p.data.toList [])/\f<=pos/\pos<=p.size/\acc.length<=pos) (λ_ _ wr=>p.size-wr.iterPos w.heap.size)
 case atStart=>exact ⟨0,0,[],rfl,World.iter_heap w p 0,World.ownsRow_nil _ _ _ _,(Below.refl _ _).alloc (Nat.le_refl _) _,Lib.hid (by simp),by omega,by omega,by simp⟩
 case round=>
  obtain ⟨pos,f,acc,rfl,hit,hown,hbw,HS,hf,hps,hlen⟩:=hrel
  have hpos0:=iterPos_of hit
  by_cases hp:pos<p.size
  ·have ha:(p[pos]'hp).toNat<128:=by
    have hA:asciiB p=true:=HA
    unfold asciiB at hA
    exact of_decide_eq_true (List.all_eq_true.1 hA _ (List.getElem_mem (l:=p.data.toList) (n:=pos) (by simpa using hp)))
   have hnx:∀ty,(Instr.next (.pointer (some ⟨w.heap.size,0,none⟩)) true ty).run Tryz.prog wr=_:=λty=>Lib.run_next_ascii_at wr w.heap.size p pos ty hit hp ha
   have hit2:=Lib.iterAt_heap wr w.heap.size p pos (pos+1) hit
   have hbw2:=Lib.below_iterAt hbw (k:=w.heap.size) (Nat.le_refl _) p (pos+1)
   have hown2:=ownsRow_iterAt hown (k:=w.heap.size) (by omega) p (pos+1)
   obtain ⟨W1,hW1⟩:∃W1,W1=wr.iterAt w.heap.size p (pos+1):=⟨_,rfl⟩
   rw [<-hW1] at hnx hit2 hbw2 hown2
   have hBlt:=lt_of_block hit2
   clear hW1 hit hown hbw
   have HF:=Lib.hid (cutS_step hp (p.extract f pos).data.toList)
   go_wp2_with (first
    |(at_builtin;refine wpList_append_own _ rfl _ _ 24 rfl (w.heap.size+1) 9 i0 (.string ByteArray.empty) 1 16 Tryz.under24 hi hz0 hz1 hz2 rfl (by decide) _ _ _ rfl (hown2.alloc _) ⟨W1.heap.size,0,none⟩ 1 1 [.string (p.extract f pos)] rfl rfl (cell_one_new _ _ _) (λx hx=>by simp at hx;subst hx;rfl) (by unfold maxLen;omega) (by omega) (by simp;omega) ?_;intro v' w3 hown' hgrow3 hnil3
      have hit3:w3.heap[w.heap.size]?=some (.stringIter p (pos+1)):=by
       rw [hgrow3.block w.heap.size (by simp;omega) (λh=>by have:=(hown2.lt _ h.symm).1;omega),Below.heap_alloc _ _ _ hBlt];exact hit2
      have hbw3:Below w.heap.size w w3:=Below.grown (hbw2.alloc (by omega) _) hgrow3 (by simp;omega) (λj hj=>by have:=(hown2.lt _ hj).1;omega)
      have X:Aside (w3.ownsRow (w.heap.size+1) 9 1 v' (acc.length+1) (acc.map Value.string++[.string (p.extract f pos)])/\w3.heap[w.heap.size]?=some (.stringIter p (pos+1))/\Below w.heap.size w w3):=⟨hown',hit3,hbw3⟩
      clear hown' hgrow3 hnil3 hit3 hbw3))
   ·rename_i h
    have e1:(p[pos]==42)=true:=by
     have:p[pos].toNat=42:=by simp at h;omega
     simpa using UInt8.toNat_inj.1 this
    have hX:=X.out
    rw [map_str_snoc] at hX
    refine ⟨⟨pos+1,pos+1,acc++[p.extract f pos],rfl,hX.2.1,by simpa using hX.1,hX.2.2,Lib.hid ?_,by omega,by omega,by simp;omega⟩,by rw [iterPos_of hX.2.1,hpos0];omega⟩
    rw [<-(HS:_=_),(HF:_=_),ext_nil,e1,arr_eq]
    simp
   ·rename_i h
    have e1:(p[pos]==42)=false:=by
     simp only [beq_eq_false_iff_ne];intro e;rw [e] at h;simp at h
    refine ⟨⟨pos+1,f,acc,rfl,hit2,hown2,hbw2,Lib.hid ?_,by omega,by omega,by omega⟩,by rw [iterPos_of hit2,hpos0];omega⟩
    rw [<-(HS:_=_),(HF:_=_),ext_snoc hf hp,e1]
    rfl
  ·have hnx:∀ty,(Instr.next (.pointer (some ⟨w.heap.size,0,none⟩)) true ty).run Tryz.prog wr=_:=λty=>Lib.run_next_end_at wr w.heap.size p pos ty hit hp
   obtain rfl:pos=p.size:=by omega
   have hBlt:=lt_of_block hit
   go_wp2_with (first
    |(at_builtin;refine wpList_append_own _ rfl _ _ 24 rfl (w.heap.size+1) 9 i0 (.string ByteArray.empty) 1 16 Tryz.under24 hi hz0 hz1 hz2 rfl (by decide) _ _ _ rfl (hown.alloc _) ⟨wr.heap.size,0,none⟩ 1 1 [.string (p.extract f p.size)] rfl rfl (cell_one_new _ _ _) (λx hx=>by simp at hx;subst hx;rfl) (by unfold maxLen;omega) (by omega) (by simp;omega) ?_;intro v' w3 hown' hgrow3 hnil3
      have hbw3:Below w.heap.size w w3:=Below.grown (hbw.alloc (by omega) _) hgrow3 (by simp;omega) (λj hj=>by have:=(hown.lt _ hj).1;omega)
      have X:Aside (w3.ownsRow (w.heap.size+1) 9 1 v' (acc.length+1) (acc.map Value.string++[.string (p.extract f p.size)])/\Below w.heap.size w w3):=⟨hown',hbw3⟩
      clear hown' hgrow3 hnil3 hbw3))
   go_ret
   have hX:=X.out
   rw [map_str_snoc] at hX
   have e:cutS p.data.toList []=acc++[p.extract f p.size]:=by
    rw [<-(HS:_=_),List.drop_of_length_le (by simp)]
    show _=acc++[_]
    rw [cutS,arr_eq]
   rw [e]
   exact ⟨_,rfl,by simpa using hX.1,hX.2⟩
end Go.Proofs.RMH
namespace Go.Abs.RM
open Go.Proofs Go.Proofs.RMH Go.RowKit
noncomputable section
theorem tvs_str {w:World} {I:Nat->Nat->Prop} {J:Nat->Prop}:∀l:List ByteArray,TVs w I J (l.map λs=>.sc (.string s)) (l.map Value.string)
 |[]=>.nil
 |_::l=>.cons (.sc rfl) (tvs_str l)
theorem flatten_strs:∀l:List ByteArray,(l.map λs=>[AV.sc (.string s)]).flatten=l.map λs=>.sc (.string s)
 |[]=>rfl
 |s::l=>by show _::(List.map (λs=>[AV.sc (Value.string s)]) l).flatten=_;rw [flatten_strs l];rfl
theorem strs_show {w w':World} {I:Nat->Nat->Prop} {J:Nat->Prop} {l:List ByteArray} {v:Value} {base:Nat} (hrow:w'.ownsRow base 9 1 v l.length (l.map Value.string)) (hb:w.heap.size<=base) (hne:l≠[]) :
 ∃I':Nat->Nat->Prop,(∀b off,I b off->I' b off)/\(∀b off,I' b off->I b off\/(w.heap.size<=b/\b<w'.heap.size))/\TV w' I' J (.isl (l.map λs=>[.sc (.string s)]) false) v:=by
 rcases hrow.2 with ⟨_,h0⟩ | ⟨g,cap,cur,hv,hbase,hbl,h1,h2,h3,h4⟩
 ·exact absurd (List.length_eq_zero_iff.1 h0) hne
 ·subst hv
  have hlt:=(Array.getElem?_eq_some_iff.1 hbl).1
  refine ⟨λb off=>I b off\/(b=g/\off<l.length),λ_ _ h=>.inl h,λb off h=>?_,?_⟩
  ·rcases h with h | ⟨rfl,_⟩
   ·exact .inl h
   ·exact .inr ⟨by omega,hlt⟩
  ·have:=TV.isl (w:=w') (I:=λb off=>I b off\/(b=g/\off<l.length)) (J:=J) (es:=l.map λs=>[AV.sc (.string s)]) (capd:=false) (a:=⟨g,0,none⟩) (vs:=l.map Value.string) (s:=1) (cap:=cap)
    (by rw [flatten_strs];exact tvs_str _) (λ_=>⟨rfl,λj v hv=>?_⟩) (by intro e he;obtain ⟨n,_,rfl⟩:=List.mem_map.1 he;rfl) (by rw [List.length_map];omega) (by intro h;cases h)
   ·rw [List.length_map] at this
    exact this
   ·have hj:j<l.length:=by
     have:=(List.getElem?_eq_some_iff.1 hv).1
     simpa using this
    refine ⟨.inr ⟨rfl,by simpa using hj⟩,?_⟩
    rw [cell_of_heap hbl]
    rw [<-h4] at hv
    rw [List.getElem?_take] at hv
    split at hv
    ·simpa using hv
    ·cases hv
theorem prss_strs (l:List ByteArray):PRss (l.map cStr) (l.map λs=>[.sc (.string s)]):=by
 induction l with
 |nil=>exact .nil
 |cons s l ih=>exact .cons (.cons .sc .nil) ih
theorem cutS_ne (l:List UInt8):∀cur,cutS l cur≠[]:=by
 induction l with
 |nil=>intro cur h;cases h
 |cons b l ih=>
  intro cur h
  unfold cutS at h
  cases hb:b==42<;>rw [hb] at h
  ·exact ih _ h
  ·cases h
def d193 (_fuel:Nat) (a0:ByteArray) (a1:ByteArray):Option Bool:=(bif asciiB a0&&decide (a0.size<=1000000) then some (fitsL a0.data.toList a1.data.toList) else none)
theorem d193_ok (fuel:Nat) (a0:ByteArray) (a1:ByteArray) (r:Bool) (hI:d193 fuel a0 a1=some r):WValid P 448 [.sc (.string a0),.sc (.string a1)] (λz=>z=.sc (.bool r)):=by
 obtain ⟨hc,hI⟩:=ckd hI
 cases hI
 simp only [Bool.and_eq_true,decide_eq_true_eq] at hc
 intro xs hx
 cases hx with
 |cons h1 hx=>
 cases hx with
 |cons h2 hx=>
 cases hx
 cases h1
 cases h2
 refine ⟨_,_,.sc,rfl,⟨⟨_,Tryz.func448,rfl,by kernel_rfl⟩,?_⟩⟩
 intro w I J vs hI hJ hv
 cases hv with
 |cons h hs=>
 cases hs with
 |cons h2 hs=>
 cases hs
 cases h
 cases h2
 refine (fits_walk a0 a1 w hc.2 hc.1).mono ?_
 rintro e w' ⟨rfl,hb⟩
 exact ⟨hb,I,J,λ_ _ h=>h,λ_ _ h=>.inl h,λ_ h=>h,λ_ h=>.inl h,.sc rfl⟩
def d192 (_fuel:Nat) (a0:ByteArray):Option (List ByteArray):=(bif asciiB a0&&decide (a0.size<=1000000) then some (cutS a0.data.toList []) else none)
theorem d192_ok (fuel:Nat) (a0:ByteArray) (r:List ByteArray) (hI:d192 fuel a0=some r):WValid P 447 [.sc (.string a0)] (λz=>z=.lst (r.map cStr)):=by
 obtain ⟨hc,hI⟩:=ckd hI
 cases hI
 simp only [Bool.and_eq_true,decide_eq_true_eq] at hc
 intro xs hx
 cases hx with
 |cons h1 hx=>
 cases hx
 cases h1
 refine ⟨_,_,.lst (c:=false) (prss_strs _),rfl,⟨⟨_,Tryz.func447,rfl,by kernel_rfl⟩,?_⟩⟩
 intro w I J vs hI hJ hv
 cases hv with
 |cons h hs=>
 cases hs
 cases h
 refine (pieces_walk a0 w hc.2 hc.1).mono ?_
 rintro e w' ⟨v,rfl,hrow,hb⟩
 obtain ⟨I',h1,h2,h3⟩:=strs_show (I:=I) (J:=J) (w:=w) hrow (by omega) (cutS_ne _ _)
 exact ⟨hb,I',J,h1,h2,λ_ h=>h,λ_ h=>.inl h,h3⟩
end
end Go.Abs.RM
end
