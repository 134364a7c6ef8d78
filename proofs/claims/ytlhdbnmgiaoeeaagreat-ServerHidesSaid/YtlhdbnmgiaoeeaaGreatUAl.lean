/- Of ServerHides: lemmas. -/
import Derived.Test.YtlhdbnmgiaoeeaaGreatUAk
import Derived.Test.YtlhdbnmgiaoeeaaGreatUAj
import Derived.Test.YtlhdbnmgiaoeeaaGreatProg
import Derived.Shelf.Spec.SlicesInsertGrow
import Derived.KernelRfl
import Derived.Test.YtlhdbnmgiaoeeaaGreatUAi
import Derived.Deep.Slices
import Derived.Deep.Fields
import Derived.ChangeOld
import Derived.ShutString
import Derived.Lib.SmallJoins
set_option linter.all false
section
namespace Go.Abs.RM
open Go.Proofs Go.Proofs.RMH
set_option maxRecDepth 100000
theorem w193 (a0 a1:ByteArray) (g0:asciiB a0=true) (g1:a0.size<=1000000):WQv 448 [.sc (.string a0),.sc (.string a1)] (λr:Bool=>.sc (.bool r)) (λr=>True):=λxs hx=>by
 obtain ⟨r,x,h1,h2,h3⟩:=d193_ok 0 a0 a1 (fitsL a0.data.toList a1.data.toList) (by simp [d193,g0,g1]) xs hx
 exact ⟨r,x,h1,⟨_,h2,trivial⟩,h3⟩
theorem u191 (a0:List ByteArray) (g0:a0.length<=1000000):WTQ 242 [] 1 a0 cStr (λr=>r=sortS a0):=by
 intro H x xs h1 h2 h3
 obtain ⟨es,H',h4,h5⟩:=d191_set 0 a0 (sortS a0) (by simp [d191,g0]) H x xs h1 h2 h3
 exact ⟨es,H',⟨_,h4,rfl⟩,h5⟩
theorem cutS_ok:∀(l cur:List UInt8),(∀b∈l,b.toNat<128)->(∀b∈cur,b.toNat<128)->(cutS l cur).length<=l.length+1/\∀x∈cutS l cur,asciiB x=true/\x.size<=cur.length+l.length
 |[],cur,_,hc=>⟨Nat.le_refl _,λx hx=>by
  rw [List.mem_singleton.1 hx]
  exact ⟨List.all_eq_true.2 λb hb=>decide_eq_true (hc b (by simpa using hb)),by show cur.toArray.size<=_;simp⟩⟩
 |b::l,cur,hl,hc=>by
  have hl':∀b∈l,b.toNat<128:=λx hx=>hl x (by simp [hx])
  unfold cutS
  cases b==42 with
  |true=>
   obtain ⟨h1,h2⟩:=cutS_ok l [] hl' (by simp)
   refine ⟨by simp only [cond_true,List.length_cons];omega,λx hx=>?_⟩
   rcases List.mem_cons.1 hx with rfl | hx
   ·exact ⟨List.all_eq_true.2 λb hb=>decide_eq_true (hc b (by simpa using hb)),by show cur.toArray.size<=_;simp⟩
   ·have:=h2 x hx
    exact ⟨this.1,by have:=this.2;simp at this ⊢;omega⟩
  |false=>
   obtain ⟨h1,h2⟩:=cutS_ok l (cur++[b]) hl' λx hx=>(List.mem_append.1 hx).elim (hc x) λh=>by rw [List.mem_singleton.1 h];exact hl b (by simp)
   refine ⟨by simp only [cond_false,List.length_cons];omega,λx hx=>?_⟩
   have:=h2 x hx
   exact ⟨this.1,by have:=this.2;simp at this ⊢;omega⟩
theorem cut_ok {p:ByteArray} {z:List ByteArray} (h:asciiB p=true) (hz:z=cutS p.data.toList []):1<=z.length/\z.length<=p.size+1/\∀x∈z,asciiB x=true/\x.size<=p.size:=by
 subst hz
 obtain ⟨h1,h2⟩:=cutS_ok p.data.toList [] (λb hb=>of_decide_eq_true (List.all_eq_true.1 h b hb)) (by simp)
 have hs:p.data.toList.length=p.size:=Array.length_toList
 refine ⟨?_,by omega,λx hx=>⟨(h2 x hx).1,by have:=(h2 x hx).2;simp at this;omega⟩⟩
 cases e:cutS p.data.toList [] with
 |nil=>exact absurd e (cutS_ne _ _)
 |cons _ _=>simp
def CutP (p:ByteArray) (z:List ByteArray):Prop:=1<=z.length/\z.length<=p.size+1/\∀x∈z,asciiB x=true/\x.size<=p.size
theorem w192 (a0:ByteArray) (g0:asciiB a0=true) (g1:a0.size<=1000000):WQv 447 [.sc (.string a0)] (λr:List ByteArray=>.lst (r.map cStr)) (λr=>CutP a0 r):=λxs hx=>by
 obtain ⟨r,x,h1,h2,h3⟩:=d192_ok 0 a0 (cutS a0.data.toList []) (by simp [d192,g0,g1]) xs hx
 exact ⟨r,x,h1,⟨_,h2,cut_ok g0 rfl⟩,h3⟩
theorem mem_mid {α:Type} {l:List α} {a b:Nat} {x:α} (h:x∈(l.drop a).take b):x∈l:=List.mem_of_mem_drop (List.mem_of_mem_take h)
def AS (p:ByteArray) (i:Int):Prop:=∀(j:Nat) b,p[j]?=some b->(j:Int)<i->b.toNat<128
theorem AS.z {p:ByteArray}:AS p 0:=λj b _ h=>absurd h (by omega)
theorem AS.nx {p:ByteArray} {i:Int} {x:UInt8} (hk:AS p i) (h0:0<=i) (hi:i<9223372036854775807) (hx:p[i.toNat]?=some x) (hq:x.toNat<128):AS p (nx i):=λj y hy hj=>by
 rw [nx_eq (by omega) (by omega)] at hj
 by_cases e:(j:Int)<i
 ·exact hk j y hy e
 ·obtain rfl:j=i.toNat:=by omega
  rw [hx] at hy;cases hy;exact hq
theorem asc_all {p:ByteArray} {i:Int} (h:AS p i) (h0:¬i<(p.size:Int)):asciiB p=true:=List.all_eq_true.2 λb hb=>by
 obtain ⟨j,hj⟩:=List.mem_iff_getElem?.1 hb
 have hl:=(List.getElem?_eq_some_iff.1 hj).1
 have hs:p.data.toList.length=p.size:=Array.length_toList
 have hj':j<p.size:=by omega
 refine decide_eq_true (h j b ?_ (by omega))
 obtain ⟨hlt,e⟩:=List.getElem?_eq_some_iff.1 hj
 have e2:p[j]?=some p[j]:=by simp [hj']
 rw [e2,<-e]
 rfl
theorem sortS_perm (l:List ByteArray):(sortS l).Perm l:=by
 unfold sortS
 have:=(List.mergeSort_perm (l.map λs=>s.data.toList) λa b=>decide (a<=b)).map (λl=>(⟨l.toArray⟩:ByteArray))
 rw [List.map_map] at this
 refine this.trans (.of_eq ?_)
 conv=>rhs;rw [<-List.map_id l]
 exact List.map_congr_left λa _=>by cases a;simp
theorem lkZ {l:List ByteArray} {s:ByteArray} {X:Value->Prop} {Y:Prop} (h1:memS l s=true->X (.bool true)) (h2:memS l s=false->Y):∃b,hasK (.string s) (l.map Value.string)=some b/\both b (∀v,VT v->X v) Y:=⟨_,hasK_str l s,br (λh v e=>by subst e;exact h1 h) h2⟩
def TK {α:Type} (l:List α) (i:Int) (Q:α->Prop):Prop:=∀(j:Nat) x,l[j]?=some x->(j:Int)<i->Q x
theorem TK.z {α:Type} {l:List α} {Q:α->Prop}:TK l 0 Q:=λj x _ h=>absurd h (by omega)
theorem TK.nx {α:Type} {l:List α} {Q:α->Prop} {i:Int} {x:α} (hk:TK l i Q) (h0:0<=i) (hi:i<9223372036854775807) (hx:l[i.toNat]?=some x) (hq:Q x):TK l (nx i) Q:=λj y hy hj=>by
 rw [nx_eq (by omega) (by omega)] at hj
 by_cases e:(j:Int)<i
 ·exact hk j y hy e
 ·obtain rfl:j=i.toNat:=by omega
  rw [hx] at hy;cases hy;exact hq
theorem TK.en {α:Type} {l:List α} {Q:α->Prop} {i:Int} (hk:TK l i Q) (h:¬i<(l.length:Int)):∀x∈l,Q x:=λx hx=>by
 obtain ⟨j,hj⟩:=List.mem_iff_getElem?.1 hx
 have:=(List.getElem?_eq_some_iff.1 hj).1
 exact hk j x hj (by omega)
def EK (e:S65):Prop:=e.f8.length<=9223372036854775807/\e.f9.length<=9223372036854775807/\e.f10.f5.length<=9223372036854775807/\e.f10.f6.length<=9223372036854775807/\e.f10.f7.f0.length<=9223372036854775807/\e.f10.f7.f1.length<=9223372036854775807
theorem EM.k {e:S65} (h:EM e):EK e:=by unfold EM CB at h;unfold EK;omega
theorem EB.k {e:S65} (h:EB e):EK e:=by unfold EB CB at h;unfold EK;omega
def PkM (p:S2037):Prop:=p.f5.length<=9223372036854775807/\(∀e∈p.f5,EM e)/\p.f7.length<=9223372036854775807/\(∀e∈p.f7,EM e)/\p.f6.length<=9223372036854775807/\p.f0.size<=9223372036854775807
def QM (q:S2079):Prop:=q.f2.length<=9223372036854775807/\(∀e∈q.f2,EM e)/\q.f3.length<=9223372036854775807/\(∀e∈q.f3,EM e)/\q.f0.size<=9223372036854775807
def RawS (s:S2031):Prop:=s.f0.size<=9223372036854775807/\s.f1.length<=9223372036854775807/\(∀x∈s.f1,RawG x)/\s.f2.length<=9223372036854775807/\(∀q∈s.f2,QM q)/\s.f4.length<=9223372036854775807/\∀p∈s.f4,PkM p
def LightS (s:S2031):Prop:=s.f1.length<=3/\s.f2.length<=4/\s.f4.length<=4/\∀x∈s.f1,(x.f1.length<=10/\x.f3.length<=4)/\RB x
theorem all_one {α:Type} {Q:α->Prop} {x:α} (h:Q x):∀y∈[x],Q y:=λy hy=>by rw [List.mem_singleton.1 hy];exact h
theorem ze61_cb:CB ze61 400 100:=⟨by decide,by decide,by decide,by decide,by decide,by decide,λx hx=>(by cases hx),λx hx=>(by cases hx),λx hx=>(by cases hx)⟩
end Go.Abs.RM
end
section
namespace Go.Abs.RM
open Go.Proofs
set_option maxRecDepth 100000
theorem unp {α:Type} {f:FuncId} {args args':List WV} {en:α->WV} {Q:α->Prop} (h:WQv f args en Q) (hu:∀xs,PRs args' xs->PRs args xs):WQv f args' en Q:=λxs hx=>h xs (hu xs hx)
theorem unI {cs:List WV}:∀xs,PRs cs xs->PRs cs xs:=λ_ h=>h
theorem unE {c:WV}:∀x,PR c x->PR c x:=λ_ h=>h
theorem unC {c' c:WV} {cs' cs:List WV} (h:∀x,PR c' x->PR c x) (hs:∀xs,PRs cs' xs->PRs cs xs):∀xs,PRs (c'::cs') xs->PRs (c::cs) xs:=λxs hx=>by
 cases hx with | cons a b=>exact .cons (h _ a) (hs _ b)
theorem unA {cs' cs:List WV} (h:∀xs,PRs cs' xs->PRs cs xs):∀x,PR (.agg cs') x->PR (.agg cs) x:=λx hx=>by
 cases hx with | agg q=>exact .agg (h _ q)
theorem unP {x0:AV} {es:List (List WV)} (h:PR (.lst es) x0):∀x,PR (.pin x0) x->PR (.lst es) x:=λx hx=>by cases hx;exact h
theorem unL {α β:Type} {l:List α} {m:List β} {f:α->List WV} {g:β->List WV} {π:α->β} (hm:m=l.map π) (h:∀a xs,PRs (f a) xs->PRs (g (π a)) xs):∀x,PR (.lst (l.map f)) x->PR (.lst (m.map g)) x:=λx hx=>by
 subst hm
 have key:∀(l:List α) xs,PRss (l.map f) xs->PRss ((l.map π).map g) xs:=λl=>by
  induction l with
  |nil=>exact λxs h=>h
  |cons a l ih=>intro xs h;cases h with | cons p q=>exact .cons (h:=h _ _ p) (ih _ q)
 cases l with
 |nil=>exact hx
 |cons a l=>cases hx with | lst q=>exact .lst (key _ _ q)
theorem prs_nth:∀{cs:List WV} {xs:List AV} {i:Nat} {c:WV},PRs cs xs->cs[i]?=some c->PR c (nth xs i)
 |_,_,0,_,.cons h _,hc=>by cases hc;exact h
 |_,_,i+1,_,.cons _ hs,hc=>prs_nth (i:=i) hs (by simpa using hc)
 |_,_,i,_,.nil,hc=>by simp at hc
theorem RP.p1 (r:RP):PR (.lst (r.d.f1.map S65.c)) (nth r.xs 1):=prs_nth r.h rfl
theorem RP.p3 (r:RP):PR (.lst (r.d.f3.map S65.c)) (nth r.xs 3):=prs_nth r.h rfl
theorem RP.p4 (r:RP):PR (.lst (r.d.f4.map c_i64)) (nth r.xs 4):=prs_nth r.h rfl
structure SP where
 d:S2031
 xs:List AV
 h:PRs (S2031.c d) xs
def SP.c (e:SP):List WV:=[.sc (.string e.d.f0),.pin (nth e.xs 1),.pin (nth e.xs 2),.pin (nth e.xs 3),.pin (nth e.xs 4),.pin (nth e.xs 5),.sc (.int .i64 e.d.f6),.pin (nth e.xs 7),.pin (nth e.xs 8),.pin (nth e.xs 9),.sc (.bool e.d.f10),.sc (.int .i64 e.d.f11)]
theorem SP.pr (e:SP):PRs e.c e.xs:=pinW_pr rfl e.h nth0
theorem SP.eq (e:SP) {ys:List AV} (h:PRs e.c ys):ys=e.xs:=pinW_eq rfl e.h nth0 h
theorem SP.un (e:SP) (ys:List AV) (h:PRs e.c ys):PRs (S2031.c e.d) ys:=by rw [e.eq h];exact e.h
theorem RP.un' (e:RP) (ys:List AV) (h:PRs e.c ys):PRs (S30.c e.d) ys:=e.un h
theorem EP.un' (e:EP) (ys:List AV) (h:PRs e.c ys):PRs (S65.c e.d) ys:=e.un h
structure PP where
 f0:ByteArray
 f1:ByteArray
 f2:Int
 f3:Int
 f4:ByteArray
 es:List EP
 f8:ByteArray
 f9:Int
def PP.c (p:PP):List WV:=[.sc (.string p.f0),.sc (.string p.f1),.sc (.int .i64 p.f2),.sc (.int .i64 p.f3),.sc (.string p.f4),.lst (p.es.map EP.c),.lst [],.lst [],.sc (.string p.f8),.sc (.int .i64 p.f9)]
theorem pick {α β:Type} {f:FuncId} {args args':List WV} {en:α->WV} {G:α->Prop} {en':β->WV} {π:β->α} {xs0:List AV} (h:WQv f args en G) (hp:PRs args xs0) (he:∀xs,PRs args' xs->xs=xs0) (hb:∀a x,PR (en a) x->∃b,π b=a/\PR (en' b) x):∃b,G (π b)/\WQv f args' en' (λr=>r=b):=by
 obtain ⟨r,x,h1,⟨a,rfl,hg⟩,hv⟩:=h xs0 hp
 obtain ⟨b,rfl,h2⟩:=hb a x h1
 exact ⟨b,hg,λxs hx=>by rw [he xs hx];exact ⟨_,x,h2,⟨b,rfl,rfl⟩,hv⟩⟩
theorem pinE (a:S65) (x:AV) (h:PR (.agg (S65.c a)) x):∃b:EP,b.d=a/\PR (.agg b.c) x:=by
 cases h with | agg q=>exact ⟨⟨a,_,q⟩,rfl,.agg (EP.pr ⟨a,_,q⟩)⟩
theorem pinR (a:S30) (x:AV) (h:PR (.agg (S30.c a)) x):∃b:RP,b.d=a/\PR (.agg b.c) x:=by
 cases h with | agg q=>exact ⟨⟨a,_,q⟩,rfl,.agg (RP.pr ⟨a,_,q⟩)⟩
theorem exC {c:WV} {cs:List WV} {x:AV} {xs:List AV} (h:∀y,PR c y->y=x) (hs:∀ys,PRs cs ys->ys=xs):∀ys,PRs (c::cs) ys->ys=x::xs:=λys hy=>by
 cases hy with | cons a b=>rw [h _ a,hs _ b]
theorem exN:∀ys,PRs [] ys->ys=[]:=λys hy=>by cases hy;rfl
theorem exS {v:Value}:∀y,PR (.sc v) y->y=.sc v:=λy h=>h.sc_inv
theorem exP {x:AV}:∀y,PR (.pin x) y->y=x:=λy h=>by cases h;rfl
theorem exA {cs:List WV} {xs:List AV} (h:∀ys,PRs cs ys->ys=xs):∀y,PR (.agg cs) y->y=.agg xs:=λy hy=>by cases hy with | agg q=>rw [h _ q]
def RoomW (s:SP) (id:ByteArray) (b:RP×Bool):Prop:=WQv 19 [.agg s.c,.sc (.string id)] (λr:RP×Bool=>.tup [.agg r.1.c,.sc (.bool r.2)]) (λr=>r=b)
def MayW (r:RP) (s:ByteArray) (z:Int):Prop:=WQv 20 [.agg r.c,.sc (.string s)] (λr:Int=>.sc (.int .i64 r)) (λr=>r=z)
def GetW (r:RP) (i:Int) (b:EP×Bool):Prop:=WQv 49 [.pin (nth r.xs 1),.sc (.int .i64 i)] (λr:EP×Bool=>.tup [.agg r.1.c,.sc (.bool r.2)]) (λr=>r=b)
def OutW (r:RP) (e:EP) (s:ByteArray) (p:EP):Prop:=WQv 23 [.agg r.c,.agg e.c,.sc (.string s)] (λr:EP=>.agg r.c) (λr=>r=p)
theorem pinT {γ:Type} {g:γ->WV} {δ:Type} {g':δ->WV} {π:δ->γ} (hb:∀a x,PR (g a) x->∃b,π b=a/\PR (g' b) x) (a:γ×Bool) (x:AV) (h:PR (.tup [g a.1,.sc (.bool a.2)]) x):∃b:δ×Bool,(π b.1,b.2)=a/\PR (.tup [g' b.1,.sc (.bool b.2)]) x:=by
 cases h with
 |tup q=>cases q with
  |cons q1 q2=>
   obtain ⟨b,e,hb'⟩:=hb _ _ q1
   exact ⟨(b,a.2),by rw [e],.tup (.cons hb' q2)⟩
def AnsP (r:RP) (s:ByteArray) (p:EP):Prop:=EB p.d/\∃e,GetW r p.d.f0 (e,true)/\OutW r e s p
def OutP (b:RP×Bool) (s:ByteArray) (o:PP):Prop:=o.es=[]\/(b.2=true/\MayW b.1 s 0/\o.es.length<=1000/\∀p∈o.es,AnsP b.1 s p)
theorem leafs1 {e:List WV} (h:e.all leafB=true):leafs [e]:=λx hx=>by rw [List.mem_singleton.1 hx];exact h
theorem ref_ok {a0:SP} {b:RP×Bool} {s:ByteArray} {r:SP×List PP} (h:r.1=a0/\∃o,r.2=[o]/\o.es=[]):r.1=a0/\r.2.length<=1/\∀o∈r.2,OutP b s o:=by
 obtain ⟨h1,o,h2,h3⟩:=h
 exact ⟨h1,by rw [h2];exact Nat.le_refl _,λx hx=>by rw [h2] at hx;rw [List.mem_singleton.1 hx];exact .inl h3⟩
theorem ans_ok {a0:SP} {b:RP×Bool} {s:ByteArray} {o:PP} {z:Int} (h:b.2=true) (hz:z=0) (hm:MayW b.1 s z) (ho:o.es.length<=1000/\∀p∈o.es,AnsP b.1 s p):((a0,[o]):SP×List PP).1=a0/\((a0,[o]):SP×List PP).2.length<=1/\∀o'∈((a0,[o]):SP×List PP).2,OutP b s o':=
 ⟨rfl,Nat.le_refl _,λx hx=>by rw [List.mem_singleton.1 hx];subst hz;exact .inr ⟨h,hm,ho⟩⟩
theorem ne_true {b:Bool} (h:b=false):¬b=true:=λe=>by rw [h] at e;cases e
theorem out_ok {b:RP×Bool} {s:ByteArray} {o:PP} (h:OutP b s o) (hl:(o.es.length:Int)>0):b.2=true:=by
 rcases h with h | h
 ·rw [h] at hl;simp at hl
 ·exact h.1
theorem out_len {b:RP×Bool} {s:ByteArray} {o:PP} (h:OutP b s o):o.es.length<=1000:=by
 rcases h with h | h
 ·rw [h];exact Nat.zero_le _
 ·exact h.2.2.1
theorem room_ok {s:S2031} {r:S30} (h:LightS s) (hr:r∈s.f1):RB r/\r.f1.length<=10:=⟨(h.2.2.2 r hr).2,(h.2.2.2 r hr).1.1⟩
theorem out_may {b:RP×Bool} {s:ByteArray} {o:PP} (h:OutP b s o) (hl:(o.es.length:Int)>0):MayW b.1 s 0:=by
 rcases h with h | h
 ·rw [h] at hl;simp at hl
 ·exact h.2.1
end Go.Abs.RM
end
section
namespace Go.Abs.RM
open Go.Proofs
abbrev sI (i:Int):WV:=.sc (.int .i64 i)
abbrev sB (b:Bool):WV:=.sc (.bool b)
abbrev sS (s:ByteArray):WV:=.sc (.string s)
abbrev lI (l:List Int):WV:=.lst (l.map c_i64)
abbrev lE (l:List S65):WV:=.lst (l.map S65.c)
abbrev aE (e:S65):WV:=.agg (S65.c e)
theorem lM {α β:Type} {f:α->β} {l:List α} {X:Nat->Prop} (h:X l.length):∃n,(l.map f).length=n/\X n:=⟨_,List.length_map ..,h⟩
theorem gO {f:FuncId} {fn:Func} {args:List WV} {G:WV->Prop} (hf:P.funcs[f]?=some fn) (h:Wk P tabL Y0 (bodyOf fn) (argsT 0 args) ⟨[],0⟩ (endsW tabL (resOf fn) G)) (hc:chk fn args.length=true:=by kernel_rfl):WValid P f args G:=go hf hc h
theorem fN {T:WT} {W:WH} {T1:WT} {vs:List WV} (h1:mapO (λp:Nat×WV=>backV [] p.2) T1=some vs) (h2:T1.map (λp=>lk T p.1)=vs.map some):Suits T W T1 ⟨[],0⟩:=ft [] rfl h1 h2 trivial
theorem fB1 {T:WT} {W:WH} {T1:WT} {vs cs:List WV} (h1:mapO (λp:Nat×WV=>backV [(0,some 0)] p.2) T1=some vs) (h2:T1.map (λp=>lk T p.1)=vs.map some) (h3:cs.all leafB=true) (h4:lk W.objs 0=some (.box cs false)):Suits T W T1 ⟨[(0,.box cs false)],1⟩:=ft [(0,some 0)] rfl h1 h2 ⟨fB rfl h3 h4,trivial⟩
theorem fR1 (k:Nat) {T:WT} {W:WH} {T1:WT} {vs:List WV} {s rt rt':Nat} {α:Type} {f:α->List WV} {l:List α} (h1:mapO (λp:Nat×WV=>backV [(0,some k)] p.2) T1=some vs) (h2:T1.map (λp=>lk T p.1)=vs.map some) (h3:lk W.objs k=some (.row (l.map f) s false rt')) (h:∀a,(f a).all leafB=true):Suits T W T1 ⟨[(0,.row (l.map f) s false rt)],1⟩:=ft [(0,some k)] rfl h1 h2 ⟨fR rfl h3 h,trivial⟩
end Go.Abs.RM
end
section
namespace Go.Proofs.RLP
open Go.Proofs
open Go.Shelf Go.RowKit Go.Lib
theorem mixed29:Tryz.prog.follows .mixedOrders=true:=by kernel_rfl
set_option maxHeartbeats 4000000 in
set_option maxRecDepth 100000 in
theorem insert_shift (b g c i vb vc:Nat) (w w1 w2:World) (hi:i<g) (hroom:g+1<=c) (hc63:g<=1000000)
 (hov:∀o lb cb,(callFunc 225 #[.slice (some ⟨vb,0,none⟩) 1 vc,.slice (some ⟨b,o,none⟩) lb cb]).run Tryz.prog w=.ok (.value (.bool false)) w)
 (hcp1:∀ty dc sc,(Builtin.copy_ #[33,33] ty #[.slice (some ⟨b,(i+1)*29,none⟩) (g-i) dc,.slice (some ⟨b,i*29,none⟩) (g+1-i) sc]).run Tryz.prog w.drew=.ok (goInt ((g:Int)-(i:Int))) w1)
 (hcp2:∀ty dc,(Builtin.copy_ #[33,33] ty #[.slice (some ⟨b,i*29,none⟩) (g+1-i) dc,.slice (some ⟨vb,0,none⟩) 1 vc]).run Tryz.prog w1=.ok (goInt 1) w2) :
 Calls Tryz.prog 122 #[.slice (some ⟨b,0,none⟩) g c,.int .i64 i,.slice (some ⟨vb,0,none⟩) 1 vc] w λe w'=>
  e=.returned (.slice (some ⟨b,0,none⟩) (g+1) c)/\w'=w2:=by
 have mixed:=mixed29
 have hz2:¬((i:Int)=(g:Int)):=by omega
 have hw1:IntKind.i64.wrap ((i:Int)+1)=(i:Int)+1:=by rw [IntKind.wrap_i64];omega
 have hw2:IntKind.i64.wrap ((g:Int)+1)=(g:Int)+1:=by rw [IntKind.wrap_i64];omega
 have hb1:(0:Int)<=(i:Int)+1:=by omega
 have hin:i<=g:=by omega
 have htn:((i:Int)+1).toNat=i+1:=by omega
 have hb2:¬(c=i+1):=by omega
 have hb3:(i:Int)<=(g:Int)+1:=by omega
 have hb4:¬(c=i):=by omega
 go_enter Tryz.func122,Tryz.ntmps122
 go_wp2_with (simp only [hov])
 go_region_law_o (refine step_copy_runI rfl _ _ 33 33 rfl _ _ (by simp [Act.eval,Act.put]) (by simp [Act.eval,Act.put]) (hcp1 _ _ _) ?_)
 go_wp2_with (at_builtin;refine wpList_copy_runI _ rfl _ _ 33 33 rfl _ _ rfl rfl (hcp2 _ _) ?_)
 go_ret
 exact ⟨rfl,rfl⟩
set_option maxHeartbeats 4000000 in
set_option maxRecDepth 100000 in
theorem insert_end (b g c vb vc:Nat) (w w1:World) (r:Value)
 (hap:(Builtin.append_ #[33,33] 33 #[.slice (some ⟨b,0,none⟩) g c,.slice (some ⟨vb,0,none⟩) 1 vc]).run Tryz.prog w=.ok r w1) :
 Calls Tryz.prog 122 #[.slice (some ⟨b,0,none⟩) g c,.int .i64 g,.slice (some ⟨vb,0,none⟩) 1 vc] w λe w'=>e=.returned r/\w'=w1:=by
 go_enter Tryz.func122,Tryz.ntmps122
 go_wp2_with (at_builtin;refine Lib.wpList_append_run _ rfl _ _ _ _ rfl _ _ rfl rfl _ _ hap ?_)
 all_goals (go_ret;exact ⟨rfl,rfl⟩)
set_option maxHeartbeats 4000000 in
set_option maxRecDepth 100000 in
theorem insert_grow (b g c i B G vb vc:Nat) (w w1 w2 w3:World) (hi:i<g) (hgc:g<=c) (hroom:c<g+1) (hc63:g<=1000000) (hG:g+1<=G)
 (hrz:(Builtin.append_ #[33,3] 33 #[.slice (some ⟨b,0,none⟩) i c,.int .i64 ((g:Int)+1-(i:Int))]).run Tryz.prog w=.ok (.slice (some ⟨B,0,none⟩) (g+1) G) w1)
 (hcp1:∀ty dc,(Builtin.copy_ #[33,33] ty #[.slice (some ⟨B,i*29,none⟩) (g+1-i) dc,.slice (some ⟨vb,0,none⟩) 1 vc]).run Tryz.prog w1=.ok (goInt 1) w2)
 (hcp2:∀ty dc sc,(Builtin.copy_ #[33,33] ty #[.slice (some ⟨B,(i+1)*29,none⟩) (g-i) dc,.slice (some ⟨b,i*29,none⟩) (g-i) sc]).run Tryz.prog w2.drew=.ok (goInt ((g:Int)-(i:Int))) w3) :
 Calls Tryz.prog 122 #[.slice (some ⟨b,0,none⟩) g c,.int .i64 i,.slice (some ⟨vb,0,none⟩) 1 vc] w λe w'=>
  e=.returned (.slice (some ⟨B,0,none⟩) (g+1) G)/\w'=w3:=by
 have mixed:=mixed29
 have hz2:¬((i:Int)=(g:Int)):=by omega
 have hz3:(c:Int)<(g:Int)+1:=by omega
 have hw1:IntKind.i64.wrap ((i:Int)+1)=(i:Int)+1:=by rw [IntKind.wrap_i64];omega
 have hw2:IntKind.i64.wrap ((g:Int)+1)=(g:Int)+1:=by rw [IntKind.wrap_i64];omega
 have hw3:IntKind.i64.wrap ((g:Int)+1-i)=(g:Int)+1-i:=by rw [IntKind.wrap_i64];omega
 have hb1:(0:Int)<=(i:Int)+1:=by omega
 have hin:i<=g:=by omega
 have htn:((i:Int)+1).toNat=i+1:=by omega
 have hb2:¬(G=i+1):=by omega
 have hb3:(i:Int)<=(g:Int)+1:=by omega
 have hb4:¬(c=i):=by omega
 have hb5:¬(G=i):=by omega
 have hb6:(i:Int)<=(g:Int):=by omega
 go_enter Tryz.func122,Tryz.ntmps122
 go_wp2_with (first
  |(at_builtin;refine Lib.wpList_append_run _ rfl _ _ _ _ rfl _ _ rfl rfl _ _ hrz ?_)
  |(at_builtin;refine wpList_copy_runI _ rfl _ _ 33 33 rfl _ _ rfl rfl (hcp1 _ _) ?_))
 go_region_law_o (refine step_copy_runI rfl _ _ 33 33 rfl _ _ (by simp [Act.eval,Act.put]) (by simp [Act.eval,Act.put]) (hcp2 _ _ _) ?_)
 go_wp2
 go_ret
 exact ⟨rfl,rfl⟩
end Go.Proofs.RLP
end
section
namespace Go.Abs
open Go.Proofs Go.Proofs.RLP Go.RowKit Go.Lib
section
variable {P:Program} {σ:Sg}
theorem run_copy_raw {t e:TypeId} {s:Nat} (hu:P.underlying t=some (.slice e)) (hz:∀w,(sizeOf e).run P w=.ok s w) (ty:TypeId) {ts:Array TypeId} (hts:ts[0]?=some t) {w:World} {dB dO dl dc sB sO sl sc k:Nat} (hk:min sl dl=k)
 {vs:List Value} (hl:vs.length=k*s) (hsrc:∀j v,vs[j]?=some v->w.cell? ⟨sB,sO+j,none⟩=some v) {arr:Array Value} {tt:TypeId} {rg:Nat×Nat} (hb:w.heap[dB]?=some (.cells arr tt rg))
 (hrg:∀off,off<=arr.size->¬(rg.1<=off/\off<rg.2)) (hroom:dO+vs.length<=arr.size) (hone:∀v∈vs,v.oneCell'=true) :
 (Builtin.copy_ ts ty #[.slice (some ⟨dB,dO,none⟩) dl dc,.slice (some ⟨sB,sO,none⟩) sl sc]).run P w=.ok (goInt k) (w.setCells dB dO vs):=by
 have e0:(#[Value.slice (some ⟨dB,dO,none⟩) dl dc,.slice (some ⟨sB,sO,none⟩) sl sc]:Array Value)[0]?=some (.slice (some ⟨dB,dO,none⟩) dl dc):=rfl
 have e1:(#[Value.slice (some ⟨dB,dO,none⟩) dl dc,.slice (some ⟨sB,sO,none⟩) sl sc]:Array Value)[1]?=some (.slice (some ⟨sB,sO,none⟩) sl sc):=rfl
 have hlen:(Builtin.lenOf (.slice (some ⟨sB,sO,none⟩) sl sc)).run P w=.ok sl w:=rfl
 have hmin:Nat.min sl dl=k:=hk
 have hfc:=run_firstCells_some (P:=P) w s k ⟨sB,sO,none⟩ sl sc vs hl (λj v hj=>by rw [Addr.add_lit];exact hsrc j v hj)
 have hst:=run_storeCells_cells (P:=P) dB dO vs 0 w (λj hj=>by
  rw [cell_of_heap hb]
  simp only [Option.isSome_iff_exists]
  exact ⟨_,Array.getElem?_eq_getElem (by omega)⟩) (λj hj=>by
  have:=hrg (dO+0+j) (by omega)
  simp only [World.frozen?,hb]
  simpa using λh1=>Nat.le_of_not_lt λh2=>this ⟨h1,h2⟩) hone
 unfold Builtin.copy_
 simp only [hts,e0,e1,Sem.run_bind,run_under hu,Result.andThen_ok,hlen,hz,hmin,hfc,List.toList_toArray,hst,Sem.run_pure,Nat.add_zero]
theorem write_rows (sr:SR σ) {n:Nat} {es:List (List AV)} {s fz:Nat} (hn:σ.h n=some (.cells es s fz)) (hes:∀e∈es,e.length=s) {arr:Array Value} {t:TypeId} {rg:Nat×Nat} (hw:σ.w.heap[σ.r n]?=some (.cells arr t rg))
 {new:List (List AV)} {vs:List Value} (hv:VRs σ new.flatten vs) (hall:∀e∈new,e.length=s) {at_:Nat} (hat:at_<=es.length) (hfz:fz<=at_) (hroom:(at_+new.length)*s<=arr.size) :
 Le σ (σ.write n (at_*s) vs (.cells (es.take at_++new++es.drop (at_+new.length)) s fz))/\SR (σ.write n (at_*s) vs (.cells (es.take at_++new++es.drop (at_+new.length)) s fz)):=by
 have hfl:=flatten_length hes
 have hnl:=flatten_length hall
 have hvl:=hv.length
 rw [Nat.add_mul] at hroom
 refine write_own sr hn hv ?_ (by rw [hfl];exact Nat.mul_le_mul_right s hat) (Nat.mul_le_mul_right s hfz) (by simp;omega) (λe he=>?_) hw (by rw [hvl,hnl];exact hroom)
 ·rw [List.flatten_append,List.flatten_append,flatten_take at_ hes,flatten_drop _ hes,hnl,Nat.add_mul]
 ·simp only [List.mem_append] at he
  rcases he with (he | he) | he
  ·exact hes e (List.mem_of_mem_take he)
  ·exact hall e he
  ·exact hes e (List.mem_of_mem_drop he)
theorem size_arrSet:∀(vs:List Value) (arr:Array Value) (o:Nat),(arrSet arr o vs).size=arr.size
 |[],_,_=>rfl
 |v::r,arr,o=>by rw [arrSet,size_arrSet r];simp
theorem upd_upd {α:Type} (f:Nat->α) (n:Nat) (a b:α):upd (upd f n a) n b=upd f n b:=by
 funext m
 unfold upd
 split<;>rfl
theorem desc65:∃de,tabT Tryz.prog 62=some de/\de.size=29/\de.bytes<=1000:=by
 have h:(tabT Tryz.prog 62).map (λd=>(Nat.beq d.size 29,Nat.ble d.bytes 1000))=some (true,true):=by kernel_rfl
 cases hd:tabT Tryz.prog 62 with
 |none=>rw [hd] at h;cases h
 |some de=>
  rw [hd] at h
  simp only [Option.map_some,Option.some.injEq,Prod.mk.injEq] at h
  exact ⟨de,rfl,Nat.eq_of_beq_eq_true h.1,Nat.le_of_ble_eq_true h.2⟩
theorem under65:∃ux,Tryz.prog.underlying 33=some ux/\notInt ux:=⟨_,Tryz.underlying33,trivial⟩
def InsPost (σ:Sg) (n g:Nat) (new:List (List AV)) (fz:Nat) (e:Ending) (w':World):Prop:=
 ∃σ' x,e=.returned x/\σ'.w=w'/\σ'.h=upd σ.h n (some (.cells new 29 fz))/\σ'.dead=σ.dead/\Le σ σ'/\SR σ'/\VR σ' (.sl n (g+1) 0 (g+1) none) x
section
variable {n m g i fz fzm:Nat} {es ys:List (List AV)} {mc:Option Nat} {sv vv:Value}
theorem ins_end (sr:SR σ) {st:Nat} (hst:Fresh σ st) (hs:VR σ (.sl n g 0 g none) sv) (hv:VR σ (.sl m 1 0 1 mc) vv) (hn:σ.h n=some (.cells es 29 fz)) (hm:σ.h m=some (.cells ys 29 fzm))
 (hg:es.length=g) (hy:ys.length=1) (hfz:fz<=g) (hbig:g<=1000000) (hsy:ys.all (·.all AV.storable)=true) :
 Calls Tryz.prog 122 #[sv,.int .i64 g,vv] σ.w (InsPost σ n g (es++ys) fz):=by
 obtain ⟨de,hde,hsz,hby⟩:=desc65
 obtain ⟨c,arr,t,rg,rfl,hw,_,hr,hle,hcap⟩:=hs.sl_inv sr hn hg
 obtain ⟨vc,varr,vt,vrg,rfl,vw,_,vr,vle,vcap⟩:=hv.sl_inv sr hm hy
 have hroom:roomOk de.bytes (g+1)=true:=by
  simp only [roomOk,Bool.and_eq_true,decide_eq_true_eq]
  have:(2*(g+1)+192)*de.bytes<=(2*(1000000+1)+192)*1000:=Nat.mul_le_mul (by omega) hby
  omega
 let H:Heap:=⟨[(n,.cells es 29 fz),(m,.cells ys 29 fzm)],0⟩
 have hHn:look H.objs n=some (.cells es 29 fz):=by simp [H,look]
 have hHm:look H.objs m=σ.h m:=by
  by_cases e:n=m
  ·subst e;rw [hHn,hn]
  ·rw [hm];simp [H,look,e]
 have hya:∀e∈ys,e.length=29:=by
  obtain ⟨_,_,_,_,_,_,_,_,q4,_⟩:=sr.obj m _ hm
  exact q4
 have hsh:shown H 29 (.sl m 1 0 1 mc)=some (ys,[m]):=by
  unfold shown
  simp only [hHm,hm]
  rw [if_pos ⟨hy,trivial,by omega⟩,List.drop_zero,List.take_of_length_le (by omega)]
 obtain ⟨⟨vs,hS⟩,_⟩:=shown_src (P:=Tryz.prog) sr hv hsh (λk hk=>by
  rcases List.mem_singleton.1 hk with rfl
  exact hHm)
 have hap:appendA H st de (.sl n g 0 g none) ys [m]=some ⟨.sl n (g+1) 0 (g+1) none,.loc (n::[m]) [(n,.cells (es++ys) 29 fz)] 0⟩:=by
  unfold appendA
  simp only [hHn]
  rw [if_neg (by omega),if_pos ⟨hg,hsz.symm,by omega⟩]
  rw [if_neg (by omega),if_pos ⟨trivial,trivial,hfz,by rw [hy];exact hroom,hsy⟩,hy]
 rw [<-hsz] at hS
 obtain ⟨ux,hux,hni⟩:=under65
 obtain ⟨rd',ups,nw,he,hh⟩:=append_ok (tabT_ok Tryz.prog) sr hst hde (t:=33) (xt:=33) (ts:=#[33,33]) rfl rfl Tryz.underlying33 hux hni 33 hs hS hap (λrd ups news e k hk=>by
  cases e
  rcases List.mem_cons.1 hk with rfl | hk
  ·rw [hHn,hn]
  ·rcases List.mem_singleton.1 hk with rfl
   exact hHm) (λk hk=>by
  rcases List.mem_singleton.1 hk with rfl
  exact hHm)
 cases he
 rcases hh with ⟨m',o,hup,_,_,σ',x,hrun,w2,w3,l,sr',hx⟩ | ⟨hup,_⟩
 ·cases hup
  simp only [Nat.zero_mul] at hrun ⊢
  refine (insert_end (σ.r n) g c (σ.r m) vc σ.w σ'.w x hrun).mono ?_
  rintro e w' ⟨rfl,rfl⟩
  exact ⟨σ',x,rfl,rfl,w2,w3,l,sr',hx⟩
 ·cases hup
theorem ov29 {w:World} {vb b vc:Nat} (hne:vb≠b) {varr:Array Value} {vt:TypeId} {vrg:Nat×Nat} (vw:w.heap[vb]?=some (.cells varr vt vrg)) (hvrg:∀off,off<=varr.size->¬(vrg.1<=off/\off<vrg.2))
 {arr:Array Value} {t:TypeId} {rg:Nat×Nat} (hw:w.heap[b]?=some (.cells arr t rg)) (hpos:arr.size≠0) (o lb cb:Nat) :
 (callFunc 225 #[.slice (some ⟨vb,0,none⟩) 1 vc,.slice (some ⟨b,o,none⟩) lb cb]).run Tryz.prog w=.ok (.value (.bool false)) w:=by
 obtain ⟨de,hde,hsz,_⟩:=desc65
 have De:=tabT_ok Tryz.prog 62 de hde
 have fz:∀off,off<=varr.size->w.frozen? ⟨vb,off,none⟩=false:=λoff ho=>by
  simp only [World.frozen?,vw]
  simpa using λh1=>Nat.le_of_not_lt λh2=>hvrg off ho ⟨h1,h2⟩
 rw [run_callFunc_extern Tryz.func225 (by kernel_rfl) (by kernel_rfl) (by kernel_rfl) (e:=Extern.SlicesOverlaps.overlaps #[33,33] #[4]) (by kernel_rfl),
  Lib.run_overlaps_apart w 33 4 62 Tryz.underlying33 de.size (λw=>De.run_sizeOf w) ⟨vb,0,none⟩ ⟨b,o,none⟩ 1 vc lb cb hne vt t varr.size arr.size (by simp [World.shape?,vw]) (by simp [World.shape?,hw]) hpos (fz 0 (Nat.zero_le _)) (fz _ (Nat.le_refl _))]
 rfl
theorem rows_drop {α:Type} {es:List α} {i:Nat} (h:i<es.length):(es.take (i+1)++es.drop i).take i=es.take i/\(es.take (i+1)++es.drop i).drop (i+1)=es.drop i:=by
 have hl:(es.take (i+1)).length=i+1:=by rw [List.length_take];omega
 constructor
 ·rw [List.take_append_of_le_length (by omega),List.take_take,Nat.min_eq_left (by omega)]
 ·rw [List.drop_append_of_le_length (by omega),List.drop_of_length_le (by omega),List.nil_append]
theorem ins_shift (sr:SR σ) (hs:VR σ (.sl n g 0 g none) sv) (hv:VR σ (.sl m 1 0 1 mc) vv) (hn:σ.h n=some (.cells es 29 fz)) (hm:σ.h m=some (.cells ys 29 fzm)) (hne:m≠n)
 (hg:es.length=g) (hy:ys.length=1) (hi:i<g) (hfz:fz<=i) (hbig:g<=1000000) (hse:es.all (·.all AV.storable)=true) (hsy:ys.all (·.all AV.storable)=true)
 (hroom:∀b c,sv=.slice b g c->g+1<=c) :
 Calls Tryz.prog 122 #[sv,.int .i64 i,vv] σ.w (InsPost σ n g (es.take i++ys++es.drop i) fz):=by
 obtain ⟨de,hde,hsz,_⟩:=desc65
 have De:=tabT_ok Tryz.prog 62 de hde
 have hz:∀w,(sizeOf 62).run Tryz.prog w=.ok 29 w:=λw=>by rw [De.run_sizeOf w,hsz]
 obtain ⟨c,arr,t,rg,rfl,hw,_,hr,hle,hcap⟩:=hs.sl_inv sr hn hg
 obtain ⟨vc,varr,vt,vrg,rfl,vw,_,vr,vle,vcap⟩:=hv.sl_inv sr hm hy
 have hc:=hroom _ _ rfl
 simp only [Nat.zero_mul,Nat.zero_add] at hr vr ⊢
 obtain ⟨arr',t',rg',full,q1,qj,q2,q3,q4,q5,q6,q7⟩:=sr.obj n _ hn
 rw [hw] at q1;cases q1
 obtain ⟨varr',vt',vrg',vfull,p1,pj,p2,p3,p4,p5,p6,p7⟩:=sr.obj m _ hm
 rw [vw] at p1;cases p1
 have hbb:σ.r m≠σ.r n:=λe=>hne (sr.inj m n _ _ hm hn e)
 have hfl:=flatten_length q4
 have hfull:=q3.length
 have hyl:=flatten_length p4
 have hvl:=p3.length
 have hdl:(full.drop (i*29)).length=(g-i)*29:=by rw [List.length_drop,hfull,hfl,hg,Nat.sub_mul]
 have hcs:(g+1)*29<=arr.size:=Nat.le_trans (Nat.mul_le_mul_right 29 hc) hr
 have honeF:∀v∈full.drop (i*29),v.oneCell'=true:=λv hv=>storables_vr q3 (by
  rw [List.all_eq_true]
  intro x hx
  obtain ⟨e,he,hxe⟩:=List.mem_flatten.1 hx
  exact (List.all_eq_true.1 ((List.all_eq_true.1 hse) e he)) x hxe) v (List.mem_of_mem_drop hv)
 have honeY:∀v∈vfull,v.oneCell'=true:=storables_vr p3 (by
  rw [List.all_eq_true]
  intro x hx
  obtain ⟨e,he,hxe⟩:=List.mem_flatten.1 hx
  exact (List.all_eq_true.1 ((List.all_eq_true.1 hsy) e he)) x hxe)
 have sr0:=sr_drew sr
 have l0:=le_drew σ
 have hvd:VRs σ.drew (es.drop i).flatten (full.drop (i*29)):=by rw [flatten_drop i q4];exact (q3.drop _).mono l0
 obtain ⟨l1,sr1⟩:=write_rows (σ:=σ.drew) sr0 (n:=n) hn q4 hw hvd (λe he=>q4 e (List.mem_of_mem_drop he)) (at_:=i+1) (by omega) (by omega) (by rw [List.length_drop,hg,show i+1+(g-i)=g+1 by omega];exact hcs)
 have hcp1:∀ty dc sc,(Builtin.copy_ #[33,33] ty #[.slice (some ⟨σ.r n,(i+1)*29,none⟩) (g-i) dc,.slice (some ⟨σ.r n,i*29,none⟩) (g+1-i) sc]).run Tryz.prog σ.w.drew=.ok (goInt ((g:Int)-(i:Int))) (σ.w.drew.setCells (σ.r n) ((i+1)*29) (full.drop (i*29))):=λty dc sc=>by
  have:=run_copy_raw (P:=Tryz.prog) Tryz.underlying33 hz ty (ts:=#[33,33]) rfl (w:=σ.w.drew) (dB:=σ.r n) (dO:=(i+1)*29) (dl:=g-i) (dc:=dc) (sB:=σ.r n) (sO:=i*29) (sl:=g+1-i) (sc:=sc) (k:=g-i) (by omega) hdl
   (λj v hj=>by
     rw [List.getElem?_drop] at hj
     show σ.w.cell? _=_
     rw [cell_of_heap hw]
     exact q6 _ _ hj) hw q2 (by rw [hdl];omega) honeF
  rwa [show ((g-i:Nat):Int)=(g:Int)-(i:Int) by omega] at this
 obtain ⟨σ1,hσ1⟩:∃σ1,σ1=σ.drew.write n ((i+1)*29) (full.drop (i*29)) (.cells (es.take (i+1)++es.drop i++es.drop (i+1+(es.drop i).length)) 29 fz):=⟨_,rfl⟩
 rw [<-hσ1] at l1 sr1
 have e1:es.take (i+1)++es.drop i++es.drop (i+1+(es.drop i).length)=es.take (i+1)++es.drop i:=by
  have hz0:es.drop (i+1+(es.drop i).length)=[]:=List.drop_of_length_le (by rw [List.length_drop];omega)
  rw [hz0,List.append_nil]
 have w1:σ1.w=σ.w.drew.setCells (σ.r n) ((i+1)*29) (full.drop (i*29)):=by rw [hσ1];rfl
 have r1:σ1.r=σ.r:=by rw [hσ1];rfl
 have h1:σ1.h=upd σ.h n (some (.cells (es.take (i+1)++es.drop i) 29 fz)):=by rw [hσ1,e1];rfl
 have d1:σ1.dead=σ.dead:=by rw [hσ1];rfl
 have hn1:σ1.h n=some (.cells (es.take (i+1)++es.drop i) 29 fz):=by rw [h1];exact upd_same _ _ _
 have b1:σ1.w.heap[σ1.r n]?=some (.cells (arrSet arr ((i+1)*29) (full.drop (i*29))) t rg):=by rw [w1,r1];exact heap_setCells _ _ σ.w.drew _ _ _ _ hw
 clear hσ1
 have hs1:=size_arrSet (full.drop (i*29)) arr ((i+1)*29)
 have q41:∀e∈es.take (i+1)++es.drop i,e.length=29:=λe he=>by
  rcases List.mem_append.1 he with he | he
  ·exact q4 e (List.mem_of_mem_take he)
  ·exact q4 e (List.mem_of_mem_drop he)
 have len1:(es.take (i+1)++es.drop i).length=g+1:=by rw [List.length_append,List.length_take,List.length_drop];omega
 have hvy:VRs σ1 ys.flatten vfull:=(p3.mono l0).mono l1
 obtain ⟨l2,sr2⟩:=write_rows (σ:=σ1) sr1 (n:=n) hn1 q41 b1 hvy p4 (at_:=i) (by omega) hfz (by rw [hs1,hy];omega)
 have hcp2:∀ty dc,(Builtin.copy_ #[33,33] ty #[.slice (some ⟨σ.r n,i*29,none⟩) (g+1-i) dc,.slice (some ⟨σ.r m,0,none⟩) 1 vc]).run Tryz.prog σ1.w=.ok (goInt 1) (σ1.w.setCells (σ1.r n) (i*29) vfull):=λty dc=>by
  have hb:=b1
  rw [r1] at hb ⊢
  exact run_copy_raw (P:=Tryz.prog) Tryz.underlying33 hz ty (ts:=#[33,33]) rfl (w:=σ1.w) (dB:=σ.r n) (dO:=i*29) (dl:=g+1-i) (dc:=dc) (sB:=σ.r m) (sO:=0) (sl:=1) (sc:=vc) (k:=1) (by omega) (by rw [hvl,hyl,hy])
   (λj v hj=>by
     rw [w1,cell_same (heap_setCells_ne _ _ _ _ _ hbb)]
     show σ.w.cell? _=_
     rw [cell_of_heap vw,Nat.zero_add]
     exact p6 _ _ hj) hb (by rw [hs1];exact q2) (by rw [hs1,hvl,hyl,hy];omega) honeY
 obtain ⟨tk,dp⟩:=rows_drop (es:=es) (i:=i) (by omega)
 rw [hy,tk,dp] at l2 sr2
 have hpos:arr.size≠0:=by omega
 rw [<-w1] at hcp1
 refine (insert_shift (σ.r n) g c i (σ.r m) vc σ.w σ1.w _ hi hc hbig (ov29 hbb vw p2 hw hpos) hcp1 hcp2).mono ?_
 rintro e w' ⟨rfl,rfl⟩
 refine ⟨σ1.write n (i*29) vfull (.cells (es.take i++ys++es.drop i) 29 fz),_,rfl,rfl,?_,d1,(l0.trans sr0 l1 sr1).trans sr1 l2 sr2,sr2,?_⟩
 ·show upd σ1.h n _=_
  rw [h1,upd_upd]
 ·have b2:(σ1.write n (i*29) vfull (.cells (es.take i++ys++es.drop i) 29 fz)).w.heap[(σ1.write n (i*29) vfull (.cells (es.take i++ys++es.drop i) 29 fz)).r n]?=some (.cells (arrSet (arrSet arr ((i+1)*29) (full.drop (i*29))) (i*29) vfull) t rg):=heap_setCells _ _ _ _ _ _ _ b1
  have len2:(es.take i++ys++es.drop i).length=g+1:=by rw [List.length_append,List.length_append,List.length_take,List.length_drop,hy];omega
  have:=VR.sl (σ:=σ1.write n (i*29) vfull (.cells (es.take i++ys++es.drop i) 29 fz)) (n:=n) (off:=0) (len:=g+1) (cap':=c) (cap:=none) (upd_same _ _ _) b2 (by omega) (by rw [size_arrSet,hs1,Nat.zero_add];exact hr) hc ⟨λ_ h=>(by cases h),λ_=>by omega⟩
  rw [len2] at this
  simpa [Sg.write,r1] using this
theorem ins_grow (sr:SR σ) (hs:VR σ (.sl n g 0 g none) sv) (hv:VR σ (.sl m 1 0 1 mc) vv) (hn:σ.h n=some (.cells es 29 fz)) (hm:σ.h m=some (.cells ys 29 fzm)) (hne:m≠n)
 (hg:es.length=g) (hy:ys.length=1) (hi:i<g) (hfz:fz<=i) (hbig:g<=1000000) (hse:es.all (·.all AV.storable)=true) (hsy:ys.all (·.all AV.storable)=true)
 (hroom:∀b c,sv=.slice b g c->c<g+1) :
 Calls Tryz.prog 122 #[sv,.int .i64 i,vv] σ.w (InsPost σ n g (es.take i++ys++es.drop i) fz):=by
 obtain ⟨de,hde,hsz,hby⟩:=desc65
 have De:=tabT_ok Tryz.prog 62 de hde
 have hz:∀w,(sizeOf 62).run Tryz.prog w=.ok 29 w:=λw=>by rw [De.run_sizeOf w,hsz]
 obtain ⟨c,arr,t,rg,rfl,hw,_,hr,hle,hcap⟩:=hs.sl_inv sr hn hg
 obtain ⟨vc,varr,vt,vrg,rfl,vw,_,vr,vle,vcap⟩:=hv.sl_inv sr hm hy
 have hc:=hroom _ _ rfl
 have hcg:c=g:=by omega
 subst hcg
 simp only [Nat.zero_mul,Nat.zero_add] at hr vr ⊢
 obtain ⟨arr',t',rg',full,q1,qj,q2,q3,q4,q5,q6,q7⟩:=sr.obj n _ hn
 rw [hw] at q1;cases q1
 obtain ⟨varr',vt',vrg',vfull,p1,pj,p2,p3,p4,p5,p6,p7⟩:=sr.obj m _ hm
 rw [vw] at p1;cases p1
 have hfl:=flatten_length q4
 have hfull:=q3.length
 have hyl:=flatten_length p4
 have hvl:=p3.length
 have hdl:(full.drop (i*29)).length=(c-i)*29:=by rw [List.length_drop,hfull,hfl,hg,Nat.sub_mul]
 have honeF:∀v∈full.drop (i*29),v.oneCell'=true:=λv hv=>storables_vr q3 (by
  rw [List.all_eq_true]
  intro x hx
  obtain ⟨e,he,hxe⟩:=List.mem_flatten.1 hx
  exact (List.all_eq_true.1 ((List.all_eq_true.1 hse) e he)) x hxe) v (List.mem_of_mem_drop hv)
 have honeY:∀v∈vfull,v.oneCell'=true:=storables_vr p3 (by
  rw [List.all_eq_true]
  intro x hx
  obtain ⟨e,he,hxe⟩:=List.mem_flatten.1 hx
  exact (List.all_eq_true.1 ((List.all_eq_true.1 hsy) e he)) x hxe)
 have hbw:σ.r n<σ.w.heap.size:=(Array.getElem?_eq_some_iff.1 hw).1
 have hvw:σ.r m<σ.w.heap.size:=(Array.getElem?_eq_some_iff.1 vw).1
 obtain ⟨i0,z,hi0,hisz,hib,hz0,hzc,_,_⟩:=De.info
 rw [hsz] at hisz
 have zl29:de.zero.length=29:=by rw [De.zlen,hsz]
 have zcl:z.cells.size=29:=by rw [<-Array.length_toList,hzc,zl29]
 have hzk:∀k,(Builtin.zeroCells z.cells k)=(List.replicate k de.zero).flatten.toArray:=λk=>by
  apply Array.ext'
  rw [Builtin.zeroCells,Array.toList_map,Array.toList_range]
  have:=range_repeat (s:=29) z.cells.toList (by rw [hzc,zl29]) k
  rw [show z.cells.toList.toArray=z.cells from Array.toArray_toList,hzc] at this
  rw [zcl,List.toList_toArray]
  rw [zcl] at this
  exact this
 have hb2:(2*(c+1)+192)*i0.bytes<=(2*(1000000+1)+192)*1000:=Nat.mul_le_mul (by omega) (by rw [hib];exact hby)
 have hb3:(c+1-i)*i0.bytes<=(1000000+1)*1000:=Nat.mul_le_mul (by omega) (by rw [hib];exact hby)
 have hold:(Builtin.firstCells i0.size i (.slice (some ⟨σ.r n,0,none⟩) i c)).run Tryz.prog σ.w.drew=.ok (full.take (i*29)).toArray σ.w.drew:=by
  rw [hisz]
  refine run_firstCells_some σ.w.drew 29 i ⟨σ.r n,0,none⟩ i c (full.take (i*29)) (by rw [List.length_take,hfull,hfl,hg];omega) (λj v hj=>?_)
  rw [Addr.add_lit,Nat.zero_add]
  rw [List.getElem?_take] at hj
  split at hj
  ·show σ.w.cell? _=_
   rw [cell_of_heap hw]
   exact q6 _ _ hj
  ·cases hj
 have happ:=Lib.run_append_grow_zeros (P:=Tryz.prog) σ.w 33 3 33 62 i0 z .i64 .i64 Tryz.underlying33 Tryz.underlying3 hi0 hz0 (some ⟨σ.r n,0,none⟩) i c (full.take (i*29)) hold (c+1-i) (by omega) (by omega) (by omega) (by omega) (by omega)
  (by rw [show i+(c+1-i)=c+1 by omega];exact Nat.le_trans (Nat.mul_le_mul_right _ (nextcap_le (by omega))) (by omega))
 rw [show i+(c+1-i)=c+1 by omega,hzk,hzk,show ((c+1-i:Nat):Int)=(c:Int)+1-(i:Int) by omega] at happ
 obtain ⟨G,hG⟩:∃G,G=grownCap σ.w (c+1) c 62:=⟨_,rfl⟩
 have hGn:c+1<=G:=by rw [hG];exact grownCap_ge _ _ _ _
 rw [<-hG] at happ
 obtain ⟨Z,hZ⟩:∃Z:List (List AV),Z=List.replicate (c+1-i) (de.zero.map AV.sc):=⟨_,rfl⟩
 have hZl:Z.length=c+1-i:=by rw [hZ,List.length_replicate]
 have hZa:∀e∈Z,e.length=29:=λe he=>by rw [hZ] at he;rw [List.eq_of_mem_replicate he,List.length_map,zl29]
 have hZv:VRs σ Z.flatten (List.replicate (c+1-i) de.zero).flatten:=by rw [hZ];exact replicate_vr De.zsc _
 have q41:∀e∈es.take i++Z,e.length=29:=λe he=>by
  rcases List.mem_append.1 he with he | he
  ·exact q4 e (List.mem_of_mem_take he)
  ·exact hZa e he
 have len1:(es.take i++Z).length=c+1:=by rw [List.length_append,List.length_take,hZl];omega
 have hv1:VRs σ (es.take i++Z).flatten (full.take (i*29)++(List.replicate (c+1-i) de.zero).flatten):=by
  rw [List.flatten_append,flatten_take i q4]
  exact (q3.take _).append hZv
 obtain ⟨σ1,w1,h1,d1,l1,sr1,x1⟩:=grown_ok (σ:=σ) sr (sr.alive n _ hn) (es:=es.take i++Z) (s:=29) (.inr ⟨es,fz,hn,by omega⟩) (fz:=fz) (t:=62) hv1 q41 (tail:=(List.replicate (G-(c+1)) de.zero).flatten.toArray) (cap:=G) (by omega)
  (by rw [len1];simp [zl29])
 rw [List.append_toArray] at w1
 rw [List.append_toArray,List.append_toArray] at happ
 rw [<-w1] at happ
 rw [len1] at x1
 have hn1:σ1.h n=some (.cells (es.take i++Z) 29 fz):=by rw [h1];exact upd_same _ _ _
 obtain ⟨G',arr1,t1,rg1,ev,b1,_,hr1,_,_⟩:=x1.sl_inv sr1 hn1 len1
 simp only [Nat.zero_mul,Nat.zero_add,Value.slice.injEq,Option.some.injEq,Addr.mk.injEq,and_true,true_and] at ev
 obtain ⟨r1,rfl⟩:=ev
 obtain ⟨arr1',t1',rg1',full1,s1,_,s2,_⟩:=sr1.obj n _ hn1
 rw [b1] at s1;cases s1
 simp only [Nat.zero_add] at hr1
 have hroom1:(c+1)*29<=arr1.size:=Nat.le_trans (Nat.mul_le_mul_right 29 hGn) hr1
 have keep1:∀b o,b<σ.w.heap.size->σ1.w.cell? ⟨b,o,none⟩=σ.w.cell? ⟨b,o,none⟩:=λb o hb=>by
  rw [w1,cell_same (heap_alloc_lt σ.w.drew _ hb)]
  rfl
 have hvy:VRs σ1 ys.flatten vfull:=p3.mono l1
 obtain ⟨l2,sr2⟩:=write_rows (σ:=σ1) sr1 (n:=n) hn1 q41 b1 hvy p4 (at_:=i) (by omega) hfz (by rw [hy];omega)
 have tk:(es.take i++Z).take i=es.take i:=by
  rw [List.take_append_of_le_length (by rw [List.length_take];omega),List.take_take,Nat.min_self]
 have hti:(es.take i).length=i:=by rw [List.length_take];omega
 have dp:(es.take i++Z).drop (i+1)=Z.drop 1:=by
  rw [List.drop_append,List.drop_of_length_le (by omega),List.nil_append,hti,show i+1-i=1 by omega]
 rw [hy,tk,dp] at l2 sr2
 have hcp1:∀ty dc,(Builtin.copy_ #[33,33] ty #[.slice (some ⟨σ.w.heap.size,i*29,none⟩) (c+1-i) dc,.slice (some ⟨σ.r m,0,none⟩) 1 vc]).run Tryz.prog σ1.w=.ok (goInt 1) (σ1.w.setCells (σ1.r n) (i*29) vfull):=λty dc=>by
  rw [<-r1] at b1 ⊢
  exact run_copy_raw (P:=Tryz.prog) Tryz.underlying33 hz ty (ts:=#[33,33]) rfl (w:=σ1.w) (dB:=σ.w.heap.size) (dO:=i*29) (dl:=c+1-i) (dc:=dc) (sB:=σ.r m) (sO:=0) (sl:=1) (sc:=vc) (k:=1) (by omega) (by rw [hvl,hyl,hy])
   (λj v hj=>by
     rw [keep1 _ _ hvw,cell_of_heap vw,Nat.zero_add]
     exact p6 _ _ hj) b1 s2 (by rw [hvl,hyl,hy];omega) honeY
 obtain ⟨σ2,hσ2⟩:∃σ2,σ2=σ1.write n (i*29) vfull (.cells (es.take i++ys++Z.drop 1) 29 fz):=⟨_,rfl⟩
 rw [<-hσ2] at l2 sr2
 have w2:σ2.w=σ1.w.setCells (σ1.r n) (i*29) vfull:=by rw [hσ2];rfl
 have r2:σ2.r=σ1.r:=by rw [hσ2];rfl
 have h2:σ2.h=upd σ.h n (some (.cells (es.take i++ys++Z.drop 1) 29 fz)):=by rw [hσ2];show upd σ1.h n _=_;rw [h1,upd_upd]
 have d2:σ2.dead=σ.dead:=by rw [hσ2];exact d1
 have hn2:σ2.h n=some (.cells (es.take i++ys++Z.drop 1) 29 fz):=by rw [h2];exact upd_same _ _ _
 have b2:σ2.w.heap[σ2.r n]?=some (.cells (arrSet arr1 (i*29) vfull) t1 rg1):=by rw [w2,r2];exact heap_setCells _ _ _ _ _ _ _ b1
 clear hσ2
 have hs2:=size_arrSet vfull arr1 (i*29)
 have q42:∀e∈es.take i++ys++Z.drop 1,e.length=29:=λe he=>by
  simp only [List.mem_append] at he
  rcases he with (he | he) | he
  ·exact q4 e (List.mem_of_mem_take he)
  ·exact p4 e he
  ·exact hZa e (List.mem_of_mem_drop he)
 have len2:(es.take i++ys++Z.drop 1).length=c+1:=by rw [List.length_append,List.length_append,hti,hy,List.length_drop,hZl];omega
 have sr20:=sr_drew sr2
 have l20:=le_drew σ2
 have hvd:VRs σ2.drew (es.drop i).flatten (full.drop (i*29)):=by rw [flatten_drop i q4];exact (((q3.drop _).mono l1).mono l2).mono l20
 obtain ⟨l3,sr3⟩:=write_rows (σ:=σ2.drew) sr20 (n:=n) hn2 q42 b2 hvd (λe he=>q4 e (List.mem_of_mem_drop he)) (at_:=i+1) (by omega) (by omega) (by rw [hs2,List.length_drop,hg,show i+1+(c-i)=c+1 by omega];exact hroom1)
 have tk2:(es.take i++ys++Z.drop 1).take (i+1)=es.take i++ys:=by
  rw [List.take_append_of_le_length (by rw [List.length_append];omega),List.take_of_length_le (by rw [List.length_append];omega)]
 have dp2:(es.take i++ys++Z.drop 1).drop (i+1+(es.drop i).length)=[]:=List.drop_of_length_le (by rw [len2,List.length_drop];omega)
 rw [tk2,dp2,List.append_nil] at l3 sr3
 have hcp2:∀ty dc sc,(Builtin.copy_ #[33,33] ty #[.slice (some ⟨σ.w.heap.size,(i+1)*29,none⟩) (c-i) dc,.slice (some ⟨σ.r n,i*29,none⟩) (c-i) sc]).run Tryz.prog σ2.w.drew=.ok (goInt ((c:Int)-(i:Int))) (σ2.w.drew.setCells σ.w.heap.size ((i+1)*29) (full.drop (i*29))):=λty dc sc=>by
  have hb:=b2
  rw [r2,<-r1] at hb
  have:=run_copy_raw (P:=Tryz.prog) Tryz.underlying33 hz ty (ts:=#[33,33]) rfl (w:=σ2.w.drew) (dB:=σ.w.heap.size) (dO:=(i+1)*29) (dl:=c-i) (dc:=dc) (sB:=σ.r n) (sO:=i*29) (sl:=c-i) (sc:=sc) (k:=c-i) (by omega) hdl
   (λj v hj=>by
     rw [List.getElem?_drop] at hj
     show σ2.w.cell? _=_
     rw [w2,<-r1,cell_same (heap_setCells_ne _ _ _ _ _ (by omega)),keep1 _ _ hbw,cell_of_heap hw]
     exact q6 _ _ hj) hb (by rw [hs2];exact s2) (by rw [hs2,hdl];omega) honeF
  rwa [show ((c-i:Nat):Int)=(c:Int)-(i:Int) by omega] at this
 rw [<-w2] at hcp1
 refine (insert_grow (σ.r n) c c i σ.w.heap.size G (σ.r m) vc σ.w σ1.w σ2.w _ hi (Nat.le_refl _) (by omega) hbig hGn happ hcp1 hcp2).mono ?_
 rintro e w' ⟨rfl,rfl⟩
 refine ⟨σ2.drew.write n ((i+1)*29) (full.drop (i*29)) (.cells (es.take i++ys++es.drop i) 29 fz),_,rfl,?_,?_,d2,((l1.trans sr1 l2 sr2).trans sr2 l20 sr20).trans sr20 l3 sr3,sr3,?_⟩
 ·show σ2.w.drew.setCells (σ2.r n) _ _=_
  rw [r2,<-r1]
 ·show upd σ2.h n _=_
  rw [h2,upd_upd]
 ·have b3:(σ2.drew.write n ((i+1)*29) (full.drop (i*29)) (.cells (es.take i++ys++es.drop i) 29 fz)).w.heap[(σ2.drew.write n ((i+1)*29) (full.drop (i*29)) (.cells (es.take i++ys++es.drop i) 29 fz)).r n]?=some (.cells (arrSet (arrSet arr1 (i*29) vfull) ((i+1)*29) (full.drop (i*29))) t1 rg1):=heap_setCells _ _ _ _ _ _ _ b2
  have len3:(es.take i++ys++es.drop i).length=c+1:=by rw [List.length_append,List.length_append,hti,List.length_drop,hy];omega
  have:=VR.sl (σ:=σ2.drew.write n ((i+1)*29) (full.drop (i*29)) (.cells (es.take i++ys++es.drop i) 29 fz)) (n:=n) (off:=0) (len:=c+1) (cap':=G) (cap:=none) (upd_same _ _ _) b3 (by omega) (by rw [size_arrSet,hs2,Nat.zero_add];exact hr1) hGn ⟨λ_ h=>(by cases h),λ_=>by omega⟩
  rw [len3] at this
  simpa [Sg.write,Sg.drew,r2,<-r1] using this
set_option maxRecDepth 100000 in
theorem valid_insert {H:Heap} (hn:look H.objs n=some (.cells es 29 fz)) (hm:look H.objs m=some (.cells ys 29 fzm)) (hne:m≠n)
 (hg:es.length=g) (hy:ys.length=1) (hi:i<=g) (hfz:fz<=i) (hbig:g<=1000000) (hse:es.all (·.all AV.storable)=true) (hsy:ys.all (·.all AV.storable)=true) :
 Valid2 Tryz.prog 122 [.sl n g 0 g none,.sc (.int .i64 i),.sl m 1 0 1 mc] H (.ret (.sl n (g+1) 0 (g+1) none)) ⟨put H.objs n (.cells (es.take i++ys++es.drop i) 29 fz),H.next⟩:=by
 refine ⟨⟨_,Tryz.func122,rfl,by kernel_rfl⟩,?_⟩
 intro σ vs sr hσ hfr hv
 have hn':σ.h n=some (.cells es 29 fz):=by rw [hσ];exact hn
 have hm':σ.h m=some (.cells ys 29 fzm):=by rw [hσ];exact hm
 cases hv with
 |cons h1 hv=>
 cases hv with
 |cons h2 hv=>
 cases hv with
 |cons h3 hv=>
 cases hv
 rename_i sv iv vv
 obtain ⟨rfl,_⟩:=h2.sc_inv
 have key:Calls Tryz.prog 122 #[sv,.int .i64 i,vv] σ.w (InsPost σ n g (es.take i++ys++es.drop i) fz):=by
  by_cases hig:i=g
  ·subst hig
   rw [List.take_of_length_le (by omega),List.drop_of_length_le (by omega),List.append_nil]
   exact ins_end sr (hfr H.next (Nat.le_refl _)) h1 h3 hn' hm' hg hy hfz hbig hsy
  ·obtain ⟨c,arr,t,rg,rfl,_⟩:=h1.sl_inv sr hn' hg
   by_cases hc:g+1<=c
   ·exact ins_shift sr h1 h3 hn' hm' hne hg hy (by omega) hfz hbig hse hsy (λb c' e=>by cases e;exact hc)
   ·exact ins_grow sr h1 h3 hn' hm' hne hg hy (by omega) hfz hbig hse hsy (λb c' e=>by cases e;omega)
 refine key.mono ?_
 rintro e w' ⟨σ',x,rfl,hw,hh,hd,l,sr',hx⟩
 refine ⟨σ',hw,?_,l,sr',Nat.le_refl _,λk hk=>.inl (.inr (by rw [<-hd];exact hk)),λk hk=>?_,hx⟩
 ·rw [hh,hσ]
  funext k
  simp only [look_put,upd]
  by_cases e:k=n
  ·subst e;simp
  ·rw [if_neg e,if_neg (λq=>e q.symm)]
 ·obtain ⟨q1,q2⟩:=hfr k hk
  refine ⟨?_,by rw [hd];exact q2⟩
  rw [hh]
  unfold upd
  split
  ·rename_i e;subst e;rw [hn'] at q1;cases q1
  ·exact q1
end
end
end Go.Abs
end
section
namespace Go.Abs.RL
open Go.Proofs Go.Proofs.RLP Go.Proofs.RMH
noncomputable section
noncomputable abbrev P:Program:=Tryz.prog
theorem mixed:P.follows .mixedOrders=true:=by kernel_rfl
theorem names : P.funcs.toList.all (λfn => !(fn.name == "runtime.NumGoroutine")) = true := by kernel_rfl
noncomputable def intsV:List Value->Option (List Int)
 |[]=>some []
 |.int .i64 n::r=>match intsV r with | some l=>some (n::l) | none=>none
 |_=>none
theorem intsV_eq:∀{vs:List Value} {l:List Int},intsV vs=some l->vs=l.map (Value.int .i64)
 |[],l,h=>by cases h;rfl
 |v::r,l,h=>by
  unfold intsV at h
  split at h
  ·rename_i e;cases e
  ·rename_i n r' e
   cases e
   split at h
   ·rename_i l' hl
    cases h
    rw [intsV_eq hl]
    rfl
   ·cases h
  ·cases h
noncomputable def find1 (args:List AV):Option Out:=match args with
 |[.sc (.string s),.sc (.int .u8 b)]=>some (.ret (.sc (.int .i64 (Lib.indexByte s.data.toList b.toNat.toUInt8))))
 |_=>none
noncomputable def sorted1 (args:List AV):Option Out:=match args with
 |[.imp keys _]=>match intsV keys with
  |some l=>bif Nat.ble l.length 1000000 then some (.ret (.isl (i64s (sortI l)) false)) else none
  |none=>none
 |_=>none
noncomputable def caught1 (c1:FuncId->List AV->Option Out) (args:List AV):Option Out:=match args with
 |[.fn (.func g) first caps]=>match c1 g (first++caps) with
  |some (.ret _)=>some (.ret (.sc (.int .i64 0)))
  |some (.pan (.ifc 329 (.agg [.sc (.int .i64 n)])))=>some (.ret (.sc (.int .i64 n)))
  |_=>none
 |_=>none
noncomputable def insert2 (args:List AV) (H:Heap):Option (Out×Heap):=match args with
 |[.sl n g 0 l none,.sc (.int .i64 i),.sl m 1 0 1 _]=>match look H.objs n,look H.objs m with
  |some (.cells es s fz),some (.cells ys s' _)=>
   if m≠n/\es.length=g/\l=g/\ys.length=1/\0<=i/\i.toNat<=g/\fz<=i.toNat/\g<=1000000/\s=29/\s'=29/\es.all (·.all AV.storable)=true/\ys.all (·.all AV.storable)=true then
    some (.ret (.sl n (g+1) 0 (g+1) none),⟨put H.objs n (.cells (es.take i.toNat++ys++es.drop i.toNat) 29 fz),H.next⟩) else none
  |_,_=>none
 |_=>none
theorem valid_fits {a b:ByteArray} (h:asciiB a=true) (hs:a.size<=1000000):Valid P 448 [.sc (.string a),.sc (.string b)] (.ret (.sc (.bool (fitsL a.data.toList b.data.toList)))):=by
 refine ⟨⟨_,Tryz.func448,rfl,by kernel_rfl⟩,?_⟩
 intro w I J vs hI hJ hv
 cases hv with
 |cons h1 hs'=>
 cases hs' with
 |cons h2 hs'=>
 cases hs'
 cases h1
 cases h2
 refine (fits_walk a b w hs h).mono ?_
 rintro e w' ⟨rfl,hb⟩
 exact ⟨hb,I,J,λ_ _ h=>h,λ_ _ h=>.inl h,λ_ h=>h,λ_ h=>.inl h,.sc rfl⟩
theorem valid_pieces {a:ByteArray} (h:asciiB a=true) (hs:a.size<=1000000):Valid P 447 [.sc (.string a)] (.ret (.isl ((cutS a.data.toList []).map λs=>[.sc (.string s)]) false)):=by
 refine ⟨⟨_,Tryz.func447,rfl,by kernel_rfl⟩,?_⟩
 intro w I J vs hI hJ hv
 cases hv with
 |cons h1 hs'=>
 cases hs'
 cases h1
 refine (pieces_walk a w hs h).mono ?_
 rintro e w' ⟨v,rfl,hrow,hb⟩
 obtain ⟨I',h1,h2,h3⟩:=RM.strs_show (I:=I) (J:=J) (w:=w) hrow (by omega) (RM.cutS_ne _ _)
 exact ⟨hb,I',J,h1,h2,λ_ h=>h,λ_ h=>.inl h,h3⟩
noncomputable def pieces1 (args:List AV):Option Out:=match args with
 |[.sc (.string s)]=>bif asciiB s&&Nat.ble s.size 1000000 then some (.ret (.isl ((cutS s.data.toList []).map λs=>[.sc (.string s)]) false)) else none
 |_=>none
noncomputable def fits1 (args:List AV):Option Out:=match args with
 |[.sc (.string s),.sc (.string t)]=>bif asciiB s&&Nat.ble s.size 1000000 then some (.ret (.sc (.bool (fitsL s.data.toList t.data.toList)))) else none
 |_=>none
theorem pieces1_ok {args:List AV} {r:Out} (h:pieces1 args=some r):Valid P 447 args r:=by
 unfold pieces1 at h
 split at h
 ·rename_i s
  cases hb:(asciiB s&&Nat.ble s.size 1000000) with
  |true=>
   rw [hb] at h
   cases h
   rw [Bool.and_eq_true] at hb
   exact valid_pieces hb.1 (Nat.le_of_ble_eq_true hb.2)
  |false=>rw [hb] at h;cases h
 ·cases h
theorem fits1_ok {args:List AV} {r:Out} (h:fits1 args=some r):Valid P 448 args r:=by
 unfold fits1 at h
 split at h
 ·rename_i s t
  cases hb:(asciiB s&&Nat.ble s.size 1000000) with
  |true=>
   rw [hb] at h
   cases h
   rw [Bool.and_eq_true] at hb
   exact valid_fits hb.1 (Nat.le_of_ble_eq_true hb.2)
  |false=>rw [hb] at h;cases h
 ·cases h
noncomputable def meth1 (t:TypeId) (m:String):Option FuncId:=match m with
 | "fedchat/server.handle" => bif Nat.beq t 135 then some 546 else bif Nat.beq t 136 then some 553 else none
 |_=>none
theorem methOK1:∀t m f,meth1 t m=some f->MethOK P t m f:=λt m f h=>by
 unfold meth1 at h
 split at h
 ·cases e0:Nat.beq t 135 with
  |true=>rw [e0] at h;cases Nat.eq_of_beq_eq_true e0;cases h;exact RM.methT
  |false=>
  rw [e0,cond_false] at h
  cases e1:Nat.beq t 136 with
  |true=>rw [e1] at h;cases Nat.eq_of_beq_eq_true e1;cases h;exact RM.methP
  |false=>rw [e1] at h;cases h
 ·cases h
noncomputable def sp:Abs.Spec where
 meth:=meth1
 s1:=λf args c1=>bif Nat.beq f 264 then find1 args else bif Nat.beq f 313 then sorted1 args else bif Nat.beq f 213 then caught1 c1 args else bif Nat.beq f 447 then pieces1 args else bif Nat.beq f 448 then fits1 args else none
 s2:=λf args H c2=>bif Nat.beq f 122 then insert2 args H else none
theorem specs:SpecOK P sp where
 meth:=methOK1
 s1:=λc1 hc f args r h=>by
  simp only [sp] at h
  cases h1:Nat.beq f 264 with
  |true=>
   rw [h1] at h
   cases Nat.eq_of_beq_eq_true h1
   simp only [cond_true,find1] at h
   split at h
   ·cases h;exact valid_find _ _
   ·cases h
  |false=>
   rw [h1] at h
   cases h2:Nat.beq f 313 with
   |true=>
    rw [h2] at h
    cases Nat.eq_of_beq_eq_true h2
    simp only [cond_true,cond_false,sorted1] at h
    split at h
    ·split at h
     ·rename_i l hl
      cases hb:Nat.ble l.length 1000000 with
      |true=>
       rw [hb] at h
       cases h
       rw [intsV_eq hl]
       exact valid_sorted l _ (Nat.le_of_ble_eq_true hb)
      |false=>rw [hb] at h;cases h
     ·cases h
    ·cases h
   |false=>
    rw [h2] at h
    cases h3:Nat.beq f 213 with
    |true=>
     rw [h3] at h
     cases Nat.eq_of_beq_eq_true h3
     simp only [cond_true,cond_false,caught1] at h
     split at h
     ·split at h
      ·rename_i hq
       cases h
       exact valid_decided_ret (hc _ _ _ hq)
      ·rename_i hq
       cases h
       exact valid_decided_pan (hc _ _ _ hq)
      ·cases h
     ·cases h
    |false=>
     rw [h3] at h
     cases h4:Nat.beq f 447 with
     |true=>
      rw [h4] at h
      cases Nat.eq_of_beq_eq_true h4
      exact pieces1_ok h
     |false=>
      rw [h4] at h
      cases h5:Nat.beq f 448 with
      |true=>
       rw [h5] at h
       cases Nat.eq_of_beq_eq_true h5
       exact fits1_ok h
      |false=>rw [h5] at h;cases h
 s2:=λc2 hc f args H r H' h=>by
  simp only [sp] at h
  cases h1:Nat.beq f 122 with
  |true=>
   rw [h1] at h
   cases Nat.eq_of_beq_eq_true h1
   simp only [cond_true,insert2] at h
   split at h
   ·split at h
    ·rename_i hn hm
     split at h
     ·rename_i hh
      obtain ⟨q1,q2,rfl,q4,q5,q6,q7,q8,rfl,rfl,q11,q12⟩:=hh
      cases h
      obtain ⟨k,rfl⟩:=Int.eq_ofNat_of_zero_le q5
      exact valid_insert hn hm q1 q2 q4 q6 q7 q8 q11 q12
     ·cases h
    ·cases h
   ·cases h
  |false=>rw [h1] at h;cases h
def inl:List FuncId:=[105,106,122,130,137,175,176,177,178,179,180,181,182,189,196,235,242,243,245,246,247,248,255,263,273,305,314,316,320,322,323,324,325,327,331,369,377,425]
def own:List FuncId:=[73,121,135,138,139,231,254,343,344,370]
end
end Go.Abs.RL
end
section
namespace Go.Abs.RL
noncomputable section
def d0:List AV:=[(.sc (zi 3650182879708452992)),(.sc (zs ⟨#[33,114,58,97]⟩)),(.sc (zs ⟨#[64,117,58,97]⟩)),(.sc (zi 1)),(.sc (.bool true)),(.sc (zs ⟨#[]⟩)),(.sc (zi 1)),(.sc (zi 1)),(.sc nsl),(.sc nsl),(.sc (zs ⟨#[]⟩)),(.sc (zi 0)),(.sc (zi 0)),(.sc (.bool false)),(.sc (zs ⟨#[]⟩)),(.sc nsl),(.sc nsl),(.sc nsl),(.sc nsl),(.sc (zi 0)),(.sc (zi 0)),(.sc (zi 0)),(.sc (zi 0)),(.sc (zi 0)),(.sc (zi 0)),(.sc (zi 0)),(.sc (zi 585502832614925413)),(.sc (zs ⟨#[97]⟩)),(.sc (zi 3650182879708452992))]
def d1:List AV:=[(.sc (zi 1671692878527444864)),(.sc (zs ⟨#[33,114,58,97]⟩)),(.sc (zs ⟨#[64,117,58,97]⟩)),(.sc (zi 2)),(.sc (.bool true)),(.sc (zs ⟨#[64,117,58,97]⟩)),(.sc (zi 1)),(.sc (zi 2)),(.isl (i64s [3650182879708452992]) false),(.isl (i64s [3650182879708452992]) false),(.sc (zs ⟨#[]⟩)),(.sc (zi 3)),(.sc (zi 0)),(.sc (.bool false)),(.sc (zs ⟨#[]⟩)),(.sc nsl),(.sc nsl),(.sc nsl),(.sc nsl),(.sc (zi 0)),(.sc (zi 0)),(.sc (zi 0)),(.sc (zi 0)),(.sc (zi 0)),(.sc (zi 0)),(.sc (zi 0)),(.sc (zi 4377712874323737347)),(.sc (zs ⟨#[97]⟩)),(.sc (zi 1671692878527444864))]
def d2:List AV:=[(.sc (zi 1)),(.sc (zs ⟨#[]⟩)),(.sc (zi 3650182879708452992))]
def d3:List AV:=[(.sc (zi 2)),(.sc (zs ⟨#[64,117,58,97]⟩)),(.sc (zi 1671692878527444864))]
def d4:List AV:=[(.sc (zi 1159420052813644354)),(.sc (zs ⟨#[33,114,58,97]⟩)),(.sc (zs ⟨#[64,117,58,97]⟩)),(.sc (zi 3)),(.sc (.bool true)),(.sc (zs ⟨#[]⟩)),(.sc (zi 1)),(.sc (zi 3)),(.isl (i64s [1671692878527444864]) false),(.isl (i64s [1671692878527444864,3650182879708452992]) false),(.sc (zs ⟨#[]⟩)),(.sc (zi 0)),(.sc (zi 0)),(.sc (.bool false)),(.sc (zs ⟨#[]⟩)),(.sc nsl),(.sc nsl),(.isl [[(.sc (zs ⟨#[64,117,58,97]⟩)),(.sc (zi 100))]] true),(.sc nsl),(.sc (zi 0)),(.sc (zi 0)),(.sc (zi 0)),(.sc (zi 0)),(.sc (zi 50)),(.sc (zi 50)),(.sc (zi 50)),(.sc (zi 3785976475209561664)),(.sc (zs ⟨#[97]⟩)),(.sc (zi 1159420052813644354))]
def d5:List AV:=[(.sc (zi 3)),(.sc (zs ⟨#[]⟩)),(.sc (zi 1159420052813644354))]
def d6:List AV:=[(.sc (zi 1859570287335594878)),(.sc (zs ⟨#[33,114,58,97]⟩)),(.sc (zs ⟨#[64,117,58,97]⟩)),(.sc (zi 4)),(.sc (.bool true)),(.sc (zs ⟨#[]⟩)),(.sc (zi 1)),(.sc (zi 4)),(.isl (i64s [1159420052813644354]) false),(.isl (i64s [1159420052813644354,1671692878527444864,3650182879708452992]) false),(.sc (zs ⟨#[]⟩)),(.sc (zi 1)),(.sc (zi 0)),(.sc (.bool false)),(.sc (zs ⟨#[]⟩)),(.sc nsl),(.sc nsl),(.sc nsl),(.sc nsl),(.sc (zi 0)),(.sc (zi 0)),(.sc (zi 0)),(.sc (zi 0)),(.sc (zi 0)),(.sc (zi 0)),(.sc (zi 0)),(.sc (zi 312344173708733423)),(.sc (zs ⟨#[97]⟩)),(.sc (zi 1859570287335594878))]
def d7:List AV:=[(.sc (zi 4)),(.sc (zs ⟨#[]⟩)),(.sc (zi 1859570287335594878))]
def d8:List AV:=[(.sc (zi 715419231337816976)),(.sc (zs ⟨#[33,114,58,97]⟩)),(.sc (zs ⟨#[64,117,58,97]⟩)),(.sc (zi 5)),(.sc (.bool true)),(.sc (zs ⟨#[]⟩)),(.sc (zi 1)),(.sc (zi 5)),(.isl (i64s [1859570287335594878]) false),(.isl (i64s [1159420052813644354,1671692878527444864,3650182879708452992]) false),(.sc (zs ⟨#[]⟩)),(.sc (zi 0)),(.sc (zi 0)),(.sc (.bool false)),(.sc (zs ⟨#[]⟩)),(.sc nsl),(.sc nsl),(.sc nsl),(.sc nsl),(.sc (zi 0)),(.sc (zi 0)),(.sc (zi 0)),(.sc (zi 0)),(.sc (zi 0)),(.sc (zi 0)),(.sc (zi 0)),(.sc (zi 585502832614925413)),(.sc (zs ⟨#[97]⟩)),(.sc (zi 715419231337816976))]
def d9:List AV:=[(.sc (zi 0)),(.sc (zi 3650182879708452992)),(.sc (zi 4)),(.sc (.bool false))]
def d10:List AV:=[(.sc (zi 1)),(.sc (zi 1671692878527444864)),(.sc (zi 4)),(.sc (.bool false))]
def d11:List AV:=[(.sc (zi 2)),(.sc (zi 1159420052813644354)),(.sc (zi 4)),(.sc (.bool false))]
def d12:List AV:=[(.sc (zi 3)),(.sc (zi 1859570287335594878)),(.sc (zi 4)),(.sc (.bool false))]
def d13:List AV:=[(.isl [d8,d4,d1,d6,d0] false),(.agg d6)]
def d14:List AV:=[(.isl [d8,d4,d1,d6,d0] false),(.agg d8)]
def d15:List AV:=[(.sc (zi 116590386073489778)),(.sc (zs ⟨#[33,114,58,97]⟩)),(.sc (zs ⟨#[64,119,58,98]⟩)),(.sc (zi 11)),(.sc (.bool false)),(.sc (zs ⟨#[]⟩)),(.sc (zi 9)),(.sc (zi 9)),(.isl (i64s [7]) true),(.isl (i64s [7]) true),(.sc (zs ⟨#[104,105]⟩)),(.sc (zi 0)),(.sc (zi 0)),(.sc (.bool false)),(.sc (zs ⟨#[]⟩)),(.sc nsl),(.sc nsl),(.sc nsl),(.sc nsl),(.sc (zi 0)),(.sc (zi 0)),(.sc (zi 0)),(.sc (zi 0)),(.sc (zi 0)),(.sc (zi 0)),(.sc (zi 0)),(.sc (zi 548046734185950824)),(.sc (zs ⟨#[98]⟩)),(.sc (zi 116590386073489778))]
def a0:List AV:=[(.sc (zs ⟨#[64,117,58,97]⟩))]
def r0:Out:=(.ret (.sc (zi 0)))
def a1:List AV:=[(.sc (zs ⟨#[64,117,58,97]⟩))]
def r1:Out:=(.ret (.sc (zs ⟨#[97]⟩)))
def a2:List AV:=[(.agg [(.sc (zs ⟨#[]⟩)),(.sc (zi 0)),(.sc (zi 0)),(.sc (.bool false)),(.sc (zs ⟨#[]⟩)),(.sc nsl),(.sc nsl),(.sc nsl),(.sc nsl),(.sc (zi 0)),(.sc (zi 0)),(.sc (zi 0)),(.sc (zi 0)),(.sc (zi 0)),(.sc (zi 0)),(.sc (zi 0))])]
def r2:Out:=(.ret (.isl (u8s [0,0,0,0,0,0,0,0,0,0,0,0,0,0,0,0]) false))
def a3:List AV:=[(.agg d0)]
def r3:Out:=(.ret (.sc (zi 0)))
def a4:List AV:=[(.agg d0),(.sc nsl)]
def r4:Out:=(.ret (.sc (zi 0)))
def a5:List AV:=[(.isl [d0] true),(.sc (zs ⟨#[64,117,58,97]⟩)),(.sc (zi 2)),(.sc (zs ⟨#[64,117,58,97]⟩)),(.agg [(.sc (zs ⟨#[]⟩)),(.sc (zi 3)),(.sc (zi 0)),(.sc (.bool false)),(.sc (zs ⟨#[]⟩)),(.sc nsl),(.sc nsl),(.sc nsl),(.sc nsl),(.sc (zi 0)),(.sc (zi 0)),(.sc (zi 0)),(.sc (zi 0)),(.sc (zi 0)),(.sc (zi 0)),(.sc (zi 0))]),(.sc (zi 1))]
def r5:Out:=(.ret (.tup [(.agg d1),(.sc (zi 0))]))
def a6:List AV:=[(.agg d1)]
def r6:Out:=(.ret (.sc (zi 0)))
def a7:List AV:=[(.agg d1)]
def r7:Out:=(.ret (.isl [[(.sc (zi 1)),(.sc (zs ⟨#[]⟩))],[(.sc (zi 2)),(.sc (zs ⟨#[64,117,58,97]⟩))],[(.sc (zi 3)),(.sc (zs ⟨#[]⟩))],[(.sc (zi 4)),(.sc (zs ⟨#[]⟩))]] false))
def a8:List AV:=[(.isl [d1,d0] false)]
def r8:Out:=(.ret (.ipt [(.imp [(zi 3650182879708452992),(zi 1671692878527444864)] [(.sc nsl),(.isl [d2] false)]),(.imp [(zi 3650182879708452992),(zi 1671692878527444864)] [(.isl [d2] false),(.isl [d2,d3] false)]),(.imp [(zi 3650182879708452992),(zi 1671692878527444864)] [(.sc (zi 0)),(.sc (zi 0))])]))
def a9:List AV:=[(.agg [(.sc (zi 0)),(.sc (zs ⟨#[33,114,58,97]⟩)),(.sc (zs ⟨#[64,117,58,97]⟩)),(.sc (zi 3)),(.sc (.bool true)),(.sc (zs ⟨#[]⟩)),(.sc (zi 1)),(.sc (zi 3)),(.isl (i64s [1671692878527444864]) false),(.isl (i64s [1671692878527444864,3650182879708452992]) false),(.sc (zs ⟨#[]⟩)),(.sc (zi 0)),(.sc (zi 0)),(.sc (.bool false)),(.sc (zs ⟨#[]⟩)),(.sc nsl),(.sc nsl),(.isl [[(.sc (zs ⟨#[64,117,58,97]⟩)),(.sc (zi 100))]] true),(.sc nsl),(.sc (zi 0)),(.sc (zi 0)),(.sc (zi 0)),(.sc (zi 0)),(.sc (zi 50)),(.sc (zi 50)),(.sc (zi 50)),(.sc (zi 0)),(.sc (zs ⟨#[]⟩)),(.sc (zi 0))])]
def r9:Out:=(.ret (.agg d4))
def a10:List AV:=[(.isl [d1,d0] false),(.sc (zs ⟨#[64,117,58,97]⟩)),(.sc (zi 3)),(.sc (zs ⟨#[]⟩)),(.agg [(.sc (zs ⟨#[]⟩)),(.sc (zi 0)),(.sc (zi 0)),(.sc (.bool false)),(.sc (zs ⟨#[]⟩)),(.sc nsl),(.sc nsl),(.isl [[(.sc (zs ⟨#[64,117,58,97]⟩)),(.sc (zi 100))]] true),(.sc nsl),(.sc (zi 0)),(.sc (zi 0)),(.sc (zi 0)),(.sc (zi 0)),(.sc (zi 50)),(.sc (zi 50)),(.sc (zi 50))]),(.sc (zi 1))]
def r10:Out:=(.ret (.tup [(.agg d4),(.sc (zi 0))]))
def a11:List AV:=[(.agg d4)]
def r11:Out:=(.ret (.sc (zi 0)))
def a12:List AV:=[(.agg d4),(.isl [d0,d1] false)]
def r12:Out:=(.ret (.sc (zi 0)))
def a13:List AV:=[(.isl [d4,d1,d0] false)]
def r13:Out:=(.ret (.ipt [(.imp [(zi 3650182879708452992),(zi 1671692878527444864),(zi 1159420052813644354)] [(.sc nsl),(.isl [d2] false),(.isl [d2,d3] false)]),(.imp [(zi 3650182879708452992),(zi 1671692878527444864),(zi 1159420052813644354)] [(.isl [d2] false),(.isl [d2,d3] false),(.isl [d2,d3,d5] false)]),(.imp [(zi 3650182879708452992),(zi 1671692878527444864),(zi 1159420052813644354)] [(.sc (zi 0)),(.sc (zi 0)),(.sc (zi 0))])]))
def a14:List AV:=[(.isl [d4,d1,d0] false),(.sc (zs ⟨#[64,117,58,97]⟩)),(.sc (zi 4)),(.sc (zs ⟨#[]⟩)),(.agg [(.sc (zs ⟨#[]⟩)),(.sc (zi 1)),(.sc (zi 0)),(.sc (.bool false)),(.sc (zs ⟨#[]⟩)),(.sc nsl),(.sc nsl),(.sc nsl),(.sc nsl),(.sc (zi 0)),(.sc (zi 0)),(.sc (zi 0)),(.sc (zi 0)),(.sc (zi 0)),(.sc (zi 0)),(.sc (zi 0))]),(.sc (zi 1))]
def r14:Out:=(.ret (.tup [(.agg d6),(.sc (zi 0))]))
def a15:List AV:=[(.agg d6)]
def r15:Out:=(.ret (.sc (zi 0)))
def a16:List AV:=[(.isl [d4,d1,d6,d0] false),(.agg d6)]
def r16:Out:=(.ret (.sc (zi 0)))
def a17:List AV:=[(.isl [d4,d1,d6,d0] false)]
def r17:Out:=(.ret (.ipt [(.imp [(zi 3650182879708452992),(zi 1671692878527444864),(zi 1159420052813644354),(zi 1859570287335594878)] [(.sc nsl),(.isl [d2] false),(.isl [d2,d3] false),(.isl [d2,d3,d5] false)]),(.imp [(zi 3650182879708452992),(zi 1671692878527444864),(zi 1159420052813644354),(zi 1859570287335594878)] [(.isl [d2] false),(.isl [d2,d3] false),(.isl [d2,d3,d5] false),(.isl [d2,d3,d5,d7] false)]),(.imp [(zi 3650182879708452992),(zi 1671692878527444864),(zi 1159420052813644354),(zi 1859570287335594878)] [(.sc (zi 0)),(.sc (zi 0)),(.sc (zi 0)),(.sc (zi 0))])]))
def a18:List AV:=[(.isl [d4,d1,d6,d0] false),(.sc (zs ⟨#[64,117,58,97]⟩)),(.sc (zi 5)),(.sc (zs ⟨#[]⟩)),(.agg [(.sc (zs ⟨#[]⟩)),(.sc (zi 0)),(.sc (zi 0)),(.sc (.bool false)),(.sc (zs ⟨#[]⟩)),(.sc nsl),(.sc nsl),(.sc nsl),(.sc nsl),(.sc (zi 0)),(.sc (zi 0)),(.sc (zi 0)),(.sc (zi 0)),(.sc (zi 0)),(.sc (zi 0)),(.sc (zi 0))]),(.sc (zi 1))]
def r18:Out:=(.ret (.tup [(.agg d8),(.sc (zi 0))]))
def a19:List AV:=[(.sc (zs ⟨#[33,114,58,97]⟩)),(.sc (zs ⟨#[64,117,58,97]⟩)),(.sc (zi 1)),(.sc (zi 1)),(.sc (zi 0))]
def r19:Out:=(.ret (.tup [(.isl [d0,d1,d4,d6,d8] false),(.sc (zi 0))]))
def a20:List AV:=[(.agg [(.sc (zs ⟨#[97]⟩)),(.sc nsl),(.sc nsl),(.sc nsl),(.sc nsl),(.sc nsl),(.sc (zi 0)),(.sc nsl),(.sc nsl),(.sc nsl),(.sc (.bool false)),(.sc (zi 0))]),(.agg d0)]
def r20:Out:=(.ret (.tup [(.agg [(.sc (zs ⟨#[97]⟩)),(.isl [[(.sc (zs ⟨#[33,114,58,97]⟩)),(.isl [d0] false),(.isl [d9] false),(.sc nsl),(.isl (i64s [3650182879708452992]) false),(.isl [d2] false),(.sc (zi 1)),(.sc nsl),(.sc nsl)]] false),(.sc nsl),(.sc nsl),(.sc nsl),(.sc nsl),(.sc (zi 0)),(.sc nsl),(.sc nsl),(.sc nsl),(.sc (.bool false)),(.sc (zi 0))]),(.sc (zi 0))]))
def a21:List AV:=[(.agg [(.sc (zs ⟨#[97]⟩)),(.isl [[(.sc (zs ⟨#[33,114,58,97]⟩)),(.isl [d0] false),(.isl [d9] false),(.sc nsl),(.isl (i64s [3650182879708452992]) false),(.isl [d2] false),(.sc (zi 1)),(.sc nsl),(.sc nsl)]] false),(.sc nsl),(.sc nsl),(.sc nsl),(.sc nsl),(.sc (zi 0)),(.sc nsl),(.sc nsl),(.sc nsl),(.sc (.bool false)),(.sc (zi 0))]),(.agg d1)]
def r21:Out:=(.ret (.tup [(.agg [(.sc (zs ⟨#[97]⟩)),(.isl [[(.sc (zs ⟨#[33,114,58,97]⟩)),(.isl [d1,d0] false),(.isl [d9,d10] false),(.sc nsl),(.isl (i64s [1671692878527444864]) false),(.isl [d2,d3] false),(.sc (zi 2)),(.sc nsl),(.sc nsl)]] false),(.sc nsl),(.sc nsl),(.sc nsl),(.sc nsl),(.sc (zi 0)),(.sc nsl),(.sc nsl),(.sc nsl),(.sc (.bool false)),(.sc (zi 0))]),(.sc (zi 0))]))
def a22:List AV:=[(.agg [(.sc (zs ⟨#[97]⟩)),(.isl [[(.sc (zs ⟨#[33,114,58,97]⟩)),(.isl [d1,d0] false),(.isl [d9,d10] false),(.sc nsl),(.isl (i64s [1671692878527444864]) false),(.isl [d2,d3] false),(.sc (zi 2)),(.sc nsl),(.sc nsl)]] false),(.sc nsl),(.sc nsl),(.sc nsl),(.sc nsl),(.sc (zi 0)),(.sc nsl),(.sc nsl),(.sc nsl),(.sc (.bool false)),(.sc (zi 0))]),(.agg d4)]
def r22:Out:=(.ret (.tup [(.agg [(.sc (zs ⟨#[97]⟩)),(.isl [[(.sc (zs ⟨#[33,114,58,97]⟩)),(.isl [d4,d1,d0] false),(.isl [d9,d10,d11] false),(.sc nsl),(.isl (i64s [1159420052813644354]) false),(.isl [d2,d3,d5] false),(.sc (zi 3)),(.sc nsl),(.sc nsl)]] false),(.sc nsl),(.sc nsl),(.sc nsl),(.sc nsl),(.sc (zi 0)),(.sc nsl),(.sc nsl),(.sc nsl),(.sc (.bool false)),(.sc (zi 0))]),(.sc (zi 0))]))
def a23:List AV:=[(.agg [(.sc (zs ⟨#[97]⟩)),(.isl [[(.sc (zs ⟨#[33,114,58,97]⟩)),(.isl [d4,d1,d0] false),(.isl [d9,d10,d11] false),(.sc nsl),(.isl (i64s [1159420052813644354]) false),(.isl [d2,d3,d5] false),(.sc (zi 3)),(.sc nsl),(.sc nsl)]] false),(.sc nsl),(.sc nsl),(.sc nsl),(.sc nsl),(.sc (zi 0)),(.sc nsl),(.sc nsl),(.sc nsl),(.sc (.bool false)),(.sc (zi 0))]),(.agg d6)]
def r23:Out:=(.ret (.tup [(.agg [(.sc (zs ⟨#[97]⟩)),(.isl [[(.sc (zs ⟨#[33,114,58,97]⟩)),(.isl [d4,d1,d6,d0] false),(.isl [d9,d10,d11,d12] false),(.sc nsl),(.isl (i64s [1859570287335594878]) false),(.isl [d2,d3,d5,d7] false),(.sc (zi 4)),(.sc nsl),(.sc nsl)]] false),(.sc nsl),(.sc nsl),(.sc nsl),(.sc nsl),(.sc (zi 0)),(.sc nsl),(.sc nsl),(.sc nsl),(.sc (.bool false)),(.sc (zi 0))]),(.sc (zi 0))]))
def a24:List AV:=[(.agg d8)]
def r24:Out:=(.ret (.sc (zi 0)))
def a25:List AV:=[(.isl [d8,d4,d1,d6,d0] false)]
def r25:Out:=(.ret (.sc (zi 0)))
def a26:List AV:=[(.isl [d8,d4,d1,d6,d0] false),(.agg d4)]
def r26:Out:=(.ret (.isl [d0,d1] false))
def a27:List AV:=d13
def r27:Out:=(.ret (.sc (zi 0)))
def a28:List AV:=d13
def r28:Out:=(.ret (.isl [d0,d1,d4] false))
def a29:List AV:=d14
def r29:Out:=(.ret (.sc (zi 0)))
def a30:List AV:=d14
def r30:Out:=(.ret (.isl [d0,d1,d4] false))
def a31:List AV:=[(.isl [d8,d4,d1,d6,d0] false)]
def r31:Out:=(.ret (.ipt [(.imp [(zi 3650182879708452992),(zi 1671692878527444864),(zi 1159420052813644354),(zi 1859570287335594878),(zi 715419231337816976)] [(.sc nsl),(.isl [d2] false),(.isl [d2,d3] false),(.isl [d2,d3,d5] false),(.isl [d2,d3,d5,d7] false)]),(.imp [(zi 3650182879708452992),(zi 1671692878527444864),(zi 1159420052813644354),(zi 1859570287335594878),(zi 715419231337816976)] [(.isl [d2] false),(.isl [d2,d3] false),(.isl [d2,d3,d5] false),(.isl [d2,d3,d5,d7] false),(.isl [d2,d3,d5,d7,[(.sc (zi 5)),(.sc (zs ⟨#[]⟩)),(.sc (zi 715419231337816976))]] false)]),(.imp [(zi 3650182879708452992),(zi 1671692878527444864),(zi 1159420052813644354),(zi 1859570287335594878),(zi 715419231337816976)] [(.sc (zi 0)),(.sc (zi 0)),(.sc (zi 0)),(.sc (zi 0)),(.sc (zi 0))])]))
def a32:List AV:=[(.agg [(.sc (zs ⟨#[97]⟩)),(.isl [[(.sc (zs ⟨#[33,114,58,97]⟩)),(.isl [d4,d1,d6,d0] false),(.isl [d9,d10,d11,d12] false),(.sc nsl),(.isl (i64s [1859570287335594878]) false),(.isl [d2,d3,d5,d7] false),(.sc (zi 4)),(.sc nsl),(.sc nsl)]] false),(.sc nsl),(.sc nsl),(.sc nsl),(.sc nsl),(.sc (zi 0)),(.sc nsl),(.sc nsl),(.sc nsl),(.sc (.bool false)),(.sc (zi 0))]),(.agg d8)]
def r32:Out:=(.ret (.tup [(.agg [(.sc (zs ⟨#[97]⟩)),(.isl [[(.sc (zs ⟨#[33,114,58,97]⟩)),(.isl [d8,d4,d1,d6,d0] false),(.isl [d9,d10,d11,d12,[(.sc (zi 4)),(.sc (zi 715419231337816976)),(.sc (zi 4)),(.sc (.bool false))]] false),(.sc nsl),(.isl (i64s [715419231337816976]) false),(.isl [d2,d3,d5,d7,[(.sc (zi 5)),(.sc (zs ⟨#[]⟩)),(.sc (zi 715419231337816976))]] false),(.sc (zi 5)),(.sc nsl),(.sc nsl)]] false),(.sc nsl),(.sc nsl),(.sc nsl),(.sc nsl),(.sc (zi 0)),(.sc nsl),(.sc nsl),(.sc nsl),(.sc (.bool false)),(.sc (zi 0))]),(.sc (zi 0))]))
def a33:List AV:=[(.agg d15)]
def r33:Out:=(.ret (.sc (zi 0)))
def a34:List AV:=[(.agg [(.sc (zs ⟨#[97]⟩)),(.isl [[(.sc (zs ⟨#[33,114,58,97]⟩)),(.isl [d8,d4,d1,d6,d0] false),(.isl [d9,d10,d11,d12,[(.sc (zi 4)),(.sc (zi 715419231337816976)),(.sc (zi 4)),(.sc (.bool false))]] false),(.sc nsl),(.isl (i64s [715419231337816976]) false),(.isl [d2,d3,d5,d7,[(.sc (zi 5)),(.sc (zs ⟨#[]⟩)),(.sc (zi 715419231337816976))]] false),(.sc (zi 5)),(.sc nsl),(.sc nsl)]] false),(.sc nsl),(.sc nsl),(.sc nsl),(.sc nsl),(.sc (zi 0)),(.sc nsl),(.sc nsl),(.sc nsl),(.sc (.bool false)),(.sc (zi 0))]),(.agg [(.sc (zs ⟨#[98]⟩)),(.sc (zs ⟨#[97]⟩)),(.sc (zi 1)),(.sc (zi 4)),(.sc (zs ⟨#[120]⟩)),(.isl [d15] true),(.sc nsl),(.sc nsl),(.sc (zs ⟨#[]⟩)),(.sc (zi 0))])]
def r34:Out:=(.ret (.tup [(.agg [(.sc (zs ⟨#[97]⟩)),(.isl [[(.sc (zs ⟨#[33,114,58,97]⟩)),(.isl [d8,d4,d1,d6,d0] false),(.isl [d9,d10,d11,d12,[(.sc (zi 4)),(.sc (zi 715419231337816976)),(.sc (zi 4)),(.sc (.bool false))]] false),(.isl [d15] false),(.isl (i64s [715419231337816976]) false),(.isl [d2,d3,d5,d7,[(.sc (zi 5)),(.sc (zs ⟨#[]⟩)),(.sc (zi 715419231337816976))]] false),(.sc (zi 5)),(.sc nsl),(.sc nsl)]] false),(.sc nsl),(.sc nsl),(.sc nsl),(.sc nsl),(.sc (zi 0)),(.sc nsl),(.sc nsl),(.sc nsl),(.sc (.bool false)),(.sc (zi 0))]),(.isl [[(.sc (zs ⟨#[97]⟩)),(.sc (zs ⟨#[98]⟩)),(.sc (zi 8)),(.sc (zi 4)),(.sc (zs ⟨#[]⟩)),(.sc nsl),(.sc nsl),(.sc nsl),(.sc (zs ⟨#[]⟩)),(.sc (zi 0))],[(.sc (zs ⟨#[97]⟩)),(.sc (zs ⟨#[98]⟩)),(.sc (zi 2)),(.sc (zi 100)),(.sc (zs ⟨#[33,114,58,97]⟩)),(.sc nsl),(.isl (i64s [7]) false),(.sc nsl),(.sc (zs ⟨#[]⟩)),(.sc (zi 0))]] false)]))
def a35:List AV:=[(.agg [(.sc (zs ⟨#[97]⟩)),(.isl [[(.sc (zs ⟨#[33,114,58,97]⟩)),(.isl [d8,d4,d1,d6,d0] false),(.isl [d9,d10,d11,d12,[(.sc (zi 4)),(.sc (zi 715419231337816976)),(.sc (zi 4)),(.sc (.bool false))]] false),(.sc nsl),(.isl (i64s [715419231337816976]) false),(.isl [d2,d3,d5,d7,[(.sc (zi 5)),(.sc (zs ⟨#[]⟩)),(.sc (zi 715419231337816976))]] false),(.sc (zi 5)),(.sc nsl),(.sc nsl)]] false),(.sc nsl),(.sc nsl),(.sc nsl),(.sc nsl),(.sc (zi 0)),(.sc nsl),(.sc nsl),(.sc nsl),(.sc (.bool false)),(.sc (zi 0))])]
def r35:Out:=(.ret (.sc (zi 0)))
def a36:List AV:=[(.agg [(.sc (zs ⟨#[97]⟩)),(.isl [[(.sc (zs ⟨#[33,114,58,97]⟩)),(.isl [d8,d4,d1,d6,d0] false),(.isl [d9,d10,d11,d12,[(.sc (zi 4)),(.sc (zi 715419231337816976)),(.sc (zi 4)),(.sc (.bool false))]] false),(.isl [d15] false),(.isl (i64s [715419231337816976]) false),(.isl [d2,d3,d5,d7,[(.sc (zi 5)),(.sc (zs ⟨#[]⟩)),(.sc (zi 715419231337816976))]] false),(.sc (zi 5)),(.sc nsl),(.sc nsl)]] false),(.sc nsl),(.sc nsl),(.sc nsl),(.sc nsl),(.sc (zi 0)),(.sc nsl),(.sc nsl),(.sc nsl),(.sc (.bool false)),(.sc (zi 0))])]
def r36:Out:=(.ret (.sc (zi 0)))
def a37:List AV:=[]
def r37:Out:=(.ret (.sc (.bool true)))
end
end Go.Abs.RL
end
section
namespace Go.Abs.RM
open Go.Proofs Go.Deep Go.ChangeShapes Go.WideShapes Go.ChangeAt Go.RowKit
def Sh (W:World) (vs:List WV) (cs:List Value):Prop:=∃xs,PRs vs xs/\TVs W (λb _=>b<W.heap.size) (λ_=>False) xs cs
theorem prs_app {a b:List WV} {x y:List AV} (h:PRs a x) (k:PRs b y):PRs (a++b) (x++y):=by
 induction a generalizing x with
 |nil=>cases h;exact k
 |cons c a ih=>cases h with | cons h1 h2=>exact .cons h1 (ih h2)
theorem tvs_app {w:World} {I:Nat->Nat->Prop} {J:Nat->Prop} {a b:List AV} {x y:List Value} (h:TVs w I J a x) (k:TVs w I J b y):TVs w I J (a++b) (x++y):=by
 induction a generalizing x with
 |nil=>cases h;exact k
 |cons c a ih=>cases h with | cons h1 h2=>exact .cons h1 (ih h2)
theorem Sh.nil {W:World}:Sh W [] []:=⟨[],.nil,.nil⟩
theorem Sh.app {W:World} {a b:List WV} {x y:List Value} (h:Sh W a x) (k:Sh W b y):Sh W (a++b) (x++y):=by
 obtain ⟨xs,h1,h2⟩:=h
 obtain ⟨ys,k1,k2⟩:=k
 exact ⟨xs++ys,prs_app h1 k1,tvs_app h2 k2⟩
theorem Sh.sc {W:World} {x:Value} (h:scalarB x=true):Sh W [.sc x] [x]:=⟨[.sc x],.cons .sc .nil,.cons (.sc h) .nil⟩
theorem prs_len {a:List WV} {x:List AV} (h:PRs a x):x.length=a.length:=by
 induction a generalizing x with
 |nil=>cases h;rfl
 |cons c a ih=>cases h with | cons h1 h2=>rw [List.length_cons,ih h2];rfl
section
variable {H:Type} (enc:TypeId×Value->H) (W:World) (base:Nat) (held:Bool)
def Rd (t:TypeId) {α:Type} (c:α->List WV) (B:α->Prop):Prop:=∀fuel cs y,DataW.trod enc P W base (λ_=>true) held fuel t cs=some y->∃a,B a/\Sh W (c a) cs
def RdF (N o:Nat) (fs:List Field) {α:Type} (c:α->List WV) (B:α->Prop):Prop:=
 ∀(fuel:Nat) (cs:List Value),cs.length=N->(∀f∈fs,∃y,DataW.trod enc P W base (λ_=>true) held fuel f.type ((cs.drop f.offset).take (P.cellsOf f.type))=some y)->∃a,B a/\Sh W (c a) (cs.drop o)
variable {enc W base held} {α β:Type} {t e:TypeId} {c:α->List WV} {B:α->Prop}
theorem rd_int (ht:P.underlying t=some (.int .i64)):Rd enc W base held t c_i64 (λ_=>True):=λfuel cs y h=>by
 obtain ⟨n,rfl,_⟩:=DataW.trod_int ht h
 exact ⟨n,trivial,Sh.sc rfl⟩
theorem rd_bool (ht:P.underlying t=some .bool):Rd enc W base held t (λb:Bool=>[.sc (.bool b)]) (λ_=>True):=λfuel cs y h=>by
 obtain ⟨n,rfl,_⟩:=DataW.trod_bool ht h
 exact ⟨n,trivial,Sh.sc rfl⟩
theorem rd_str (ht:P.underlying t=some .string):Rd enc W base held t cStr (λs:ByteArray=>s.size<=9223372036854775807):=λfuel cs y h=>by
 obtain ⟨n,rfl,_,h2⟩:=DataW.trod_string ht h
 exact ⟨n,h2,Sh.sc rfl⟩
theorem rdf_nil {N:Nat}:RdF enc W base held N N [] (λ_:Unit=>[]) (λ_=>True):=λfuel cs h _=>⟨(),trivial,by rw [<-h,List.drop_length];exact Sh.nil⟩
theorem rdf_cons {N o k:Nat} {f:Field} {fs:List Field} {d:β->List WV} {D:β->Prop} (h1:Rd enc W base held f.type c B) (ho:f.offset=o) (hk:P.cellsOf f.type=k) (h2:RdF enc W base held N (o+k) fs d D) :
 RdF enc W base held N o (f::fs) (λa:α×β=>c a.1++d a.2) (λa=>B a.1/\D a.2):=λfuel cs hl h=>by
 obtain ⟨y,hy⟩:=h f (List.mem_cons_self ..)
 obtain ⟨a,q1,q2⟩:=h1 _ _ _ hy
 obtain ⟨b,q3,q4⟩:=h2 fuel cs hl λg hg=>h g (List.mem_cons_of_mem _ hg)
 refine ⟨(a,b),⟨q1,q3⟩,?_⟩
 have:cs.drop o=(cs.drop f.offset).take (P.cellsOf f.type)++cs.drop (o+k):=by rw [ho,hk,<-List.drop_drop,List.take_append_drop]
 rw [this]
 exact q2.app q4
theorem rd_struct {N:Nat} {fs:Array Field} (ht:P.underlying t=some (.struct fs)) (hN:P.cellsOf t=N) (h:RdF enc W base held N 0 fs.toList c B) {γ:Type} {d:γ->List WV} {D:γ->Prop} (mk:α->γ) (he:∀a,d (mk a)=c a) (hB:∀a,B a->D (mk a)):Rd enc W base held t d D:=λfuel cs y hy=>by
 obtain ⟨xs,n,_,_,h3,h4,h5⟩:=DataW.trod_struct ht hy
 obtain ⟨a,q1,q2⟩:=h n cs (h3.trans hN) λf hf=>by
  obtain ⟨i,hi,rfl⟩:=List.mem_iff_getElem.1 hf
  have hx:i<xs.length:=by rw [h4];simpa using hi
  exact ⟨xs[i],(h5 i _ (by simp at hi ⊢)).trans (List.getElem?_eq_getElem hx)⟩
 exact ⟨mk a,hB a q1,by rw [he];exact q2⟩
theorem flat_at {size:Nat}:∀(es:List (List Value)) (j:Nat) (u:Value),(∀c∈es,c.length=size)->es.flatten[j]?=some u->∃i r c,es[i]?=some c/\r<size/\j=i*size+r/\c[r]?=some u
 |[],j,u,_,h=>by simp at h
 |c::es,j,u,hl,h=>by
  have hc:=hl c (List.mem_cons_self ..)
  rw [List.flatten_cons] at h
  by_cases hj:j<c.length
  ·rw [List.getElem?_append_left hj] at h
   exact ⟨0,j,c,rfl,by omega,by omega,h⟩
  ·rw [List.getElem?_append_right (by omega)] at h
   obtain ⟨i,r,c',h1,h2,h3,h4⟩:=flat_at es (j-c.length) u (λx hx=>hl x (List.mem_cons_of_mem _ hx)) h
   exact ⟨i+1,r,c',by simpa using h1,h2,by rw [Nat.add_mul];omega,h4⟩
theorem shs {l:List α} {f:List (List Value)} (h:l.length=f.length) (hh:∀(i:Nat) a v,l[i]?=some a->f[i]?=some v->Sh W (c a) v):∃xs:List (List AV),PRss (l.map c) xs/\TVs W (λb _=>b<W.heap.size) (λ_=>False) xs.flatten f.flatten:=by
 induction l generalizing f with
 |nil=>cases f with
  |nil=>exact ⟨[],.nil,.nil⟩
  |cons=>cases h
 |cons a l ih=>cases f with
  |nil=>cases h
  |cons v f=>
   obtain ⟨xs,h1,h2⟩:=hh 0 a v rfl rfl
   obtain ⟨ys,h3,h4⟩:=ih (Nat.succ.inj h) λi a v p q=>hh (i+1) a v p q
   exact ⟨xs::ys,.cons h1 h3,tvs_app h2 h4⟩
theorem prss_each {l:List (List WV)} {xs:List (List AV)} (h:PRss l xs) {s:Nat} (hl:∀e∈l,e.length=s):xs.length=l.length/\∀e∈xs,e.length=s:=by
 induction l generalizing xs with
 |nil=>cases h;exact ⟨rfl,λe he=>by cases he⟩
 |cons c l ih=>cases h with
  |cons h1 h2=>
   obtain ⟨q1,q2⟩:=ih h2 λe he=>hl e (List.mem_cons_of_mem _ he)
   refine ⟨by rw [List.length_cons,q1];rfl,λe he=>?_⟩
   rcases List.mem_cons.1 he with rfl | he
   ·rw [prs_len h1];exact hl _ (List.mem_cons_self ..)
   ·exact q2 e he
theorem rd_slice {s:Nat} (ht:P.underlying t=some (.slice e)) (hs:P.cellsOf e=s) (hc:∀a,(c a).length=s) (h:Rd enc W base held e c B) (hpos:0<s:=by decide):Rd enc W base held t (λl:List α=>[.lst (l.map c)]) (λl=>(∀x∈l,B x)/\l.length<=9223372036854775807):=λfuel cs y hy=>by
 rcases open_slice ht hy with ⟨rfl,_⟩ | ⟨a,l,cp,m,n,D,Pl,rfl,hb,hl,hm,hmm,hx,hi⟩
 ·exact ⟨[],⟨λx hx=>(by cases hx),Nat.zero_le _⟩,[.sc (.slice none 0 0)],.cons .emp .nil,.cons (.sc rfl) .nil⟩
 ·have hlm:l<=m:=by rw [hmm];split<;>omega
  have each:∀i,i<l->∃c':List Value,W.cells? base (a.add (i*s)) s=some c'/\c'.length=s/\∃x,B x/\Sh W (c x) c':=λi hil=>by
   obtain ⟨c',h1,h2⟩:=hi i (by omega)
   rw [hs] at h1
   obtain ⟨_,h3,_⟩:=World.cells?_some h1
   exact ⟨c',h1,h3,h _ _ _ h2⟩
  obtain ⟨f,hf⟩:=choose_lt each
  obtain ⟨g,hg⟩:∃g:Fin l->α,∀i:Fin l,B (g i)/\Sh W (c (g i)) (f i):=⟨λi=>((hf i i.2).2.2).choose,λi=>((hf i i.2).2.2).choose_spec⟩
  have hall:∀c∈(List.range l).map f,c.length=s:=λc hc=>by
   obtain ⟨i,hi',rfl⟩:=List.mem_map.1 hc
   exact (hf i (List.mem_range.1 hi')).2.1
  obtain ⟨xs,hp,htv⟩:=shs (W:=W) (c:=c) (l:=List.ofFn g) (f:=(List.range l).map f) (by simp) λi x v p q=>by
   have hil:i<l:=by
    have:=(List.getElem?_eq_some_iff.1 p).1
    simpa using this
   have e1:x=g ⟨i,hil⟩:=by simpa [hil] using p.symm
   have e2:v=f i:=by simpa [hil] using q.symm
   rw [e1,e2]
   exact (hg ⟨i,hil⟩).2
  obtain ⟨k1,k2⟩:=prss_each hp (s:=s) λe he=>by
   obtain ⟨x,_,rfl⟩:=List.mem_map.1 he
   exact hc x
  have k3:xs.length=l:=by rw [k1];simp
  refine ⟨List.ofFn g,⟨λx hx=>?_,by simp;exact Nat.le_trans hl hm⟩,[.isl xs false],.cons (.lst hp) .nil,.cons ?_ .nil⟩
  ·obtain ⟨i,rfl⟩:=List.mem_ofFn.1 hx
   exact (hg i).1
  ·have hcell:∀(j:Nat) (u:Value),((List.range l).map f).flatten[j]?=some u->∃b o,a=⟨b,o,none⟩ /\W.cell? ⟨b,o+j,none⟩=some u:=λj u hu=>by
    obtain ⟨i,r,c',h1,h2,h3,h4⟩:=flat_at _ j u hall hu
    have hil:i<l:=by
     have:=(List.getElem?_eq_some_iff.1 h1).1
     simpa using this
    have:c'=f i:=by simpa [hil] using h1.symm
    subst this
    obtain ⟨_,hlen',hc'⟩:=World.cells?_some (hf i hil).1
    have h5:=hc' r (by omega)
    have h6:=List.getElem?_eq_getElem (l:=f i) (i:=r) (by omega)
    obtain ⟨_,hlen0,hc0⟩:=World.cells?_some (hf 0 (by omega)).1
    have h7:=hc0 0 (by omega)
    rw [List.getElem?_eq_getElem (by omega)] at h7
    obtain ⟨b,off,spot⟩:=a
    have hspot:spot=none:=by
     have:=World.cell?_spot h7
     simpa [Addr.add] using this
    subst hspot
    rw [add_add,Go.WideShapes.add_plain] at h5
    exact ⟨b,off,rfl,by rw [h3,h5];rw [h6] at h4;simpa [List.getD,h6] using h4⟩
   have:TV W (λb _=>b<W.heap.size) (λ_=>False) (.isl xs false) (.slice (some a) xs.length cp):=
    .isl htv (λhne=>by
     have hl0:0<l:=by rw [<-k3];exact List.length_pos_iff.2 hne
     have hj:0<((List.range l).map f).flatten.length:=by
      have h0:=hall (f 0) (List.mem_map.2 ⟨0,List.mem_range.2 hl0,rfl⟩)
      obtain ⟨k,rfl⟩:∃k,l=k+1:=⟨l-1,by omega⟩
      rw [List.range_succ_eq_map,List.map_cons,List.flatten_cons,List.length_append]
      omega
     obtain ⟨b,o,rfl,_⟩:=hcell 0 _ (List.getElem?_eq_getElem hj)
     refine ⟨rfl,λj v hv=>?_⟩
     obtain ⟨b',o',e,hw⟩:=hcell j v hv
     cases e
     have hlt:=block_lt_of_cell (a:=⟨b,o+j,none⟩) hw
     exact ⟨hlt,hw⟩) k2 (by rw [k3];exact hl) (λh=>by cases h)
   rwa [k3] at this
end
end Go.Abs.RM
end
section
namespace Go.Abs.RM
open Go.Proofs
set_option maxRecDepth 100000
section
variable {H:Type} {enc:TypeId×Value->H} {W:World} {base:Nat} {held:Bool}
theorem rc {N o:Nat} {f:Field} {fs:List Field} {α β:Type} {c:α->List WV} {B:α->Prop} {d:β->List WV} {D:β->Prop} (h1:Rd enc W base held f.type c B) (h2:RdF enc W base held N (o+1) fs d D) (ho:f.offset=o:=by rfl) (hk:P.cellsOf f.type=1:=by kernel_rfl):RdF enc W base held N o (f::fs) (λa:α×β=>c a.1++d a.2) (λa=>B a.1/\D a.2):=rdf_cons h1 ho hk h2
theorem ri3:Rd enc W base held 3 c_i64 (λ_=>True):=rd_int Tryz.underlying3
theorem rb4:Rd enc W base held 4 (λb:Bool=>[.sc (.bool b)]) (λ_=>True):=rd_bool Tryz.underlying4
theorem rt9:Rd enc W base held 9 cStr (λs:ByteArray=>s.size<=9223372036854775807):=rd_str Tryz.underlying9
theorem rd2492:Rd enc W base held 492 S2492.c (λ_=>True):=rd_struct (N:=5) Tryz.underlying492 (by kernel_rfl) (rc rt9 (rc rt9 (rc ri3 (rc ri3 (rc ri3 rdf_nil))))) (λa=>⟨a.1,a.2.1,a.2.2.1,a.2.2.2.1,a.2.2.2.2.1⟩) (λ_=>rfl) (λ_ _=>trivial)
theorem rd2488:Rd enc W base held 488 S2488.c (λ_=>True):=rd_struct (N:=4) Tryz.underlying488 (by kernel_rfl) (rc ri3 (rc ri3 (rc ri3 (rc ri3 rdf_nil)))) (λa=>⟨a.1,a.2.1,a.2.2.1,a.2.2.2.1⟩) (λ_=>rfl) (λ_ _=>trivial)
theorem rd2490:Rd enc W base held 490 S2490.c (λ_=>True):=rd_struct (N:=5) Tryz.underlying490 (by kernel_rfl) (rc rt9 (rdf_cons (k:=4) rd2488 rfl (by kernel_rfl) rdf_nil)) (λa=>⟨a.1,a.2.1⟩) (λ_=>rfl) (λ_ _=>trivial)
theorem rd2486:Rd enc W base held 486 S2486.c (λ_=>True):=rd_struct (N:=4) Tryz.underlying486 (by kernel_rfl) (rc rt9 (rc rt9 (rc ri3 (rc ri3 rdf_nil)))) (λa=>⟨a.1,a.2.1,a.2.2.1,a.2.2.2.1⟩) (λ_=>rfl) (λ_ _=>trivial)
theorem rd2551:Rd enc W base held 551 S2551.c (λ_=>True):=rd_struct (N:=3) Tryz.underlying551 (by kernel_rfl) (rc rt9 (rc ri3 (rc rb4 rdf_nil))) (λa=>⟨a.1,a.2.1,a.2.2.1⟩) (λ_=>rfl) (λ_ _=>trivial)
theorem rd2484:Rd enc W base held 484 S2484.c (λ_=>True):=rd_struct (N:=4) Tryz.underlying484 (by kernel_rfl) (rc rt9 (rc ri3 (rc ri3 (rc (rd_slice (s:=3) Tryz.underlying482 (by kernel_rfl) (λ_=>rfl) rd2551) rdf_nil)))) (λa=>⟨a.1,a.2.1,a.2.2.1,a.2.2.2.1⟩) (λ_=>rfl) (λ_ _=>trivial)
theorem ri35:Rd enc W base held 35 c_i64 (λ_=>True):=rd_int Tryz.underlying35
theorem rd63:Rd enc W base held 60 S63.c (λe=>e.f0.size<=9223372036854775807):=rd_struct (N:=2) Tryz.underlying60 (by kernel_rfl) (rc rt9 (rc ri3 rdf_nil)) (λa=>⟨a.1,a.2.1⟩) (λ_=>rfl) (λ_ h=>h.1)
theorem ri55:Rd enc W base held 52 c_i64 (λ_=>True):=rd_int Tryz.underlying52
theorem rd215:Rd enc W base held 151 S215.c (λ_=>True):=rd_struct (N:=2) Tryz.underlying151 (by kernel_rfl) (rc ri55 (rc ri3 rdf_nil)) (λa=>⟨a.1,a.2.1⟩) (λ_=>rfl) (λ_ _=>trivial)
theorem rd179:Rd enc W base held 148 S179.c (λe=>e.f0.size<=9223372036854775807):=rd_struct (N:=2) Tryz.underlying148 (by kernel_rfl) (rc rt9 (rc ri3 rdf_nil)) (λa=>⟨a.1,a.2.1⟩) (λ_=>rfl) (λ_ h=>h.1)
theorem rd59:Rd enc W base held 56 S59.c (λe=>e.f0.length<=9223372036854775807/\e.f1.length<=9223372036854775807/\∀x∈e.f0,x.f0.size<=9223372036854775807):=rd_struct (N:=9) Tryz.underlying56 (by kernel_rfl) (rc (rd_slice (s:=2) Tryz.underlying53 (by kernel_rfl) (λ_=>rfl) rd179) (rc (rd_slice (s:=2) Tryz.underlying54 (by kernel_rfl) (λ_=>rfl) rd215) (rc ri3 (rc ri3 (rc ri3 (rc ri3 (rc ri3 (rc ri3 (rc ri3 rdf_nil))))))))) (λa=>⟨a.1,a.2.1,a.2.2.1,a.2.2.2.1,a.2.2.2.2.1,a.2.2.2.2.2.1,a.2.2.2.2.2.2.1,a.2.2.2.2.2.2.2.1,a.2.2.2.2.2.2.2.2.1⟩) (λ_=>rfl) (λ_ h=>⟨h.1.2,h.2.1.2,h.1.1⟩)
theorem rd61:Rd enc W base held 58 S61.c (λe=>CB e 9223372036854775807 9223372036854775807):=rd_struct (N:=16) Tryz.underlying58 (by kernel_rfl) (rc rt9 (rc ri3 (rc ri3 (rc rb4 (rc rt9 (rc (rd_slice (s:=1) Tryz.underlying24 (by kernel_rfl) (λ_=>rfl) rt9) (rc (rd_slice (s:=1) Tryz.underlying24 (by kernel_rfl) (λ_=>rfl) rt9) (rdf_cons (k:=9) rd59 rfl (by kernel_rfl) rdf_nil)))))))) (λa=>⟨a.1,a.2.1,a.2.2.1,a.2.2.2.1,a.2.2.2.2.1,a.2.2.2.2.2.1,a.2.2.2.2.2.2.1,a.2.2.2.2.2.2.2.1⟩) (λ_=>rfl) (λ_ ⟨h0,_,_,_,h4,h5,h6,h7,_⟩=>⟨h0,h4,h5.2,h6.2,h7.1,h7.2.1,h5.1,h6.1,h7.2.2⟩)
theorem rd65:Rd enc W base held 62 S65.c EM:=rd_struct (N:=29) Tryz.underlying62 (by kernel_rfl) (rc ri3 (rc rt9 (rc rt9 (rc ri55 (rc rb4 (rc rt9 (rc ri3 (rc ri3 (rc (rd_slice (s:=1) Tryz.underlying34 (by kernel_rfl) (λ_=>rfl) ri3) (rc (rd_slice (s:=1) Tryz.underlying34 (by kernel_rfl) (λ_=>rfl) ri3) (rdf_cons (k:=16) rd61 rfl (by kernel_rfl) (rc ri3 (rdf_cons (k:=2) rd63 rfl (by kernel_rfl) rdf_nil))))))))))))) (λa=>⟨a.1,a.2.1,a.2.2.1,a.2.2.2.1,a.2.2.2.2.1,a.2.2.2.2.2.1,a.2.2.2.2.2.2.1,a.2.2.2.2.2.2.2.1,a.2.2.2.2.2.2.2.2.1,a.2.2.2.2.2.2.2.2.2.1,a.2.2.2.2.2.2.2.2.2.2.1,a.2.2.2.2.2.2.2.2.2.2.2.1,a.2.2.2.2.2.2.2.2.2.2.2.2.1⟩) (λ_=>rfl) (λ_ ⟨_,h1,h2,_,_,h5,_,_,h8,h9,h10,_,h12,_⟩=>⟨h1,h2,h5,h8.2,h9.2,h10,h12⟩)
theorem ri2032:Rd enc W base held 32 c_i64 (λ_=>True):=rd_int Tryz.underlying32
theorem rd2037:Rd enc W base held 37 S2037.c PkM:=rd_struct (N:=10) Tryz.underlying37 (by kernel_rfl) (rc rt9 (rc rt9 (rc ri2032 (rc ri3 (rc rt9 (rc (rd_slice (s:=29) Tryz.underlying33 (by kernel_rfl) (λ_=>rfl) rd65) (rc (rd_slice (s:=1) Tryz.underlying34 (by kernel_rfl) (λ_=>rfl) ri3) (rc (rd_slice (s:=29) Tryz.underlying33 (by kernel_rfl) (λ_=>rfl) rd65) (rc rt9 (rc ri35 rdf_nil)))))))))) (λa=>⟨a.1,a.2.1,a.2.2.1,a.2.2.2.1,a.2.2.2.2.1,a.2.2.2.2.2.1,a.2.2.2.2.2.2.1,a.2.2.2.2.2.2.2.1,a.2.2.2.2.2.2.2.2.1,a.2.2.2.2.2.2.2.2.2.1⟩) (λ_=>rfl) (λ_ ⟨h0,_,_,_,_,h5,h6,h7,_,_,_⟩=>⟨h5.2,h5.1,h7.2,h7.1,h6.2,h0⟩)
theorem rd2079:Rd enc W base held 79 S2079.c QM:=rd_struct (N:=6) Tryz.underlying79 (by kernel_rfl) (rc rt9 (rc ri3 (rc (rd_slice (s:=29) Tryz.underlying33 (by kernel_rfl) (λ_=>rfl) rd65) (rc (rd_slice (s:=29) Tryz.underlying33 (by kernel_rfl) (λ_=>rfl) rd65) (rc ri3 (rc ri3 rdf_nil)))))) (λa=>⟨a.1,a.2.1,a.2.2.1,a.2.2.2.1,a.2.2.2.2.1,a.2.2.2.2.2.1⟩) (λ_=>rfl) (λ_ ⟨h0,_,h2,h3,_,_,_⟩=>⟨h2.2,h2.1,h3.2,h3.1,h0⟩)
theorem rd75:Rd enc W base held 242 S75.c (λ_=>True):=rd_struct (N:=2) Tryz.underlying242 (by kernel_rfl) (rc rt9 (rc ri3 rdf_nil)) (λa=>⟨a.1,a.2.1⟩) (λ_=>rfl) (λ_ _=>trivial)
theorem rd73:Rd enc W base held 240 S73.c (λ_=>True):=rd_struct (N:=4) Tryz.underlying240 (by kernel_rfl) (rc rt9 (rc ri3 (rc ri3 (rc ri3 rdf_nil)))) (λa=>⟨a.1,a.2.1,a.2.2.1,a.2.2.2.1⟩) (λ_=>rfl) (λ_ _=>trivial)
theorem rd71:Rd enc W base held 168 S71.c (λ_=>True):=rd_struct (N:=3) Tryz.underlying168 (by kernel_rfl) (rc ri55 (rc rt9 (rc ri3 rdf_nil))) (λa=>⟨a.1,a.2.1,a.2.2.1⟩) (λ_=>rfl) (λ_ _=>trivial)
theorem ri133:Rd enc W base held 108 c_i64 (λ_=>True):=rd_int Tryz.underlying108
theorem rd135:Rd enc W base held 110 S135.c (λ_=>True):=rd_struct (N:=4) Tryz.underlying110 (by kernel_rfl) (rc ri3 (rc ri3 (rc ri133 (rc rb4 rdf_nil)))) (λa=>⟨a.1,a.2.1,a.2.2.1,a.2.2.2.1⟩) (λ_=>rfl) (λ_ _=>trivial)
theorem rd30:Rd enc W base held 50 S30.c RawG:=rd_struct (N:=9) Tryz.underlying50 (by kernel_rfl) (rc rt9 (rc (rd_slice (s:=29) Tryz.underlying33 (by kernel_rfl) (λ_=>rfl) rd65) (rc (rd_slice (s:=4) Tryz.underlying44 (by kernel_rfl) (λ_=>rfl) rd135) (rc (rd_slice (s:=29) Tryz.underlying33 (by kernel_rfl) (λ_=>rfl) rd65) (rc (rd_slice (s:=1) Tryz.underlying34 (by kernel_rfl) (λ_=>rfl) ri3) (rc (rd_slice (s:=3) Tryz.underlying46 (by kernel_rfl) (λ_=>rfl) rd71) (rc ri3 (rc (rd_slice (s:=4) Tryz.underlying47 (by kernel_rfl) (λ_=>rfl) rd73) (rc (rd_slice (s:=2) Tryz.underlying48 (by kernel_rfl) (λ_=>rfl) rd75) rdf_nil))))))))) (λa=>⟨a.1,a.2.1,a.2.2.1,a.2.2.2.1,a.2.2.2.2.1,a.2.2.2.2.2.1,a.2.2.2.2.2.2.1,a.2.2.2.2.2.2.2.1,a.2.2.2.2.2.2.2.2.1⟩) (λ_=>rfl) (λ_ ⟨h0,h1,h2,h3,h4,h5,_,h7,h8,_⟩=>⟨h0,h1.1,h3.1,h1.2,h2.2,h3.2,h4.2,h5.2,h7.2,h8.2⟩)
theorem rd2031:Rd enc W base held 31 S2031.c RawS:=rd_struct (N:=12) Tryz.underlying31 (by kernel_rfl) (rc rt9 (rc (rd_slice (s:=9) Tryz.underlying22 (by kernel_rfl) (λ_=>rfl) rd30) (rc (rd_slice (s:=6) Tryz.underlying23 (by kernel_rfl) (λ_=>rfl) rd2079) (rc (rd_slice (s:=1) Tryz.underlying24 (by kernel_rfl) (λ_=>rfl) rt9) (rc (rd_slice (s:=10) Tryz.underlying25 (by kernel_rfl) (λ_=>rfl) rd2037) (rc (rd_slice (s:=4) Tryz.underlying26 (by kernel_rfl) (λ_=>rfl) rd2484) (rc ri3 (rc (rd_slice (s:=4) Tryz.underlying27 (by kernel_rfl) (λ_=>rfl) rd2486) (rc (rd_slice (s:=5) Tryz.underlying28 (by kernel_rfl) (λ_=>rfl) rd2490) (rc (rd_slice (s:=5) Tryz.underlying29 (by kernel_rfl) (λ_=>rfl) rd2492) (rc rb4 (rc ri3 rdf_nil)))))))))))) (λa=>⟨a.1,a.2.1,a.2.2.1,a.2.2.2.1,a.2.2.2.2.1,a.2.2.2.2.2.1,a.2.2.2.2.2.2.1,a.2.2.2.2.2.2.2.1,a.2.2.2.2.2.2.2.2.1,a.2.2.2.2.2.2.2.2.2.1,a.2.2.2.2.2.2.2.2.2.2.1,a.2.2.2.2.2.2.2.2.2.2.2.1⟩) (λ_=>rfl) (λ_ ⟨h0,h1,h2,_,h4,_,_,_,_,_,_,_,_⟩=>⟨h0,h1.2,h1.1,h2.2,h2.1,h4.2,h4.1⟩)
end
end Go.Abs.RM
end
