/- Of ServerHides: lemmas. -/
import Derived.Shelf.Sort.Plain
import Derived.Test.YtlhdbnmgiaoeeaaGreatUAj
import Derived.Lib.RowBridge
import Derived.Shelf.Slices.CompactI
import Derived.Shelf.Slices.In.SortNone
import Derived.Lib.IndexLaws
import Derived.Test.YtlhdbnmgiaoeeaaGreatProg
import Derived.KernelRfl
set_option linter.all false
section
namespace Go.Proofs.RMH
open Go.Shelf
def renPairs:List (Nat×Nat)->Nat->Nat
 |[],n=>n
 |p::r,n=>bif Nat.beq p.1 n then p.2 else renPairs r n
def sortRen:Ren:=⟨renPairs [(190,242),(258,320),(302,377),(303,378),(304,379),(305,380),(306,381),(307,382),(308,383),(309,384),(310,385),(333,435),(334,436),(335,437),(336,438),(344,485),(125,197),(128,282),(129,283),(329,346),(330,347)],renPairs [(0,0),(3,3),(4,4),(5,5),(9,9),(31,24),(46,250),(51,322),(53,304),(131,203),(182,314),(183,315),(218,369),(222,373),(228,410),(229,411)],λn=>n⟩
theorem sortLays:Lays.n190 Tryz.prog sortRen:=by
 constructor<;>first | kernel_rfl | (intro _;kernel_rfl)
end Go.Proofs.RMH
namespace Go.Abs.RM
open Go.Proofs Go.Proofs.RMH Go.RowKit Go.Sort
noncomputable section
theorem setCells_map:∀(vs:List Value) (o:Nat) (w:World) (b:Nat),w.setCells b o vs=mapBlock w b (λc=>arrSet c o vs)
 |[],o,w,b=>(mapBlock_id w b _ (λ_ _ _ _=>rfl)).symm
 |v::r,o,w,b=>by
  rw [World.setCells,setCells_map r,setCell_eq,mapBlock_mapBlock]
  rfl
theorem put_set {w:World} {blk:Nat} {arr:Array Value} {t:TypeId} {rg:Nat×Nat} {ss:List (List UInt8)} (h:w.heap[blk]?=some (.cells arr t rg)) (hs:ss.length<=arr.size):putRow encStr w blk 0 ss.toArray=w.setCells blk 0 (ss.map encStr):=by
 rw [setCells_map]
 refine mapBlock_congr _ _ _ _ λc e fr hc=>?_
 rw [h] at hc
 cases hc
 apply Array.ext_getElem?
 intro k
 simp only [putCells,Array.getElem?_mapIdx]
 by_cases hk:k<ss.length
 ·have:=arrSet_in (ss.map encStr) 0 arr k (by simpa using hs) (by simpa using hk)
  rw [Nat.zero_add] at this
  rw [this,Array.getElem?_eq_getElem (by omega),Option.map_some,if_pos ⟨by omega,by simpa using hk⟩]
  simp [hk]
 ·rw [arrSet_out _ _ _ _ (.inr (by simp;omega))]
  cases hc:arr[k]? with
  |none=>rfl
  |some x=>rw [Option.map_some,if_neg (by simp;omega)]
def strA (s:ByteArray):List AV:=[.sc (.string s)]
def sortS (l:List ByteArray):List ByteArray:=((l.map λs=>s.data.toList).mergeSort λa b=>decide (a<=b)).map λl=>⟨l.toArray⟩
theorem sortS_length (l:List ByteArray):(sortS l).length=l.length:=by simp [sortS]
theorem below_grow (w:World) (os:Array Obj) {B:Nat} (hB:B<=w.heap.size):Below B w (Go.Sort.grow w os):=⟨rfl,rfl,rfl,by simp [Go.Sort.grow],λk hk=>by simp [Go.Sort.grow,Array.getElem?_append,show k<w.heap.size by omega]⟩
theorem vrs_str {σ:Sg}:∀l:List ByteArray,VRs σ (l.map strA).flatten (l.map Value.string)
 |[]=>.nil
 |s::l=>.cons (.tree (.sc rfl)) (vrs_str l)
theorem prs_cStr:∀{l:List ByteArray} {zs:List (List AV)},PRss (l.map cStr) zs->zs=l.map strA
 |[],_,h=>by cases h;rfl
 |s::l,_,h=>by
  cases h with
  |cons h hs=>
   cases h with
   |cons h h0=>
    cases h0
    cases h
    rw [prs_cStr hs]
    rfl
theorem prss_strA:∀l:List ByteArray,PRss (l.map cStr) (l.map strA)
 |[]=>.nil
 |_::l=>.cons (.cons .sc .nil) (prss_strA l)
end
end Go.Abs.RM
namespace Go.Abs.RM
open Go.Proofs Go.Proofs.RMH Go.RowKit Go.Sort
noncomputable section
theorem names : P.funcs.toList.all (λfn => !(fn.name == "runtime.NumGoroutine")) = true := by kernel_rfl
def spNone:Abs.Spec:=⟨λ_ _ _=>none,λ_ _ _ _=>none,λ_ _=>none⟩
theorem specsNone:SpecOK P spNone where
 s1:=λc1 _ f args r h=>by simp [spNone] at h
 s2:=λc2 _ f args H r H' h=>by simp [spNone] at h
 meth:=λ_ _ _ h=>by simp [spNone] at h
theorem unit_sc {f:FuncId} {args:List AV} (h:Valid P f args (.ret (.tup []))):Valid P f args (.ret (.sc (.tuple #[]))):=by
 refine ⟨h.1,?_⟩
 intro w I J vs hI hJ hv
 refine (h.2 w I J vs hI hJ hv).mono ?_
 rintro e w' ⟨hb,I',J',h1,h2,h3,h4,ho⟩
 refine ⟨hb,I',J',h1,h2,h3,h4,?_⟩
 cases e with
 |returned x=>cases ho with | tup h=>cases h;exact .sc rfl
 |panicked c=>exact ho.elim
 |outgrown=>exact ho.elim
theorem sort_nil:Valid P 242 [.sc (.slice none 0 0)] (.ret (.sc (.tuple #[]))):=unit_sc <| ran (mkE_ok (S:=spNone) (inl:=[]) (own:=[]) (es:=[]) mixed names specsNone (λe h=>by cases h)) 3000 60 (by kernel_rfl)
theorem valid2_sc {f:FuncId} {args:List AV} {H:Heap} {v:Value} (h:Valid P f args (.ret (.sc v))) (ht:∀σ vs,SR σ->VRs σ args vs->TVs σ.w σ.I σ.J args vs):Valid2 P f args H (.ret (.sc v)) H:=by
 refine ⟨h.1,?_⟩
 intro σ vs sr hσ hfr hv
 refine (h.2 σ.w σ.I σ.J vs sr.ilt sr.jlt (ht σ vs sr hv)).mono ?_
 rintro e w' ⟨hb,I',J',h1,h2,h3,h4,ho⟩
 obtain ⟨l,sr'⟩:=le_below sr hb h1 h2 h3 h4
 refine ⟨{ σ with w:=w',I:=I',J:=J' },rfl,hσ,l,sr',Nat.le_refl _,λm hm=>.inl (.inr hm),λm hm=>hfr m hm,?_⟩
 cases e with
 |returned x=>exact .tree ho
 |panicked c=>exact ho.elim
 |outgrown=>exact ho.elim
theorem vrs_str_inv {σ:Sg}:∀{l:List ByteArray} {vs:List Value},VRs σ (l.map strA).flatten vs->vs=l.map Value.string
 |[],_,h=>by cases h;rfl
 |_::l,_,h=>by
  cases h with
  |cons h hs=>rw [(VR.sc_inv h).1,vrs_str_inv hs];rfl
theorem flat_len (l:List ByteArray):(l.map strA).flatten.length=l.length:=by
 induction l with
 |nil=>rfl
 |cons s l ih=>show (_::(l.map strA).flatten).length=_;rw [List.length_cons,ih];rfl
def d191 (_fuel:Nat) (a0:List ByteArray):Option (List ByteArray):=(bif decide (a0.length<=1000000) then some (sortS a0) else none)
theorem sort_row {H:Heap} {b g:Nat} {cap:Option Nat} {l:List ByteArray} (hl:l.length<=1000000) (hlook:look H.objs b=some (.cells (l.map strA) 1 0)) (hg:l.length=g) :
 Valid2 P 242 [.sl b g 0 g cap] H (.ret (.sc (.tuple #[]))) ⟨put H.objs b (.cells ((sortS l).map strA) 1 0),H.next⟩:=by
 refine ⟨⟨_,Tryz.func242,rfl,by kernel_rfl⟩,?_⟩
 intro σ vs sr hσ hfr hv
 have hn:σ.h b=some (.cells (l.map strA) 1 0):=by rw [hσ];exact hlook
 cases hv with
 |cons h1 hv=>
 cases hv
 obtain ⟨c,arr,t,rg,rfl,harr,_,hroom,hgc,_⟩:=h1.sl_inv sr hn (by rw [List.length_map];exact hg)
 obtain ⟨arr',t',rg',full,h1',hj,hrg,hfull,_,hle,hcells,hI0⟩:=sr.obj b _ hn
 rw [harr] at h1'
 cases h1'
 obtain rfl:=vrs_str_inv hfull
 have hsz:l.length<=arr.size:=by simpa using hle
 have hlt:=sr.lt b _ hn
 have hholds:Go.Sort.Holds encStr σ.w (σ.r b) (0*1) (l.map λs=>s.data.toList).toArray:=by
  intro j hjd
  have hjl:j<l.length:=by simpa using hjd
  constructor
  ·rw [cell_of_heap harr]
   have:=hcells j (.string l[j]) (by simp [hjl])
   rw [show 0*1+j=j by omega,this]
   simp [hjl,encStr]
  ·have:=hrg (0*1+j) (by omega)
   simp only [World.frozen?,harr]
   simpa using λh1=>Nat.le_of_not_lt λh2=>this ⟨h1,h2⟩
 have key:=Any.slices_Sort_string sortLays (σ.r b) (0*1) c (l.map λs=>s.data.toList) σ.w hholds hlt (by simp;omega)
 rw [List.length_map,hg] at key
 refine Calls.mono key ?_
 rintro e w' ⟨rfl,n,os,rfl⟩
 have b1:Below σ.w.heap.size σ.w (Go.Sort.ahead σ.w n):=⟨rfl,rfl,rfl,Nat.le_refl _,λ_ _=>rfl⟩
 obtain ⟨l1,sr1⟩:=le_below sr b1 (I':=σ.I) (J':=σ.J) (λ_ _ h=>h) (λ_ _ h=>.inl h) (λ_ h=>h) (λ_ h=>.inl h)
 have hfl:((sortS l).map strA).flatten.length=((l.map strA).flatten).length:=by rw [flat_len,flat_len,sortS_length]
 obtain ⟨l2,sr2⟩:=write_own (σ:={ σ with w:=Go.Sort.ahead σ.w n }) sr1 (n:=b) (es:=l.map strA) (es':=(sortS l).map strA) (s:=1) (fz:=0) hn (o:=0) (cs:=((sortS l).map strA).flatten) (vs:=(sortS l).map Value.string)
  (vrs_str _) (by rw [List.take_zero,List.nil_append,Nat.zero_add,List.drop_of_length_le (by rw [hfl];exact Nat.le_refl _),List.append_nil]) (Nat.zero_le _) (by omega) (by simp [sortS_length]) (λe he=>by obtain ⟨s,_,rfl⟩:=List.mem_map.1 he;rfl) (arr:=arr) (t:=t) (rg:=rg) harr (by simp [sortS_length];omega)
 have b3:=below_grow (Sg.write { σ with w:=Go.Sort.ahead σ.w n } b 0 ((sortS l).map Value.string) (.cells ((sortS l).map strA) 1 0)).w os (Nat.le_refl _)
 obtain ⟨l3,sr3⟩:=le_below sr2 b3 (I':=σ.I) (J':=σ.J) (λ_ _ h=>h) (λ_ _ h=>.inl h) (λ_ h=>h) (λ_ h=>.inl h)
 have e1:putRow encStr (Go.Sort.ahead σ.w n) (σ.r b) (0*1) (((l.map λs=>s.data.toList).mergeSort λx y=>decide (x<=y)).toArray)=(Go.Sort.ahead σ.w n).setCells (σ.r b) 0 ((sortS l).map Value.string):=by
  rw [show 0*1=0 from rfl,put_set (w:=Go.Sort.ahead σ.w n) harr (by simp;omega)]
  rw [sortS,List.map_map]
  rfl
 refine ⟨_,?_,?_,(l1.trans sr1 l2 sr2).trans sr2 l3 sr3,sr3,Nat.le_refl _,λm hm=>.inl (.inr hm),λk hk=>?_,.tree (.sc rfl)⟩
 ·rw [e1];rfl
 ·funext k
  show upd σ.h b _ k=_
  rw [look_put,<-hσ]
  unfold upd
  by_cases e:k=b
  ·subst e;simp
  ·rw [if_neg e,if_neg (λq=>e q.symm)]
 ·obtain ⟨q1,q2⟩:=hfr k hk
  refine ⟨?_,q2⟩
  show upd σ.h b _ k=none
  unfold upd
  split
  ·rename_i e;subst e;rw [hn] at q1;cases q1
  ·exact q1
theorem d191_set (fuel:Nat) (a0:List ByteArray) (r:List ByteArray) (hI:d191 fuel a0=some r):WSet P 242 [] 1 (a0.map cStr) (λes=>es=r.map cStr):=by
 obtain ⟨hc,hI⟩:=ckd hI
 cases hI
 have hc:=of_decide_eq_true hc
 intro H x xs hfr hsh hx
 cases hx
 rcases hsh with ⟨rfl,he⟩ | ⟨b,g,cap,zs,rfl,hlook,hg,hz,hcap⟩
 ·obtain rfl:=List.map_eq_nil_iff.1 he
  have e0:sortS []=[]:=List.eq_nil_of_length_eq_zero (sortS_length [])
  rw [e0]
  refine ⟨_,H,rfl,λe he=>(by cases he),valid2_sc sort_nil (λσ vs sr hv=>?_),Nat.le_refl _,hfr,λk h=>.inl h,λ_ _ _=>rfl,.inl ⟨rfl,rfl⟩⟩
  cases hv with
  |cons h hv=>
  cases hv
  rw [(VR.sc_inv h).1]
  exact .cons (.sc rfl) .nil
 ·obtain rfl:=prs_cStr hz
  have hg':a0.length=g:=by rw [<-hg,List.length_map]
  refine ⟨_,_,rfl,lens_map (f:=cStr) (λ_=>rfl),sort_row hc hlook hg',Nat.le_refl _,λm hm=>?_,λk h=>?_,λk hk hnr=>?_,.inr ⟨b,g,cap,_,rfl,by rw [look_put,if_pos rfl],by rw [List.length_map,sortS_length];exact hg',prss_strA _,hcap⟩⟩
  ·show look (put H.objs b _) m=none
   rw [look_put]
   split
   ·rename_i e;subst e;rw [hfr _ hm] at hlook;cases hlook
   ·exact hfr m hm
  ·left
   intro h0
   apply h
   show look (put H.objs b _) k=none
   rw [look_put]
   split
   ·rename_i e;subst e;rw [h0] at hlook;cases hlook
   ·exact h0
  ·show look (put H.objs b _) k=_
   rw [look_put,if_neg (hnr _ _ _ _ _ rfl)]
end
end Go.Abs.RM
end
section
namespace Go.Abs.RM
open Go.Proofs Go.Proofs.RLP Go.RowKit Go.Sort Go.Shelf
noncomputable section
def coRen:Ren:=⟨renPairs [(20,106)],renPairs [(0,0),(3,3),(4,4),(22,34)],λn=>n⟩
theorem compactLays:Lays2.n20 Tryz.prog coRen:=by
 constructor<;>first | kernel_rfl | (intro _;kernel_rfl)
section
variable {σ:Sg}
theorem row_put (sr:SR σ) {b:Nat} {es es':List (List AV)} {s:Nat} (hn:σ.h b=some (.cells es s 0)) {arr:Array Value} {t:TypeId} {rg:Nat×Nat} (harr:σ.w.heap[σ.r b]?=some (.cells arr t rg)) {cs:List AV} {vs:List Value}
 (hv:VRs σ cs vs) (hl:es'.length=es.length) (hs:∀e∈es',e.length=s) (hfl:es'.flatten=cs++es.flatten.drop cs.length) (hsz:vs.length<=arr.size) (n:Nat) (os:Array Obj) :
 ∃σ',σ'.w=Go.Sort.grow ((Go.Sort.ahead σ.w n).setCells (σ.r b) 0 vs) os/\σ'.h=upd σ.h b (some (.cells es' s 0))/\σ'.r=σ.r/\σ'.dead=σ.dead/\Le σ σ'/\SR σ':=by
 have b1:RowKit.Below σ.w.heap.size σ.w (Go.Sort.ahead σ.w n):=⟨rfl,rfl,rfl,Nat.le_refl _,λ_ _=>rfl⟩
 obtain ⟨l1,sr1⟩:=le_below sr b1 (I':=σ.I) (J':=σ.J) (λ_ _ h=>h) (λ_ _ h=>.inl h) (λ_ h=>h) (λ_ h=>.inl h)
 obtain ⟨l2,sr2⟩:=write_own (σ:={ σ with w:=Go.Sort.ahead σ.w n }) sr1 (n:=b) (es:=es) (es':=es') (s:=s) (fz:=0) hn (o:=0) (cs:=cs) (vs:=vs)
  (hv.mono l1) (by grind) (Nat.zero_le _) (by omega) (by omega) hs (arr:=arr) (t:=t) (rg:=rg) harr (by omega)
 have b3:=below_grow (Sg.write { σ with w:=Go.Sort.ahead σ.w n } b 0 vs (.cells es' s 0)).w os (Nat.le_refl _)
 obtain ⟨l3,sr3⟩:=le_below sr2 b3 (I':=σ.I) (J':=σ.J) (λ_ _ h=>h) (λ_ _ h=>.inl h) (λ_ h=>h) (λ_ h=>.inl h)
 refine ⟨_,?_,?_,?_,?_,(l1.trans sr1 l2 sr2).trans sr2 l3 sr3,sr3⟩<;>rfl
end
def intA (i:Int):List AV:=[.sc (.int .i64 i)]
theorem vrs_int {σ:Sg}:∀l:List Int,VRs σ (l.map intA).flatten (l.map (Value.int .i64))
 |[]=>.nil
 |_::l=>.cons (.tree (.sc rfl)) (vrs_int l)
theorem vrs_int_inv {σ:Sg}:∀{l:List Int} {vs:List Value},VRs σ (l.map intA).flatten vs->vs=l.map (Value.int .i64)
 |[],_,h=>by cases h;rfl
 |_::l,_,h=>by
  cases h with
  |cons h hs=>rw [(VR.sc_inv h).1,vrs_int_inv hs];rfl
theorem prs_int:∀{l:List Int} {zs:List (List AV)},PRss (l.map c_i64) zs->zs=l.map intA
 |[],_,h=>by cases h;rfl
 |_::l,_,h=>by
  cases h with
  |cons h hs=>
   cases h with
   |cons h h0=>
    cases h0
    cases h
    rw [prs_int hs]
    rfl
theorem prss_intA:∀l:List Int,PRss (l.map c_i64) (l.map intA)
 |[]=>.nil
 |_::l=>.cons (.cons .sc .nil) (prss_intA l)
theorem int_len (l:List Int):(l.map intA).flatten.length=l.length:=by
 induction l with
 |nil=>rfl
 |cons s l ih=>show (_::(l.map intA).flatten).length=_;grind
theorem int_row {f:FuncId} (hen:Enters P f) {H:Heap} {b g k:Nat} {cap:Option Nat} {a a2 d:List Int} {x:AV} (hlook:look H.objs b=some (.cells ((a++d).map intA) 1 0)) (hg:(a++d).length=g) (hk:a.length=k) (hz:a2.length=k)
 (key:∀(w:World) (blk c:Nat),Holds (Value.int .i64) w blk 0 a.toArray->blk<w.heap.size->k<=c->Calls P f #[.slice (some ⟨blk,0,none⟩) k c] w λe w'=>(∃v,e=.returned v/\((x=.sc (.tuple #[])/\v=.tuple #[])\/∃j,j<=k/\x=.sl b g 0 j cap/\v=.slice (some ⟨blk,0,none⟩) j c))/\∃n os,w'=Go.Sort.grow (putRow (Value.int .i64) (Go.Sort.ahead w n) blk 0 a2.toArray) os) :
 Valid2 P f [.sl b g 0 k cap] H (.ret x) ⟨put H.objs b (.cells ((a2++d).map intA) 1 0),H.next⟩:=by
 refine ⟨hen,?_⟩
 intro σ vs sr hσ hfr hv
 have hn:σ.h b=some (.cells ((a++d).map intA) 1 0):=by simp_all
 cases hv with
 |cons h1 hv=>
 cases hv
 obtain ⟨c,arr,t,rg,rfl,harr,_,hroom,hgc,hco⟩:=h1.sl_inv sr hn (by grind)
 obtain ⟨arr',t',rg',full,h1',hj,hrg,hfull,_,hle,hcells,hI0⟩:=sr.obj b _ hn
 rw [harr] at h1'
 cases h1'
 obtain rfl:=vrs_int_inv hfull
 have hsz:a.length+d.length<=arr.size:=by grind
 have hlt:=sr.lt b _ hn
 have hholds:Holds (Value.int .i64) σ.w (σ.r b) 0 a.toArray:=by
  intro j hjd
  have hjl:j<a.length:=by omega
  constructor
  ·rw [cell_of_heap harr]
   grind
  ·have:=hrg (0+j) (by omega)
   simp only [World.frozen?,harr]
   grind
 rw [show 0*1=0 from rfl]
 refine Calls.mono (key σ.w (σ.r b) c hholds hlt hgc) ?_
 rintro e w' ⟨⟨v,rfl,hx⟩,n,os,rfl⟩
 have hfl:((a2++d).map intA).flatten=(a2.map intA).flatten++((a++d).map intA).flatten.drop (a2.map intA).flatten.length:=by
  rw [List.map_append,List.map_append,List.flatten_append,List.flatten_append,int_len,hz,<-hk,<-int_len a,List.drop_left]
 obtain ⟨σ',q1,q2,q3,q4,q5,q6⟩:=row_put sr (es':=(a2++d).map intA) hn harr (vrs_int a2) (by grind) (λe he=>by obtain ⟨s,_,rfl⟩:=List.mem_map.1 he;rfl) hfl (by grind) n os
 have e1:=Lib.putRow_eq_setCells (Value.int .i64) σ.w (σ.r b) 0 a.toArray a2 n hholds (by grind)
 have ew:σ'.w=Go.Sort.grow (putRow (Value.int .i64) (Go.Sort.ahead σ.w n) (σ.r b) 0 a2.toArray) os:=by rw [q1,e1];rfl
 refine ⟨σ',ew,?_,q5,q6,Nat.le_refl _,λm hm=>.inl (.inr (by grind)),λk hk=>?_,?_⟩
 ·rw [q2]
  funext k
  rw [look_put,<-hσ]
  unfold upd
  grind
 ·obtain ⟨p1,p2⟩:=hfr k hk
  refine ⟨?_,by grind⟩
  rw [q2]
  unfold upd
  grind
 ·rcases hx with ⟨rfl,rfl⟩ | ⟨j,hj,rfl,rfl⟩
  ·exact .tree (.sc rfl)
  ·have hn':σ'.h b=some (.cells ((a2++d).map intA) 1 0):=by rw [q2];exact upd_same _ _ _
   have b1:σ'.w.heap[σ.r b]?=some (.cells (arrSet arr 0 (a2.map (Value.int .i64))) t rg):=by
    have hs:(σ.r b)<((Go.Sort.ahead σ.w n).setCells (σ.r b) 0 (a2.map (Value.int .i64))).heap.size:=by
     have:=heap_setCells (a2.map (Value.int .i64)) 0 (Go.Sort.ahead σ.w n) (σ.r b) arr t rg harr
     grind
    rw [q1]
    show (_++os)[_]?=_
    rw [Array.getElem?_append,if_pos hs]
    exact heap_setCells _ _ _ _ _ _ _ harr
   have hl2:((a2++d).map intA).length=g:=by grind
   have hkg:k<=g:=by omega
   have:=VR.sl (σ:=σ') (n:=b) (off:=0) (len:=j) (cap':=c) (cap:=cap) hn' (by rw [q3];exact b1) (by omega) (by grind [arrSet_size]) (by omega) (by grind)
   rw [hl2,q3,Nat.zero_mul] at this
   exact this
def sortI (l:List Int):List Int:=l.mergeSort λx y=>decide (x<=y)
theorem sortI_length (l:List Int):(sortI l).length=l.length:=List.length_mergeSort l
theorem sortI_mem {l:List Int} {x:Int}:x∈sortI l↔x∈l:=List.mem_mergeSort
theorem sortI_ord (l:List Int):(sortI l).Pairwise λx y=>x<=y:=by
 have:=List.pairwise_mergeSort (le:=λx y:Int=>decide (x<=y)) (λa b c h1 h2=>by grind) (λa b=>by grind) l
 exact this.imp (λh=>by grind)
theorem w169 (l:List Int) (hl:l.length<=1000000000):WTQ 105 [] 1 l c_i64 (λr=>r=sortI l):=by
 intro H x xs hfr hsh hx
 cases hx
 rcases hsh with ⟨rfl,he⟩ | ⟨b,g,cap,zs,rfl,hlook,hg,hz,hcap⟩
 ·obtain rfl:=List.map_eq_nil_iff.1 he
  have e0:sortI []=[]:=List.mergeSort_nil
  refine ⟨[],H,⟨[],rfl,e0.symm⟩,λe he=>(by cases he),?_,Nat.le_refl _,hfr,λk h=>.inl h,λ_ _ _=>rfl,.inl ⟨rfl,rfl⟩⟩
  refine ⟨⟨_,Tryz.func105,rfl,by rfl⟩,?_⟩
  intro σ vs sr hσ hfr hv
  cases hv with
  |cons h hv=>
  cases hv
  rw [(VR.sc_inv h).1]
  refine (Any.slices_Sort_int_none sortLays none 0 σ.w).mono ?_
  rintro e w' ⟨rfl,rfl⟩
  exact ⟨σ,rfl,hσ,Le.refl σ,sr,Nat.le_refl _,λm hm=>.inl (.inr hm),hfr,.tree (.sc rfl)⟩
 ·obtain rfl:=prs_int hz
  have hg':l.length=g:=by rw [<-hg,List.length_map]
  refine ⟨_,⟨put H.objs b (.cells ((sortI l).map intA) 1 0),H.next⟩,⟨sortI l,rfl,rfl⟩,lens_map (f:=c_i64) (λ_=>rfl),by have:=int_row (H:=H) (b:=b) (g:=g) (k:=g) (cap:=cap) (a:=l) (a2:=sortI l) (d:=[]) (x:=.sc (.tuple #[])) ⟨_,Tryz.func105,rfl,by rfl⟩ (by grind) (by grind) hg' ((sortI_length l).trans hg') (λw blk c h1 h2 h3=>by rw [<-hg'];exact (sort_run blk 0 c l w h1 h2 (by omega)).mono λe w' ⟨q1,q2⟩=>⟨⟨_,q1,.inl ⟨rfl,rfl⟩⟩,q2⟩);grind,Nat.le_refl _,λm hm=>?_,λk h=>?_,λk hk hnr=>?_,.inr ⟨b,g,cap,_,rfl,by rw [look_put,if_pos rfl],by grind [List.length_map,sortI_length],prss_intA _,hcap⟩⟩
  ·grind [look_put]
  ·grind [look_put]
  ·show look (put H.objs b _) k=_
   rw [look_put,if_neg (hnr _ _ _ _ _ rfl)]
theorem mem_compact {l:List Int} {x:Int} (h:x∈l):x∈Lib.compact l:=by
 obtain ⟨i,hi,rfl⟩:=List.getElem_of_mem h
 have key:∀(i:Nat) (hi:i<l.length),∃j,j<l.length/\Lib.keeps l.toArray j=true/\l[j]?=some l[i]:=by
  intro i
  induction i with
  |zero=>intro hi;exact ⟨0,hi,Lib.keeps_lt_one _ 0 (by omega),by simp⟩
  |succ i ih=>
   intro hi
   by_cases hk:Lib.keeps l.toArray (i+1)=true
   ·grind
   ·obtain ⟨j,h1,h2,h3⟩:=ih (by omega)
    refine ⟨j,h1,h2,h3.trans ?_⟩
    simp [Lib.keeps,hi,show i<l.length by omega] at hk
    simp [hk]
 obtain ⟨j,h1,h2,h3⟩:=key i hi
 unfold Lib.compact Lib.compactUpTo
 refine List.mem_map.2 ⟨j,List.mem_filter.2 ⟨List.mem_range.2 h1,h2⟩,?_⟩
 grind
theorem compact_mem {l:List Int} {x:Int} (h:x∈Lib.compact l):x∈l:=by
 unfold Lib.compact Lib.compactUpTo at h
 grind
theorem compact_ord {l:List Int} (h:l.Pairwise λx y=>x<=y):∀m,m<=l.length->(Lib.compactUpTo l.toArray m).Pairwise (λx y=>x<y)/\∀x∈Lib.compactUpTo l.toArray m,∃j,j<m/\l.toArray[m-1]!>=x
 |0,_=>by simp [Lib.compactUpTo]
 |m+1,hm=>by
  obtain ⟨h1,h2⟩:=compact_ord h m (by omega)
  have e:l.toArray[m]! = l[m]:=by simp [show m<l.length by omega]
  have le:∀x∈Lib.compactUpTo l.toArray m,l.toArray[m]!>=x:=λx hx=>by
   obtain ⟨j,hj,hq⟩:=h2 x hx
   have e':l.toArray[m-1]! = l[m-1]:=by simp [show m-1<l.length by omega]
   have:=List.pairwise_iff_getElem.1 h (m-1) m (by omega) (by omega) (by omega)
   omega
  rw [Lib.compactUpTo_succ]
  by_cases hk:Lib.keeps l.toArray m=true
  ·rw [if_pos hk]
   refine ⟨List.pairwise_append.2 ⟨h1,by simp,λx hx y hy=>?_⟩,λx hx=>⟨0,by omega,?_⟩⟩
   ·simp only [List.mem_singleton] at hy
    subst hy
    obtain ⟨j,hj,hq⟩:=h2 x hx
    have e':l.toArray[m-1]! = l[m-1]:=by simp [show m-1<l.length by omega]
    have:=List.pairwise_iff_getElem.1 h (m-1) m (by omega) (by omega) (by omega)
    simp only [Lib.keeps,decide_eq_true_eq] at hk
    have hne:l.toArray[m]!≠l.toArray[m-1]!:=hk.resolve_left (by omega)
    omega
   ·rw [List.mem_append,List.mem_singleton] at hx
    rcases hx with hx | rfl
    ·exact le x hx
    ·show l.toArray[m]!>=_
     exact Int.le_refl _
  ·rw [if_neg hk,List.append_nil]
   exact ⟨h1,λx hx=>⟨0,by omega,le x hx⟩⟩
theorem compact_nd {l:List Int} (h:l.Pairwise λx y=>x<=y):(Lib.compact l).Nodup:=(compact_ord h l.length (Nat.le_refl _)).1.imp λh=>by omega
def FrontOf (v:WV) (m k:Nat) (d:List Int):Prop:=(v=.row m/\d=[])\/∃cp,v=.win m 0 k cp
def frontW (m:Nat) (r:Option Nat):WV:=match r with | none=>undefW | some j=>.win m 0 j false
def frontA (b g:Nat) (c:Option Nat) (r:Option Nat):AV:=match r with | none=>.sc (.tuple #[]) | some j=>.sl b g 0 j c
def frontR (r:Option Nat) (p:Option Addr) (c:Nat):Value:=match r with | none=>.tuple #[] | some j=>.slice p j c
theorem front_call {f:FuncId} (hen:Enters P f) {v:WV} {m k rt:Nat} {a a2 d:List Int} {W:WH} {K:WK} (hv:FrontOf v m k d) (hlk:lk W.objs m=some (.row ((a++d).map c_i64) 1 false rt)) (hk:a.length=k) (ha2:a2.length=k) (r:Option Nat) (hr:∀j,r=some j->j<=k)
 (key0:k=0->∀(p:Option Addr) (c:Nat) (w:World),Calls P f #[.slice p 0 c] w λe w'=>e=.returned (frontR (r.map λ_=>0) p c)/\w'=w)
 (key:∀(w:World) (blk c:Nat),Holds (Value.int .i64) w blk 0 a.toArray->blk<w.heap.size->k<=c->Calls P f #[.slice (some ⟨blk,0,none⟩) k c] w λe w'=>e=.returned (frontR r (some ⟨blk,0,none⟩) c)/\∃n os,w'=Go.Sort.grow (putRow (Value.int .i64) (Go.Sort.ahead w n) blk 0 a2.toArray) os)
 (h:K (frontW m r) ⟨(m,.row ((a2++d).map c_i64) 1 false rt)::W.objs,W.nx⟩ ⟨[rt],[rt,GL]⟩):CallS P f [v] W K:=by
 refine ⟨λR H xs rh hx=>?_⟩
 cases hx with
 |cons h1 hx=>
 cases hx
 rename_i x
 obtain ⟨hlt,hal,hlen,hrow⟩:=rh.obj m _ hlk
 have hlens:∀e∈(a2++d).map c_i64,e.length=1:=lens_map λ_=>rfl
 have get:∀(o1:WO) n o',lk ((m,o1)::W.objs) n=some o'->(n=m/\o'=o1)\/(n≠m/\lk W.objs n=some o'):=λo1 n o' hn=>by
  grind [lk_cons]
 have none_:k=0->(∀(σ:Sg) (u:Value),SR σ->σ.h=look H.objs->VR σ x u->∃p c,u=.slice p 0 c)->(r≠none->WR R (.win m 0 0 false) x)->∃v' W' e y H' R',K v' W' e/\GL∈e.wr/\Valid2 P f [x] H (.ret y) H'/\R.Le R'/\WR R' v' y/\RelH R' W' H'/\Kept R W H R' W' H'/\∀ow,Owns ow R W->∃ow',(∀c,c<H.next->ow' c=ow c)/\Owns ow' R' W':=λhk0 hval hwr=>by
  subst hk0
  obtain rfl:=List.eq_nil_of_length_eq_zero hk
  obtain rfl:=List.eq_nil_of_length_eq_zero ha2
  have hsame:∀n o',lk ((m,WO.row (([]++d).map c_i64) 1 false rt)::W.objs) n=some o'->lk W.objs n=some o':=λn o' hn=>by
   grind
  have rel:RelH R ⟨(m,.row (([]++d).map c_i64) 1 false rt)::W.objs,W.nx⟩ H:=⟨rh.nx,λn o' hn=>rh.obj n _ (hsame n o' hn),λn1 n2 o1 o2 q1 q2 q3 q4 e=>rh.inj _ _ _ _ (hsame _ _ q1) (hsame _ _ q2) q3 q4 e,rh.fresh⟩
  have kp:Kept R W H R ⟨(m,.row (([]++d).map c_i64) 1 false rt)::W.objs,W.nx⟩ H:=⟨Nat.le_refl _,λ_ h=>.inl h,λk _ hu=>⟨rfl,λn o' hn hh=>hu n _ (hsame n o' hn) hh⟩⟩
  have valid:∀y,(∀(σ:Sg) (p:Option Addr) (c:Nat),VR σ x (.slice p 0 c)->OutR σ (.ret y) (.returned (frontR (r.map λ_=>0) p c)))->Valid2 P f [x] H (.ret y) H:=λy hy=>by
   refine ⟨hen,?_⟩
   intro σ vs sr hσ hfr hvs
   cases hvs with
   |cons hu hvs=>
   cases hvs
   obtain ⟨p,c,rfl⟩:=hval σ _ sr hσ hu
   refine (key0 rfl p c σ.w).mono ?_
   rintro e w' ⟨rfl,rfl⟩
   exact ⟨σ,rfl,hσ,Le.refl σ,sr,Nat.le_refl _,λm hm=>.inl (.inr hm),hfr,hy σ p c hu⟩
  cases r with
  |none=>exact ⟨_,_,_,.sc (.tuple #[]),H,R,h,by simp,valid _ λσ p c _=>.tree (.sc rfl),Rn.Le.refl R,.pure .sc,rel,kp,λow how=>⟨ow,λ_ _=>rfl,λn o' hn hh=>how n _ (hsame n o' hn) hh⟩⟩
  |some j=>
   obtain rfl:j=0:=Nat.le_zero.1 (hr j rfl)
   exact ⟨_,_,_,x,H,R,h,by simp,valid _ λσ p c hu=>hu,Rn.Le.refl R,hwr (by simp),rel,kp,λow how=>⟨ow,λ_ _=>rfl,λn o' hn hh=>how n _ (hsame n o' hn) hh⟩⟩
 have nilv:∀(σ:Sg) (u:Value),SR σ->σ.h=look H.objs->VR σ nilA u->∃p c,u=.slice p 0 c:=λσ u _ _ hu=>by
  rw [(VR.sc_inv hu).1];grind
 have islv:∀(b:Bool) (σ:Sg) (u:Value),SR σ->σ.h=look H.objs->VR σ (.isl [] b) u->∃p c,u=.slice p 0 c:=λb σ u _ _ hu=>by
  cases hu with
  |tree h=>cases h with | isl=>exact ⟨_,_,rfl⟩
  |stale h=>exact h.elim
 have main:∀(g:Nat) (cap c':Option Nat) (lo:Nat),R.av m=.sl (R.ob m) g 0 g cap->x=.sl (R.ob m) g lo k c'->(k≠0->lo=0)->lo+k<=g->(∀c,c'=some c->k<=c)->∃v' W' e y H' R',K v' W' e/\GL∈e.wr/\Valid2 P f [x] H (.ret y) H'/\R.Le R'/\WR R' v' y/\RelH R' W' H'/\Kept R W H R' W' H'/\∀ow,Owns ow R W->∃ow',(∀c,c<H.next->ow' c=ow c)/\Owns ow' R' W':=λg cap c' lo hav hxe hlo hlg hcc=>by
  rcases hrow with ⟨hav2,_⟩ | ⟨g2,cap2,zs,fz,hav2,hlook,hg,hz,hcap,hfz,hf0⟩
  ·rw [hav] at hav2;cases hav2
  rw [hav] at hav2
  cases hav2
  have hf0:=hf0 rfl
  subst hf0
  obtain rfl:=prs_int (leafs_prss (leafs_map (f:=c_i64) (λ_=>rfl) _) hz)
  have hg':(a++d).length=g:=by rw [<-hg,List.length_map]
  by_cases hk0:k=0
  ·subst hxe
   refine none_ hk0 (λσ u sr hσ hu=>?_) (λ_=>.win hlt λ_=>.inr ⟨g,cap,c',lo,hav,by rw [hk0],λh=>absurd rfl h,by omega,(λh=>by cases h),λc hc=>by omega⟩)
   obtain ⟨cc,arr,t,rg,rfl,_⟩:=hu.sl_inv sr (by rw [hσ];exact hlook) (by omega)
   grind
  obtain rfl:=hlo hk0
  subst hxe
  have hhm:hasO R m (.row ((a++d).map c_i64) 1 false rt):=λq=>by rw [hav] at q;cases q
  have hno:∀n o',n≠m->lk W.objs n=some o'->hasO R n o'->R.ob m≠R.ob n:=λn o' hne hn hh e=>hne (rh.inj n m _ _ hn hlk hh hhm e.symm)
  have hlk':∀k,look (put H.objs (R.ob m) (.cells ((a2++d).map intA) 1 0)) k=if R.ob m=k then some (.cells ((a2++d).map intA) 1 0) else look H.objs k:=λk=>look_put _ _ _ _
  have hl2:(a2++d).length=g:=by grind
  have v2:Valid2 P f [.sl (R.ob m) g 0 k c'] H (.ret (frontA (R.ob m) g c' r)) ⟨put H.objs (R.ob m) (.cells ((a2++d).map intA) 1 0),H.next⟩:=
   int_row hen hlook hg' hk ha2 λw blk c q1 q2 q3=>(key w blk c q1 q2 q3).mono λe w' ⟨h1,h2⟩=>by
    refine ⟨?_,h2⟩
    cases r with
    |none=>exact ⟨_,h1,.inl ⟨rfl,rfl⟩⟩
    |some j=>exact ⟨_,h1,.inr ⟨j,hr j rfl,rfl,rfl⟩⟩
  refine ⟨_,_,_,_,_,R,h,by simp,v2,Rn.Le.refl R,?_,?_,?_,λow how=>⟨ow,λ_ _=>rfl,λn o' hn hh=>?_⟩⟩
  ·cases r with
   |none=>exact .pure .sc
   |some j=>exact .win hlt λ_=>.inr ⟨g,cap,c',0,hav,rfl,λ_=>rfl,by grind,(λh=>by cases h),λc hc=>by grind⟩
  ·refine ⟨rh.nx,λn o' hn=>?_,λn1 n2 o1 o2 hn1 hn2 hh1 hh2 e=>?_,λk hk=>?_⟩
   ·rcases get _ n o' hn with ⟨rfl,rfl⟩ | ⟨q1,q2⟩
    ·exact ⟨hlt,hal,hlens,.inr ⟨g,cap,_,0,hav,by show look (put _ _ _) _=_;rw [hlk',if_pos rfl],by rw [List.length_map,hl2],(prss_intA _).wrss,hcap,Nat.zero_le _,λ_=>rfl⟩⟩
    ·obtain ⟨p1,p2,p3⟩:=rh.obj n _ q2
     exact ⟨p1,p2,p3.move (Rn.Le.refl R) rfl rfl λhh=>by show look (put _ _ _) _=_;rw [hlk',if_neg (hno n o' q1 q2 hh)]⟩
   ·have back:∀n o',lk ((m,WO.row ((a2++d).map c_i64) 1 false rt)::W.objs) n=some o'->hasO R n o'->∃o'',lk W.objs n=some o''/\hasO R n o'':=λn o' h1 h2=>by
     grind
    obtain ⟨p1,a1,b1⟩:=back _ _ hn1 hh1
    obtain ⟨p2,a2,b2⟩:=back _ _ hn2 hh2
    exact rh.inj _ _ _ _ a1 a2 b1 b2 e
   ·show look (put _ _ _) k=none
    rw [hlk',if_neg]
    ·exact rh.fresh k hk
    ·intro e
     have:=rh.fresh k hk
     grind
  ·refine ⟨Nat.le_refl _,λk hk=>.inl λe=>hk ?_,λk _ hu=>⟨?_,λn o' hn hh=>?_⟩⟩
   ·grind
   ·show look (put _ _ _) k=_
    rw [hlk',if_neg (hu m _ hlk hhm)]
   ·rcases get _ n o' hn with ⟨rfl,rfl⟩ | ⟨_,q⟩
    ·exact hu n _ hlk hhm
    ·exact hu n _ q hh
  ·rcases get _ n o' hn with ⟨rfl,rfl⟩ | ⟨_,q⟩
   ·have:=how n _ hlk hhm
    exact this
   ·exact how n _ q hh
 rcases hv with ⟨rfl,rfl⟩ | ⟨cp,rfl⟩
 ·have hxa:x=R.av m:=h1.row_inv.2.2 hal
  rcases hrow with ⟨hav,he⟩ | ⟨g,cap,zs,fz,hav,hlook,hg,hz,hcap,hfz,hf0⟩
  ·have hk0:k=0:=by grind [List.map_eq_nil_iff]
   rw [hav] at hxa
   subst hxa
   exact none_ hk0 nilv λ_=>.win hlt λ_=>.inl ⟨rfl,.inl rfl⟩
  ·have hgk:g=k:=by rw [<-hk,<-hg,<-(All2.length hz)];simp
   grind
 ·rcases h1.win_inv hal with ⟨hk0,rfl | ⟨b,rfl,_⟩⟩ | ⟨g,cap,c',lo',hav,hxe,w1,w2,_,w3⟩
  ·exact none_ hk0 nilv λ_=>.win hlt λ_=>.inl ⟨rfl,.inl rfl⟩
  ·exact none_ hk0 (islv b) λ_=>.win hlt λ_=>.inl ⟨rfl,.inr ⟨b,rfl,λh=>by cases h⟩⟩
  grind
theorem s169 {v:WV} {m k rt:Nat} {a d:List Int} {W:WH} {K:WK} (hv:FrontOf v m k d) (hlk:lk W.objs m=some (.row ((a++d).map c_i64) 1 false rt)) (hk:a.length=k) (hl:a.length<=1000000000)
 (h:K undefW ⟨(m,.row ((sortI a++d).map c_i64) 1 false rt)::W.objs,W.nx⟩ ⟨[rt],[rt,GL]⟩):CallS P 105 [v] W K:=by
 refine front_call ⟨_,Tryz.func105,rfl,by rfl⟩ hv hlk hk ((sortI_length a).trans hk) none (λ_ h=>by cases h) (λ_ p c w=>Any.slices_Sort_int_none sortLays p c w) (λw blk c h1 h2 _=>?_) h
 rw [<-hk]
 exact sort_run blk 0 c a w h1 h2 (by omega)
theorem s170 {v:WV} {m k rt:Nat} {a d:List Int} {W:WH} {K:WK} (hv:FrontOf v m k d) (hlk:lk W.objs m=some (.row ((a++d).map c_i64) 1 false rt)) (hk:a.length=k) (hl:a.length<=1000000000)
 (h:∀z d:List Int,z.length<=a.length->(∀x,x∈z↔x∈a)->(a.Pairwise (λx y=>x<=y)->z.Nodup)->K (.win m 0 z.length false) ⟨(m,.row ((z++d).map c_i64) 1 false rt)::W.objs,W.nx⟩ ⟨[rt],[rt,GL]⟩):CallS P 106 [v] W K:=by
 have hcl:=Lib.compact_length_le a
 have h':=h (Lib.compact a) (List.replicate (a.length-(Lib.compact a).length) 0++d) hcl (λ_=>⟨compact_mem,mem_compact⟩) compact_nd
 rw [<-List.append_assoc] at h'
 refine front_call (a2:=Lib.compact a++List.replicate (a.length-(Lib.compact a).length) 0) ⟨_,Tryz.func106,rfl,by rfl⟩ hv hlk hk (by grind) (some (Lib.compact a).length) (λj e=>by grind) (λ_ p c w=>Any.slices_Compact_int_empty compactLays p c w) (λw blk c h1 h2 hc=>?_) h'
 rw [<-hk] at hc ⊢
 refine (Any.slices_Compact_int compactLays blk 0 c a w h1 (by omega) hc).mono ?_
 rintro e w' ⟨rfl,q,rfl⟩
 exact ⟨rfl,q,#[],by rw [Go.Sort.grow_empty]⟩
section
variable {A B C D F:Prop} {m k rt:Nat} {a d:List Int} {W:WH} {K:WK}
theorem wCp (hlk:lk W.objs m=some (.row (a.map c_i64) 1 false rt)) (hl:a.length<=1000000000)
 (h:∀z d:List Int,z.length<=a.length->(∀x,x∈z↔x∈a)->(a.Pairwise (λx y=>x<=y)->z.Nodup)->K (.win m 0 z.length false) ⟨(m,.row ((z++d).map c_i64) 1 false rt)::W.objs,W.nx⟩ ⟨[rt],[rt,GL]⟩):A\/B\/C\/D\/CallS P 106 [.row m] W K\/F:=
 .inr (.inr (.inr (.inr (.inl (s170 (a:=a) (d:=[]) (.inl ⟨rfl,rfl⟩) (by grind) rfl hl h)))))
theorem wCw {cp:Bool} (hlk:lk W.objs m=some (.row ((a++d).map c_i64) 1 false rt)) (hk:a.length=k) (hl:a.length<=1000000000)
 (h:∀z d:List Int,z.length<=a.length->(∀x,x∈z↔x∈a)->(a.Pairwise (λx y=>x<=y)->z.Nodup)->K (.win m 0 z.length false) ⟨(m,.row ((z++d).map c_i64) 1 false rt)::W.objs,W.nx⟩ ⟨[rt],[rt,GL]⟩):A\/B\/C\/D\/CallS P 106 [.win m 0 k cp] W K\/F:=
 .inr (.inr (.inr (.inr (.inl (s170 (.inr ⟨cp,rfl⟩) hlk hk hl h)))))
theorem wSw {cp:Bool} (hlk:lk W.objs m=some (.row ((a++d).map c_i64) 1 false rt)) (hk:a.length=k) (hl:a.length<=1000000000)
 (h:K undefW ⟨(m,.row ((sortI a++d).map c_i64) 1 false rt)::W.objs,W.nx⟩ ⟨[rt],[rt,GL]⟩):A\/B\/C\/D\/CallS P 105 [.win m 0 k cp] W K\/F:=
 .inr (.inr (.inr (.inr (.inl (s169 (.inr ⟨cp,rfl⟩) hlk hk hl h)))))
theorem wCw0 {cp:Bool} (hlk:lk W.objs m=some (.row (a.map c_i64) 1 false rt)) (hk:a.length=k) (hl:a.length<=1000000000)
 (h:∀z d:List Int,z.length<=a.length->(∀x,x∈z↔x∈a)->(a.Pairwise (λx y=>x<=y)->z.Nodup)->K (.win m 0 z.length false) ⟨(m,.row ((z++d).map c_i64) 1 false rt)::W.objs,W.nx⟩ ⟨[rt],[rt,GL]⟩):A\/B\/C\/D\/CallS P 106 [.win m 0 k cp] W K\/F:=wCw (d:=[]) (by grind) hk hl h
theorem wSw0 {cp:Bool} (hlk:lk W.objs m=some (.row (a.map c_i64) 1 false rt)) (hk:a.length=k) (hl:a.length<=1000000000)
 (h:K undefW ⟨(m,.row ((sortI a).map c_i64) 1 false rt)::W.objs,W.nx⟩ ⟨[rt],[rt,GL]⟩):A\/B\/C\/D\/CallS P 105 [.win m 0 k cp] W K\/F:=wSw (d:=[]) (by rw [List.append_nil];exact hlk) hk hl (by grind)
end
theorem empV {f:FuncId} (hen:Enters P f) (r:WV) (key:∀x,PR (.lst []) x->∃y,PR r y/\∀(w:World) (I:Nat->Nat->Prop) (J:Nat->Prop) (p:Option Addr) (c:Nat),TV w I J x (.slice p 0 c)->Calls P f #[.slice p 0 c] w λe w'=>OutV w I J (.ret y) e/\w'=w):WValid P f [.lst []] (λz=>z=r):=by
 intro xs hxs
 obtain ⟨x,rfl,hx⟩:=prs_one hxs
 clear hxs
 obtain ⟨y,hy,key⟩:=key x hx
 refine ⟨r,y,hy,rfl,hen,λw I J vs hI hJ hvs=>?_⟩
 cases hvs with
 |cons hu hvs=>
 cases hvs
 rename_i u
 obtain ⟨p,c,rfl⟩:∃p c,u=.slice p 0 c:=by
  cases hx with
  |emp=>cases hu;grind
  |lst h=>
   cases h
   cases hu
   simp_all
 refine (key w I J p c hu).mono ?_
 grind [RowKit.Below.refl]
theorem w169e:WQv 105 [.lst []] (λ_:Unit=>undefW) λ_=>True:=λxs hx=>by
 obtain ⟨r,y,h1,rfl,h2⟩:=empV ⟨_,Tryz.func105,rfl,by rfl⟩ undefW (λx _=>⟨.sc (.tuple #[]),.sc,λw I J p c _=>(Any.slices_Sort_int_none sortLays p c w).mono (by rintro e w' ⟨rfl,rfl⟩;exact ⟨.sc rfl,rfl⟩)⟩) xs hx
 grind
theorem w170e:WQv 106 [.lst []] (λ_:Unit=>.lst []) λ_=>True:=λxs hx=>by
 obtain ⟨r,y,h1,rfl,h2⟩:=empV ⟨_,Tryz.func106,rfl,by rfl⟩ (.lst []) (λx hx=>⟨x,hx,λw I J p c hu=>(Any.slices_Compact_int_empty compactLays p c w).mono (by rintro e w' ⟨rfl,rfl⟩;exact ⟨hu,rfl⟩)⟩) xs hx
 grind
theorem wnE {α:Type} {z d:List α} {f:α->List WV} {X:List (List WV)->Prop} (hl:∀a,(f a).all leafB=true) (h:X (z.map f)):leafs ((z++d).map f)/\∃zs,(((z++d).map f).drop 0).take z.length=zs/\X zs:=
 ⟨leafs_map hl _,_,by rw [List.drop_zero,<-List.map_take,List.take_left],h⟩
end
end Go.Abs.RM
end
section
namespace Go.Abs.RM
open Go.Proofs
def VT:Value->Prop:=λv=>v=.bool true
def VI:Value->Prop:=λv=>∃n:Int,v=.int .i64 n
def GV {β:Type} (en:β->WV) (Q:Int->β->Prop):Value->AV->Prop:=λk x=>∃a b,k=.int .i64 a/\PR (en b) x/\Q a b
section
variable {β:Type} {en:β->WV} {Q:Int->β->Prop} {a:Int} {z:Value} {K:WV->Prop} {X Y:Prop} {fs:List Int}
theorem gv_keys {k:Value} {x:AV} (h:GV en Q k x):∃b,sameKey (.int .i64 a) k=some b/\(b=true->k=.int .i64 a):=by
 obtain ⟨c,b,rfl,_,_⟩:=h
 refine ⟨a==c,by simp [sameKey],λe=>?_⟩
 rw [eq_of_beq e]
theorem lkT (h1:∀b,Q a b->K (.tup [en b,.sc (.bool true)])) (h2:K (.tup [.sc z,.sc (.bool false)])):(∀k x,GV en Q k x->∃b,sameKey (.int .i64 a) k=some b/\(b=true->k=.int .i64 a))/\bagK (GV en Q) (.int .i64 a) z true K:=
 ⟨λ_ _=>gv_keys,λx ⟨c,b,e,hp,hq⟩=>by cases e;exact ⟨_,hp,h1 b hq⟩,h2⟩
theorem lkF (h1:∀b,Q a b->K (en b)) (h2:K (.sc z)):(∀k x,GV en Q k x->∃b,sameKey (.int .i64 a) k=some b/\(b=true->k=.int .i64 a))/\bagK (GV en Q) (.int .i64 a) z false K:=
 ⟨λ_ _=>gv_keys,λx ⟨c,b,e,hp,hq⟩=>by cases e;exact ⟨_,hp,h1 b hq⟩,h2⟩
theorem upG (b:β) {xw:WV} (e:xw=en b) (hl:leafB xw=true) (hq:Q a b) (h:X):leafB xw=true/\(∀k x,GV en Q k x->∃b,sameKey (.int .i64 a) k=some b/\(b=true->k=.int .i64 a))/\(∀x,PR xw x->GV en Q (.int .i64 a) x)/\X:=
 ⟨hl,λ_ _=>gv_keys,λx hx=>⟨a,b,rfl,e ▸ hx,hq⟩,h⟩
def insI (fs:List Int) (a:Int):List Int:=if a∈fs then fs else fs++[a]
theorem hasI (fs:List Int) (a:Int):hasK (.int .i64 a) (fs.map (Value.int .i64))=some (decide (a∈fs)):=by
 have:∀(l:List Int) (i:Nat),(findK (.int .i64 a) (l.map (Value.int .i64)) i).map Option.isSome=some (decide (a∈l)):=by
  intro l
  induction l with
  |nil=>intro i;rfl
  |cons b t ih=>
   intro i
   simp only [List.map_cons,findK,sameKey,if_true]
   cases h:(a==b) with
   |true=>have:=eq_of_beq h;simp [this]
   |false=>
    have hne:a≠b:=by simpa using h
    simpa [hne] using ih (i+1)
 exact this fs 0
theorem insI_ok (fs:List Int) (a:Int):insK (.int .i64 a) (fs.map (Value.int .i64))=some ((insI fs a).map (Value.int .i64)):=by
 unfold insK insI
 rw [hasI]
 by_cases h:a∈fs<;>simp [h]
theorem lkV {V X:Value->Prop} (h1:a∈fs->∀v,V v->X v) (h2:a∉fs->Y):∃b,hasK (.int .i64 a) (fs.map (Value.int .i64))=some b/\both b (∀v,V v->X v) Y:=by
 refine ⟨_,hasI fs a,?_⟩
 by_cases h:a∈fs
 ·simpa [h,both] using h1 h
 ·simpa [h,both] using h2 h
theorem lkS {X:Value->Prop} (h1:a∈fs->X (.bool true)) (h2:a∉fs->Y):∃b,hasK (.int .i64 a) (fs.map (Value.int .i64))=some b/\both b (∀v,VT v->X v) Y:=lkV (λh v e=>by subst e;exact h1 h) h2
theorem lkI {X:Value->Prop} (h1:∀n:Int,a∈fs->X (.int .i64 n)) (h2:a∉fs->Y):∃b,hasK (.int .i64 a) (fs.map (Value.int .i64))=some b/\both b (∀v,VI v->X v) Y:=lkV (λh v ⟨n,e⟩=>by subst e;exact h1 n h) h2
theorem upS {V:Value->Prop} {xv:Value} {X:List Value->Prop} (fs:List Int) (hv:V xv) (h:X ((insI fs a).map (Value.int .i64))):V xv/\∃ks',insK (.int .i64 a) (fs.map (Value.int .i64))=some ks'/\X ks':=
 ⟨hv,_,insI_ok fs a,h⟩
theorem ins_new (h:a∉fs):insI fs a=fs++[a]:=if_neg h
theorem nodup_snoc (h:fs.Nodup) (ha:a∉fs):(fs++[a]).Nodup:=by
 rw [List.nodup_append]
 exact ⟨h,by simp,λx hx y hy e=>by simp at hy;subst hy e;exact ha hx⟩
end
theorem upN {V:Value->Prop} {xv:Value} {a:Int} {X:List Value->Prop} (fs:List Int) (ha:a∉fs) (hv:V xv) (h:X ((fs++[a]).map (Value.int .i64))):V xv/\∃ks',insK (.int .i64 a) (fs.map (Value.int .i64))=some ks'/\X ks':=by
 refine upS fs hv ?_
 rw [ins_new ha]
 exact h
theorem ids_le {l:List S65} {fs:List Int} (h1:fs.Nodup) (h2:∀x∈fs,∃e∈l,e.f0=x):fs.length<=l.length:=by
 have:=nodup_le (m:=l.map S65.f0) h1 λx hx=>by obtain ⟨e,he,rfl⟩:=h2 x hx;exact List.mem_map_of_mem he
 simpa using this
theorem reach_m {n a b:Nat} {lt nl:List Int} (h:0<(nl.length:Int)) (hb:b<=n) (hab:a<=b) (he:b=a->lt=[]):2*(n-b)+(if lt=[] then 0 else 1)<2*(n-a)+(if nl=[] then 0 else 1):=by
 have hn:nl≠[]:=λe=>by rw [e] at h;simp at h
 rw [if_neg hn]
 by_cases q:b=a
 ·rw [if_pos (he q)];omega
 ·split<;>omega
def GI (l:List S65):Value->AV->Prop:=GV (λi:Int=>.sc (.int .i64 i)) λa i=>0<=i/\i<(l.length:Int)/\∃e,l[i.toNat]?=some e/\e.f0=a
def getI (l:List S65) (a:Int):Option S65:=l.find? λe=>e.f0==a
theorem getI_at {l:List S65} {a:Int} {i:Nat} {e:S65} (h:l[i]?=some e) (he:e.f0=a) (hn:∀j x,j<i->l[j]?=some x->x.f0≠a):getI l a=some e:=by
 obtain ⟨hi,he'⟩:=List.getElem?_eq_some_iff.1 h
 unfold getI
 rw [List.find?_eq_some_iff_getElem]
 refine ⟨by simpa using he,i,hi,he',λj hj=>?_⟩
 have:=hn j l[j] hj (by simp [Nat.lt_trans hj hi])
 simpa using this
theorem getI_no {l:List S65} {a:Int} (h:∀x∈l,x.f0≠a):getI l a=none:=by
 unfold getI
 rw [List.find?_eq_none]
 intro x hx
 simpa using h x hx
theorem getI_mem {l:List S65} {a:Int} {e:S65} (h:getI l a=some e):e∈l/\e.f0=a:=⟨List.mem_of_find?_eq_some h,by simpa using List.find?_some h⟩
theorem ix_snoc {α:Type} {l:List α} {φ:α->Prop} {p:Int} {x:α} (i0:0<=p) (hx:l[p.toNat]?=some x) (h:∀(j:Nat) e,l[j]?=some e->(j:Int)<p->φ e) (hq:φ x):∀(j:Nat) e,l[j]?=some e->(j:Int)<p+1->φ e:=λj e he hj=>by
 by_cases q:(j:Int)<p
 ·exact h j e he q
 ·obtain rfl:j=p.toNat:=by omega
  rw [hx] at he;cases he;exact hq
theorem get_of {l:List S65} {a r:Int} (h:(-1<=r/\r<(l.length:Int))/\(0<=r->∃e,l[r.toNat]?=some e/\(true=true↔e.f0=a))/\∀(j:Nat) e,l[j]?=some e->(j:Int)<r\/r<0->(false=true↔e.f0=a)) :
 (-1<=r/\r<(l.length:Int))/\(0<=r->∃e,l[r.toNat]?=some e/\getI l a=some e)/\(r<0->getI l a=none):=by
 obtain ⟨h1,h2,h3⟩:=h
 refine ⟨h1,λh0=>?_,λh0=>getI_no λx hx=>?_⟩
 ·obtain ⟨e,he,hf⟩:=h2 h0
  exact ⟨e,he,getI_at he (hf.1 rfl) λj x hj hx e'=>by have:=(h3 j x hx (.inl (by omega))).2 e';cases this⟩
 ·obtain ⟨j,hj,rfl⟩:=List.getElem_of_mem hx
  exact λe'=>by have:=(h3 j _ (List.getElem?_eq_getElem hj) (.inr h0)).2 e';cases this
theorem know_snoc {l:List S65} {z r r':List Int} {p:Int} {x:Int} (i0:0<=p) (i1:p<=(z.length:Int)) (hx:z[p.toNat]?=some x) (h:∀x,x∈r↔x∈z.take p.toNat/\∃e,getI l x=some e) (hl:z.length<=1000000000) (hr:(r'=r++[x]/\∃e,getI l x=some e)\/(r'=r/\∀e,getI l x≠some e)):∀y,y∈r'↔y∈z.take (nx p).toNat/\∃e,getI l y=some e:=λy=>by
 rw [nx_eq (by omega) (by omega)]
 have e1:(p+1).toNat=p.toNat+1:=by omega
 rw [e1,List.take_succ,hx]
 rcases hr with ⟨rfl,hk⟩ | ⟨rfl,hk⟩
 ·simp only [List.mem_append,h y,Option.toList_some,List.mem_singleton]
  constructor
  ·rintro (⟨a,b⟩ | rfl)
   ·exact ⟨.inl a,b⟩
   ·exact ⟨.inr rfl,hk⟩
  ·rintro ⟨a | a,b⟩
   ·exact .inl ⟨a,b⟩
   ·exact .inr a
 ·simp only [List.mem_append,h y,Option.toList_some,List.mem_singleton]
  constructor
  ·rintro ⟨a,b⟩;exact ⟨.inl a,b⟩
  ·rintro ⟨a | rfl,b⟩
   ·exact ⟨a,b⟩
   ·obtain ⟨e,he⟩:=b;exact absurd he (hk e)
theorem know_end {l:List S65} {z r a:List Int} {p:Int} (i1:p<=(z.length:Int)) (hn:¬p<(z.length:Int)) (h:∀x,x∈r↔x∈z.take p.toNat/\∃e,getI l x=some e) (hz:∀x,x∈z↔x∈a):∀x,x∈r↔x∈a/\∃e,getI l x=some e:=λx=>by
 rw [h x,List.take_of_length_le (by omega),hz x]
end Go.Abs.RM
end
section
namespace Go.Abs.RM
open Go.Proofs
def Kn (l:List S65) (x:Int):Prop:=∃e,getI l x=some e
inductive Reach (l:List S65) (h:List Int):Int->Prop
 |base {x:Int} (a:x∈h) (b:Kn l x):Reach l h x
 |step {x y:Int} {e:S65} (a:Reach l h y) (b:getI l y=some e) (c:x∈e.f8++e.f9) (d:Kn l x):Reach l h x
theorem ids_le' {l:List S65} {fs:List Int} (h1:fs.Nodup) (h2:∀x∈fs,Kn l x):fs.length<=l.length:=ids_le h1 λx hx=>by obtain ⟨e,he⟩:=h2 x hx;exact ⟨e,getI_mem he⟩
theorem lv_le {l:List S65} {fs fs2 lv:List Int} (e:fs2=fs++lv) (h1:fs2.Nodup) (h2:∀x∈fs2,Kn l x):fs.length+lv.length<=l.length:=by
 have:=ids_le' h1 h2
 subst e
 simpa using this
theorem ev_of {l:List S65} {x:Int} {z:S65×Bool} (hk:Kn l x) (hz:(z.2=true->z.1∈l/\z.1.f0=x)/\(z.2=true->getI l x=some z.1)/\(z.2=false->getI l x=none)):getI l x=some z.1/\z.1∈l/\z.1.f0=x:=by
 obtain ⟨e,he⟩:=hk
 cases h:z.2 with
 |false=>rw [hz.2.2 h] at he;cases he
 |true=>exact ⟨hz.2.1 h,(hz.1 h).1,(hz.1 h).2⟩
theorem eb_of {l:List S65} {x:Int} {z:S65×Bool} (g:∀e∈l,EB e) (hk:Kn l x) (hz:(z.2=true->z.1∈l/\z.1.f0=x)/\(z.2=true->getI l x=some z.1)/\(z.2=false->getI l x=none)):z.1.f8.length<=10/\z.1.f9.length<=8:=by
 have:=g _ (ev_of hk hz).2.1
 exact ⟨this.2.2.2.1,this.2.2.2.2.1⟩
theorem snoc_all {α:Type} {φ:α->Prop} {fs:List α} {a:α} (h:∀x∈fs,φ x) (ha:φ a):∀x∈fs++[a],φ x:=λx hx=>by
 rcases List.mem_append.1 hx with q | q
 ·exact h x q
 ·rw [List.mem_singleton.1 q];exact ha
theorem app_snoc {fs fs2 lv:List Int} {a:Int} (e:fs2=fs++lv):fs2++[a]=fs++(lv++[a]):=by rw [e,List.append_assoc]
theorem mea_lv {l:List S65} {fs fs2 lv:List Int} (e:fs2=fs++lv) (h:¬(lv.length:Int)=0) (h1:fs2.Nodup) (h2:∀x∈fs2,Kn l x):l.length-fs2.length<l.length-fs.length:=by
 have:=lv_le e h1 h2
 have e2:fs2.length=fs.length+lv.length:=by rw [e,List.length_append]
 omega
theorem mem_lv {fs fs2 lv:List Int} {i:Nat} {y:Int} (e:fs2=fs++lv) (h:lv[i]?=some y):y∈fs2:=by
 subst e;exact List.mem_append_right _ (List.mem_of_getElem? h)
theorem ix_next {α:Type} {l:List α} {φ:α->Prop} {p:Int} {x:α} (i0:0<=p) (i1:p<=1000000000) (hx:l[p.toNat]?=some x) (h:∀(j:Nat) e,l[j]?=some e->(j:Int)<p->φ e) (hq:φ x):∀(j:Nat) e,l[j]?=some e->(j:Int)<nx p->φ e:=by
 rw [nx_eq (by omega) (by omega)]
 exact ix_snoc i0 hx h hq
theorem ix_all {α:Type} {l:List α} {φ:α->Prop} {p:Int} (h:∀(j:Nat) e,l[j]?=some e->(j:Int)<p->φ e) (hp:¬p<(l.length:Int)):∀x∈l,φ x:=λx hx=>by
 obtain ⟨j,hj,rfl⟩:=List.getElem_of_mem hx
 exact h j _ (List.getElem?_eq_getElem hj) (by omega)
theorem mea_sn {l:List S65} {s:List Int} {a:Int} (h1:(s++[a]).Nodup) (h2:∀x∈s++[a],Kn l x):l.length+1-(s++[a]).length<l.length+1-s.length:=by
 have:=ids_le' h1 h2
 simp only [List.length_append,List.length_singleton] at *
 omega
theorem len_sn {l:List S65} {s o:List Int} {a:Int} (h:o.length<=s.length) (h1:(s++[a]).Nodup) (h2:∀x∈s++[a],Kn l x):(o++[a]).length<=l.length:=by
 have:=ids_le' h1 h2
 simp only [List.length_append,List.length_singleton] at *
 omega
end Go.Abs.RM
end
section
namespace Go.Abs.RM
open Go.Proofs
def GS (b:Nat):Value->AV->Prop:=GV (λs:List S71=>.lst (s.map S71.c)) λ_ s=>s.length<=b
def GE:Value->AV->Prop:=GV (λe:Int=>.sc (.int .i64 e)) λ_ _=>True
def sb (n:Nat):Nat:=Nat.rec 0 (λ_ m=>2*m+26) n
theorem sb_s (n:Nat):sb (n+1)=2*sb n+26:=rfl
theorem sb_mono {n m:Nat} (h:n<=m):sb n<=sb m:=by
 induction m with
 |zero=>obtain rfl:n=0:=by omega
        exact Nat.le_refl _
 |succ m ih=>
  by_cases q:n=m+1
  ·subst q;exact Nat.le_refl _
  ·have:=ih (by omega);rw [sb_s];omega
theorem sb_le {n:Nat} (h:n<=12):sb n<=110000:=Nat.le_trans (sb_mono h) (by decide)
theorem sb_nx {p:Int} (h0:0<=p) (h1:p<=1000):sb (nx p).toNat=2*sb p.toNat+26:=by
 rw [nx_eq (by omega) (by omega),show (p+1).toNat=p.toNat+1 by omega,sb_s]
theorem sb_nx_le {p:Int} (h0:0<=p) (h1:p<=1000):2*sb p.toNat+26<=sb (nx p).toNat:=Nat.le_of_eq (sb_nx h0 h1).symm
theorem gs_mono {b c:Nat} (h:b<=c):∀k x,GS b k x->GS c k x:=λ_ _ ⟨a,s,e,hp,hq⟩=>⟨a,s,e,hp,Nat.le_trans hq h⟩
def tabE (r:Option Nat):WV:=match r with
 |none=>.sc (.pointer none)
 |some b=>.ipt [.imb (GS b),.imb (GS b),.imb GE]
section
variable {α β:Type} {en:β->WV} {Q:Int->β->Prop} {a:Int} {z:Value} {X Y:Prop}
theorem wTo {g:FuncId} {args:List WV} {en:Option α->WV} {Q:Option α->Prop} {X:WV->Prop} {Y:Prop} (ok:WQv g args en Q) (h0:Q none->X (en none)) (h1:∀b,Q (some b)->X (en (some b))):(∃G,WValid P g args G/\∀v,G v->X v)\/Y:=
 .inl ⟨_,ok,λv ⟨r,e,q⟩=>by subst e;cases r with | none=>exact h0 q | some b=>exact h1 b q⟩
theorem enG (b:β) (Q':Int->β->Prop) {K:(Value->AV->Prop)->Nat->WV->Prop} (hm:∀a b,Q a b->Q' a b) (hp:PR (en b) (.sc z)) (hl:leafB (.sc z)=true) (hq:Q' a b) (h:∀(n:Nat) v,K (GV en Q') n v):∃G:Value->AV->Prop,(∀k x,GV en Q k x->G k x)/\(∀k x,G k x->∃b,sameKey (.int .i64 a) k=some b/\(b=true->k=.int .i64 a))/\leafB (.sc z)=true/\G (.int .i64 a) (.sc z)/\∀(n:Nat) v,K G n v:=
 ⟨GV en Q',λ_ _ ⟨a,b,e,h1,h2⟩=>⟨a,b,e,h1,hm a b h2⟩,λ_ _=>gv_keys,hl,⟨a,b,rfl,hp,hq⟩,h⟩
theorem esG (b:β) {m:Nat} {pe:List (Nat×Value)} {xw:WV} (e:xw=en b) (hl:leafB xw=true) (hq:Q a b) (h:X):leafB xw=true/\∃(n:Nat) (kv:Value),Value.int .i64 (m:Int)=.int .i64 n/\(n,kv)∈(m,Value.int .i64 a)::pe/\(∀x,PR xw x->GV en Q kv x)/\X:=
 ⟨hl,m,_,rfl,List.mem_cons_self ..,λx hx=>⟨a,b,rfl,e ▸ hx,hq⟩,h⟩
end
theorem eb_or {l:List S65} {e:S65} (h:∀e∈l,EB e) (hz:e∈l\/e=ze65):EB e:=by
 rcases hz with hz | rfl
 ·exact h _ hz
 ·unfold EB CB;decide
end Go.Abs.RM
namespace Go.Abs.RM
open Go.Proofs
noncomputable section
structure S468 where
 f0:Int
 f1:Int
 f2:Int
 f3:List Int
 deriving Inhabited
def S468.c (e:S468):List WV:=[.sc (.int .i64 e.f0),.sc (.int .i64 e.f1),.sc (.int .i64 e.f2),.lst (e.f3.map c_i64)]
structure S472 where
 f0:Int
 f1:Int
 f2:Int
 deriving Inhabited
def S472.c (e:S472):List WV:=[.sc (.int .i64 e.f0),.sc (.int .i64 e.f1),.sc (.int .i64 e.f2)]
end
def Fr (φ:Int->Prop) (l o:List Int) (p:Int):Prop:=o.Nodup/\∀x∈o,φ x/\x∈l.take p.toNat
section
variable {φ:Int->Prop} {l o:List Int} {p x:Int}
theorem fr0:Fr φ l [] 0:=⟨List.nodup_nil,λ_ h=>by cases h⟩
theorem fr_skip (i0:0<=p) (i1:p<=1000000000) (h:Fr φ l o p):Fr φ l o (nx p):=by
 rw [nx_eq (by omega) (by omega)]
 exact ⟨h.1,λx hx=>⟨(h.2 x hx).1,by
  have:=(h.2 x hx).2
  rw [show (p+1).toNat=p.toNat+1 by omega,List.take_add_one]
  exact List.mem_append_left _ this⟩⟩
theorem fr_snoc (hl:l.Nodup) (i0:0<=p) (i1:p<=1000000000) (hx:l[p.toNat]?=some x) (h:Fr φ l o p) (hq:φ x):Fr φ l (o++[x]) (nx p):=by
 obtain ⟨h1,h2⟩:=fr_skip i0 i1 h
 obtain ⟨hi,hx'⟩:=List.getElem?_eq_some_iff.1 hx
 refine ⟨nodup_snoc h1 λhm=>?_,λy hy=>?_⟩
 ·have:=(h.2 x hm).2
  obtain ⟨j,hj,hjx⟩:=List.getElem_of_mem this
  rw [List.length_take] at hj
  rw [List.getElem_take] at hjx
  have:=(List.getElem_inj (xs:=l) (i:=j) (j:=p.toNat) (h₀:=by omega) (h₁:=hi) hl).1 (by rw [hjx,hx'])
  omega
 ·rcases List.mem_append.1 hy with hy | hy
  ·exact h2 y hy
  ·obtain rfl:=List.mem_singleton.1 hy
   refine ⟨hq,?_⟩
   rw [nx_eq (by omega) (by omega),show (p+1).toNat=p.toNat+1 by omega,List.take_add_one,hx]
   exact List.mem_append_right _ (by simp)
theorem fr_map {α:Type} {f:α->Int} {os:List α} {e:α} (he:f e=x) (h:Fr φ l (os.map f++[x]) p):Fr φ l ((os++[e]).map f) p:=by
 rw [List.map_append];subst he;exact h
theorem fr_len {a:List S65} (h:Fr (Kn a) l o p):o.length<=a.length:=ids_le' h.1 λx hx=>(h.2 x hx).1
theorem fr_lenM {a:List S65} {α:Type} {f:α->Int} {os:List α} (h:Fr (Kn a) l (os.map f) p):os.length<=a.length:=by
 have:=fr_len h
 rwa [List.length_map] at this
theorem swap_perm {α:Type} {l r:List α} {i j:Nat} {a b:α} (h:l.Perm r) (h1:l[i]?=some a) (h2:l[j]?=some b):((l.set j a).set i b).Perm r:=by
 obtain ⟨hi,rfl⟩:=List.getElem?_eq_some_iff.1 h1
 obtain ⟨hj,rfl⟩:=List.getElem?_eq_some_iff.1 h2
 exact (List.set_set_perm hj hi).trans h
theorem nd_adj {α:Type} {f:α->Int} {l:List α} {i j:Nat} {a b:α} (h:(l.map f).Nodup) (h1:l[i]?=some a) (h2:l[j]?=some b) (hij:i≠j):f a≠f b:=λe=>by
 obtain ⟨hi,rfl⟩:=List.getElem?_eq_some_iff.1 h1
 obtain ⟨hj,rfl⟩:=List.getElem?_eq_some_iff.1 h2
 have:=(List.getElem_inj (xs:=l.map f) (i:=i) (j:=j) (h₀:=by simpa using hi) (h₁:=by simpa using hj) h).1 (by simpa using e)
 exact hij this
end
section
variable {α:Type} {f:α->List WV} {l:List α} {s:Nat}
theorem slT {h m:Int} {K:List (List WV)->Prop} (hl:∀a,(f a).length=s) (h0:0<=h) (h1:h<=(l.length:Int)) (e:m=h) (hx:K ((l.take h.toNat).map f)):(∀x∈l.map f,x.length=s)/\0<=h/\h<=((l.map f).length:Int)/\m=h/\∃zs,(l.map f).take h.toNat=zs/\K zs:=
 ⟨lens_map hl,h0,by rw [List.length_map];exact h1,e,_,List.map_take.symm,hx⟩
theorem slD {lo:Int} {K:List (List WV)->Prop} (hl:∀a,(f a).length=s) (h0:0<=lo) (h1:lo<=(l.length:Int)) (hx:K ((l.drop lo.toNat).map f)):(∀x∈l.map f,x.length=s)/\0<=lo/\lo<=((l.map f).length:Int)/\∃zs,((l.map f).drop lo.toNat).take ((l.map f).length-lo.toNat)=zs/\K zs:=
 ⟨lens_map hl,h0,by rw [List.length_map];exact h1,_,by rw [List.take_of_length_le (by simp),<-List.map_drop],hx⟩
theorem mem_cut {x:α} {i j:Nat} (h:x∈l.take i++l.drop j):x∈l:=by
 rcases List.mem_append.1 h with h | h
 ·exact List.mem_of_mem_take h
 ·exact List.mem_of_mem_drop h
end
theorem no12 {n:Nat} (h:¬IntKind.i64.wrap ((n:Int)-0)<=12) (hn:n<=12):False:=by
 rw [wrap_i64 (by omega) (by omega)] at h
 omega
theorem hd_ne {a b:S472} (h:S472.f0 a≠S472.f0 b):¬hdSame (S472.c a) (S472.c b):=λq=>by
 have q:(if IntKind.i64=.i64 then some (a.f0==b.f0) else none)=some true:=q
 simp only [if_true] at q
 exact h (eq_of_beq (Option.some.inj q))
theorem ne_pred {k:Int} (h0:1<=k) (h1:k<=1000000000):k.toNat≠(IntKind.i64.wrap (k-1)).toNat:=by
 rw [wrap_i64 (by omega) (by omega)]
 omega
theorem nd_perm {α:Type} {f:α->Int} {l r:List α} (h:r.Perm l) (hn:(l.map f).Nodup):(r.map f).Nodup:=(h.map f).nodup_iff.2 hn
def mid (i j:Int):Int:=IntKind.i64.wrap ((IntKind.u64.wrap (IntKind.i64.wrap (i+j))).fdiv (2 ^ min (Int.toNat 1) IntKind.u64.bits))
theorem mid_ok {i j n:Int} (h0:0<=i) (h1:i<j) (h2:j<=n) (h3:n<=1000000000):i<=mid i j/\mid i j<j:=by
 unfold mid
 have e:(2:Int) ^ min (Int.toNat 1) IntKind.u64.bits=2:=rfl
 have e2:IntKind.u64.wrap (IntKind.i64.wrap (i+j))=i+j:=by
  rw [wrap_i64 (by omega) (by omega)]
  show (i+j) % 2 ^ 64=_
  omega
 rw [e,e2,Int.fdiv_eq_ediv_of_nonneg _ (by decide),wrap_i64 (by omega) (by omega)]
 omega
section
variable {α:Type} {f:α->List WV} {a:List α} {es:List (List WV)} {s:Nat}
theorem wCopy {X:Int->Prop} {Y:Int->List (List WV)->Prop} (hc:∀a,(f a).length=s/\(f a).all storableW=true) (hl:es.length=a.length) (h0:a=[]->∀n,X n) (h:∀n,Y n (a.map f)):cellP s (a.map f)/\(a.map f=[]\/es=[]->∀n,X n)/\(a.map f≠[]->es≠[]->∃zs,(a.map f).take es.length++es.drop (a.map f).length=zs/\∀n,Y n zs):=
 ⟨cellP_map hc _,λq=>h0 (by
  rcases q with q | q
  ·exact List.map_eq_nil_iff.1 q
  ·rw [q] at hl;exact List.eq_nil_of_length_eq_zero hl.symm),λ_ _=>⟨_,by rw [List.length_map,<-hl,List.drop_length,List.append_nil,hl,List.take_of_length_le (by rw [List.length_map];exact Nat.le_refl _)],h⟩⟩
theorem wMk {b n:Nat} {c:Int} {z:α} {zs:List WV} {X:List (List WV)->Prop} (e:zs=f z) (h0:(n:Int)<=c) (h1:c<=1099511627776) (h2:(b:Int)*c<=140737488355328) (h:X ((List.replicate n z).map f)):0<=(n:Int)/\(n:Int)<=c/\c<=2 ^ 40/\(b:Int)*c<=2 ^ 47/\∃y,List.replicate (n:Int).toNat zs=y/\X y:=
 ⟨Int.natCast_nonneg _,h0,h1,h2,_,by rw [List.map_replicate,e,Int.toNat_natCast],h⟩
end
def sh7 (u:Int):Int:=u.fdiv (2 ^ min (Int.toNat 7) IntKind.u64.bits)
theorem sh7_eq {u:Int}:sh7 u=u / 128:=by
 unfold sh7
 rw [show (2:Int) ^ min (Int.toNat 7) IntKind.u64.bits=128 from rfl,Int.fdiv_eq_ediv_of_nonneg _ (by decide)]
theorem u_zero (x:Int) (L:Nat):∃k:Nat,k<=10/\IntKind.u64.wrap x<128 ^ k/\L<=L/\L+k<=L+10:=⟨10,Nat.le_refl _,Int.lt_of_lt_of_le (u64_hi x) (by decide),Nat.le_refl _,Nat.le_refl _⟩
theorem u_next {u y:Int} {k L:Nat} {b:List Int} (i0:0<=u) (i1:k<=10) (i2:u<128 ^ k) (i3:L<=b.length) (i4:b.length+k<=L+10) (h:u>=128):∃k:Nat,k<=10/\sh7 u<128 ^ k/\L<=(b++[y]).length/\(b++[y]).length+k<=L+10:=by
 cases k with
 |zero=>simp at i2;omega
 |succ k=>
  refine ⟨k,by omega,?_,by rw [List.length_append];omega,by rw [List.length_append,List.length_singleton];omega⟩
  rw [sh7_eq]
  rw [Int.pow_succ] at i2
  omega
theorem sh7_lo {u:Int} (h:0<=u):0<=sh7 u:=by rw [sh7_eq];omega
theorem sh7_lt {u:Int} (h:u>=128):(sh7 u).toNat<u.toNat:=by rw [sh7_eq];omega
theorem all1 {α:Type} {φ:α->Prop} {a:α} (h:φ a):∀x∈[a],φ x:=λx hx=>by rw [List.mem_singleton.1 hx];exact h
theorem all2 {α:Type} {φ:α->Prop} {a b:α} (h:φ a) (h2:φ b):∀x∈[a,b],φ x:=λx hx=>by
 rcases List.mem_cons.1 hx with rfl | hx
 ·exact h
 ·rw [List.mem_singleton.1 hx];exact h2
def cPF (p:Int×FuncId):List WV:=[.sc (.int .i64 p.1),.fnp p.2 [] []]
def l386:List (Int×FuncId):=[(1,165),(2,166),(4,167),(8,168),(16,169),(32,170)]
end Go.Abs.RM
end
section
namespace Go.Proofs.RLP
open Go.Proofs
open Go.Abs Go.RowKit
theorem step_idle (p q:Addr) (w:World) :
 CallsD Tryz.prog 516 #[.pointer (some p),.pointer (some q)] .returning w λe u' w'=>e=.returned (.tuple #[])/\u'=.returning/\w'=w:=by
 refine callsD_of_wpS Tryz.func516 rfl λc₀ cs hu=>?_
 apply wpS_seq
 apply wpS_region
 simp [wpOpsS,go_sem,recoverD,hu,Tryz.ntmps516,Exit.thenS]
 apply wpS_seq
 apply wpS_region
 simp [wpOpsS,go_sem,Exit.thenS]
 refine wpS_cond (t:=false) (by simp [Act.eval,Array.replicate]) ?_
 simp only [Bool.false_eq_true,if_false]
 refine wpS_of_wp (wp_skip ?_)
 cases c₀
 simp_all [bodyPostS,results,Tryz.results516]
set_option maxRecDepth 100000 in
theorem step_catch (b c:Nat) (w:World) (pa:Option Addr) (ln cp:Nat) (x:Value) (hcb:w.cell? ⟨b,0,none⟩=some (.slice pa ln cp)) (hcc:w.cell? ⟨c,0,none⟩=some x) (hz:w.frozen? ⟨c,0,none⟩=false) (hb:b<w.heap.size) (hp:c<w.heap.size) :
 CallsD Tryz.prog 516 #[.pointer (some ⟨b,0,none⟩),.pointer (some ⟨c,0,none⟩)] (.panicking [{ v:=.iface 461 (.agg #[]),recovered:=false }]) w λe u' w'=>
  e=.returned (.tuple #[])/\u'=.panicking [{ v:=.iface 461 (.agg #[]),recovered:=true }]/\w'=(w.setCell ⟨c,0,none⟩ (.slice pa ln cp)).alloc (.cells #[] 461):=by
 refine callsD_of_wpS Tryz.func516 rfl λc₀ cs hu=>?_
 apply wpS_seq
 apply wpS_region
 simp [wpOpsS,go_sem,recoverD,hu,Tryz.ntmps516,Exit.thenS]
 apply wpS_seq
 apply wpS_region
 simp [wpOpsS,go_sem,Exit.thenS]
 refine wpS_cond (t:=true) (by simp [Act.eval,Array.replicate]) ?_
 simp only [if_true]
 refine wpS_of_wp ?_
 have hta:∀w,(Instr.typeAssert (.iface 461 (.agg #[])) 20 461 true).run Tryz.prog w=.ok (.tuple #[.agg #[],.bool true]) w:=λ_=>by kernel_rfl
 have hnot:∀(b:Bool) (w:World),(Op.unary .not (.bool b)).run Tryz.prog w=.ok (.bool (!b)) w:=λ_ _=>rfl
 have hc0:(w.alloc (.cells #[] 461)).cell? ⟨b,0,none⟩=some (.slice pa ln cp):=(cell_same (heap_alloc_lt w _ hb)).trans hcb
 have hc1:(w.alloc (.cells #[] 461)).cell? ⟨c,0,none⟩=some x:=(cell_same (heap_alloc_lt w _ hp)).trans hcc
 have hz1:(w.alloc (.cells #[] 461)).frozen? ⟨c,0,none⟩=false:=(World.frozen?_of_block (heap_alloc_lt w _ hp)).trans hz
 have e:(#[Value.pointer (some ⟨b,0,none⟩),Value.pointer (some ⟨c,0,none⟩)]++((((Array.replicate 15 undef).setIfInBounds 3 (Value.iface 461 (Value.agg #[]))).setIfInBounds 0 (Value.iface 461 (Value.agg #[]))).setIfInBounds
          4 (Value.iface 461 (Value.agg #[]))).setIfInBounds 5 (Value.bool true))=#[Value.pointer (some ⟨b,0,none⟩),Value.pointer (some ⟨c,0,none⟩),Value.iface 461 (Value.agg #[]),undef,undef,Value.iface 461 (Value.agg #[]),Value.iface 461 (Value.agg #[]),Value.bool true,undef,undef,undef,undef,undef,undef,undef,undef,undef]:=by kernel_rfl
 rw [e]
 clear e
 go_wp2
 cases c₀
 simp_all [bodyPostS,results,Tryz.results516]
def stepW (w:World) (s:Value):World:=(w.alloc (.cells #[s] 46)).alloc (.cells #[.slice none 0 0] 46)
theorem stepW_size (w:World) (s:Value):(stepW w s).heap.size=w.heap.size+2:=by unfold stepW;rw [World.size_alloc,World.size_alloc]
theorem stepW_blk (w:World) (s:Value) {w2:World} (hb:Below (w.heap.size+2) (stepW w s) w2):w2.heap[w.heap.size]?=some (.cells #[s] 46)/\w2.heap[w.heap.size+1]?=some (.cells #[.slice none 0 0] 46):=by
 constructor
 ·rw [hb.block _ (by omega)]
  exact (heap_alloc_lt _ _ (by rw [World.size_alloc];omega)).trans (heap_alloc_at _ _)
 ·rw [hb.block _ (by omega)]
  have:=heap_alloc_at (w.alloc (.cells #[s] 46)) (.cells #[.slice none 0 0] 46)
  rw [World.size_alloc] at this
  exact this
set_option maxRecDepth 100000 in
theorem step_ret (w:World) (l id:Value) (pa:Option Addr) (ln cp:Nat) (he:∀args w,(callFunc 517 args).run Tryz.prog w=.ok (.enter 517 args) w) (R:Value->World->Prop)
 (h:Calls Tryz.prog 517 #[l,.slice pa ln cp,id] (stepW w (.slice pa ln cp)) λe w'=>Below (w.heap.size+2) (stepW w (.slice pa ln cp)) w'/\∃p n c,e=.returned (.slice p n c)/\R (.slice p n c) w') :
 Calls Tryz.prog 489 #[l,.slice pa ln cp,id] w λe w'=>∃v w2,e=.returned v/\R v w2/\Below (w.heap.size+2) (stepW w (.slice pa ln cp)) w2/\w'=w2.setCell ⟨w.heap.size+1,0,none⟩ v:=by
 have hmf:∀(fn:Fn) (first cap:Array Value) (w:World),(Instr.makeFunc fn first cap).run Tryz.prog w=.ok (.func fn first cap) w:=λ_ _ _ _=>rfl
 have hl0:(w.alloc (.cells #[.slice pa ln cp] 46)).heap.size=w.heap.size+1:=World.size_alloc ..
 have hc0:(stepW w (.slice pa ln cp)).cell? ⟨w.heap.size,0,none⟩=some (.slice pa ln cp):=by
  rw [cell_of_heap (stepW_blk w _ (Below.refl _ _)).1];rfl
 unfold stepW at h hc0
 go_enter_defers Tryz.func489,Tryz.ntmps489
 go_wp2_with (go_at_call 517;refine h.mono ?_;rintro e w2 ⟨hb,p,n,c,rfl,hr⟩;obtain ⟨hblk0,hblk⟩:=stepW_blk w _ (hb:Below (w.heap.size+2) (stepW w (.slice pa ln cp)) w2);have hc:w2.cell? ⟨w.heap.size+1,0,none⟩=some (.slice none 0 0):=(by rw [cell_of_heap hblk];rfl);have hz:w2.frozen? ⟨w.heap.size+1,0,none⟩=false:=(by simp [World.frozen?,hblk]))
 have hlt:=(Array.getElem?_eq_some_iff.1 hblk).1
 refine leaves_cons (f:=516) (args:=#[.pointer (some ⟨w.heap.size,0,none⟩),.pointer (some ⟨w.heap.size+1,0,none⟩)]) (by simp) (by simp [go_sem]) ?_
 refine (step_idle _ _ _).mono ?_
 rintro e u' w'' ⟨rfl,rfl,rfl⟩
 have hc2:(w2.setCell ⟨w.heap.size+1,0,none⟩ (.slice p n c)).cell? ⟨w.heap.size+1,0,none⟩=some (.slice p n c):=World.cell?_setCell_same _ _ _ hc
 simp [Leaves,settle,results,Tryz.results489,go_sem,hc2]
 exact ⟨w2,hr,hb,rfl⟩
set_option maxRecDepth 100000 in
theorem step_pan (w:World) (l id:Value) (pa:Option Addr) (ln cp:Nat) (he:∀args w,(callFunc 517 args).run Tryz.prog w=.ok (.enter 517 args) w)
 (h:Calls Tryz.prog 517 #[l,.slice pa ln cp,id] (stepW w (.slice pa ln cp)) λe w'=>Below (w.heap.size+2) (stepW w (.slice pa ln cp)) w'/\e=.panicked [{ v:=.iface 461 (.agg #[]),recovered:=false }]) :
 Calls Tryz.prog 489 #[l,.slice pa ln cp,id] w λe w'=>e=.returned (.slice pa ln cp)/\Below w.heap.size w w':=by
 have hmf:∀(fn:Fn) (first cap:Array Value) (w:World),(Instr.makeFunc fn first cap).run Tryz.prog w=.ok (.func fn first cap) w:=λ_ _ _ _=>rfl
 have hl0:(w.alloc (.cells #[.slice pa ln cp] 46)).heap.size=w.heap.size+1:=World.size_alloc ..
 have hc0:(stepW w (.slice pa ln cp)).cell? ⟨w.heap.size,0,none⟩=some (.slice pa ln cp):=by
  rw [cell_of_heap (stepW_blk w _ (Below.refl _ _)).1];rfl
 unfold stepW at h hc0
 go_enter_defers Tryz.func489,Tryz.ntmps489
 go_wp2_with (go_at_call 517;refine h.mono ?_;rintro e w2 ⟨hb,rfl⟩)
 have hb':Below (w.heap.size+2) (stepW w (.slice pa ln cp)) w2:=hb
 obtain ⟨hblk0,hblk⟩:=stepW_blk w _ hb'
 have hlt:=(Array.getElem?_eq_some_iff.1 hblk).1
 have hlt0:=(Array.getElem?_eq_some_iff.1 hblk0).1
 have hcb:w2.cell? ⟨w.heap.size,0,none⟩=some (.slice pa ln cp):=by rw [cell_of_heap hblk0];rfl
 have hc:w2.cell? ⟨w.heap.size+1,0,none⟩=some (.slice none 0 0):=by rw [cell_of_heap hblk];rfl
 have hz:w2.frozen? ⟨w.heap.size+1,0,none⟩=false:=by simp [World.frozen?,hblk]
 refine leaves_cons (f:=516) (args:=#[.pointer (some ⟨w.heap.size,0,none⟩),.pointer (some ⟨w.heap.size+1,0,none⟩)]) (by simp) (by simp [go_sem]) ?_
 refine (step_catch _ _ _ _ _ _ _ hcb hc hz hlt0 hlt).mono ?_
 rintro e u' w'' ⟨rfl,rfl,rfl⟩
 have hc2:(w2.setCell ⟨w.heap.size+1,0,none⟩ (.slice pa ln cp)).cell? ⟨w.heap.size+1,0,none⟩=some (.slice pa ln cp):=World.cell?_setCell_same _ _ _ hc
 have hc3:((w2.setCell ⟨w.heap.size+1,0,none⟩ (.slice pa ln cp)).alloc (.cells #[] 461)).cell? ⟨w.heap.size+1,0,none⟩=some (.slice pa ln cp):=(cell_same (heap_alloc_lt _ _ (by show _<(w2.heap.modify _ _).size;simpa using hlt))).trans hc2
 simp [Leaves,settle,results,Tryz.results489,go_sem,hc3]
 have b0:Below w.heap.size w (stepW w (.slice pa ln cp)):=((Below.refl w.heap.size w).alloc (Nat.le_refl _) _).alloc (by rw [World.size_alloc];omega) _
 exact ((b0.trans (hb'.mono (by omega))).setCell (by show _<=w.heap.size+1;omega) _).alloc (by show _<=(w2.heap.modify _ _).size;simp;omega) _
theorem tv_slice {w:World} {I:Nat->Nat->Prop} {J:Nat->Prop} {es:List (List WV)} {x:AV} {u:Value} (hx:PR (.lst es) x) (hu:TV w I J x u):∃p n c,u=.slice p n c:=by
 cases hx with
 |emp=>cases hu;exact ⟨_,_,_,rfl⟩
 |lst h=>cases hu with | isl=>exact ⟨_,_,_,rfl⟩
theorem stepW_cell (w:World) (s:Value) {b off:Nat} (h:b<w.heap.size):(stepW w s).cell? ⟨b,off,none⟩=w.cell? ⟨b,off,none⟩:=by
 unfold stepW
 rw [cell_same (heap_alloc_lt _ _ (by rw [World.size_alloc];omega)),cell_same (heap_alloc_lt w _ h)]
theorem stepW_heap (w:World) (s:Value) {b:Nat} (h:b<w.heap.size):(stepW w s).heap[b]?=w.heap[b]?:=by
 unfold stepW
 rw [heap_alloc_lt _ _ (by rw [World.size_alloc];omega),heap_alloc_lt w _ h]
theorem valid_step_ret {l s id x:AV} {es es':List (List WV)} (hs:PR (.lst es) s) (hx:PR (.lst es') x) (h:Valid Tryz.prog 517 [l,s,id] (.ret x)):Valid Tryz.prog 489 [l,s,id] (.ret x):=by
 refine ⟨⟨_,Tryz.func489,rfl,by kernel_rfl⟩,?_⟩
 intro w I J vs hI hJ hv
 cases hv with
 |cons hl hv=>
 cases hv with
 |cons hu hv=>
 cases hv with
 |cons hi hv=>
 cases hv
 obtain ⟨pa,ln,cp,rfl⟩:=tv_slice hs hu
 have hargs:=TVs.mono (w':=stepW w (.slice pa ln cp)) (I':=I) (J':=J) (λb off h=>⟨h,stepW_cell w _ (hI b off h)⟩) (λb h=>⟨h,stepW_heap w _ (hJ b h)⟩) (.cons hl (.cons hu (.cons hi .nil)))
 have hsz:=stepW_size w (.slice pa ln cp)
 have key:=h.2 (stepW w (.slice pa ln cp)) I J _ (λb off q=>by have:=hI b off q;omega) (λb q=>by have:=hJ b q;omega) hargs
 refine (step_ret w _ _ pa ln cp (λargs w=>Go.Abs.RL.enter_run h.1 args w) (λv w2=>∃(I':Nat->Nat->Prop) (J':Nat->Prop),(∀b off,I b off->I' b off)/\(∀b off,I' b off->I b off\/(w.heap.size+2<=b/\b<w2.heap.size))/\(∀b,J b->J' b)/\(∀b,J' b->J b\/(w.heap.size+2<=b/\b<w2.heap.size))/\TV w2 I' J' x v) ?_).mono ?_
 ·refine key.mono ?_
  rintro e w' ⟨hb,I',J',h1,h2,h3,h4,ho⟩
  rw [hsz] at hb h2 h4
  refine ⟨hb,?_⟩
  cases e with
  |panicked c=>exact ho.elim
  |outgrown=>exact ho.elim
  |returned v=>
   have hv:TV w' I' J' x v:=ho
   obtain ⟨p,n,c,rfl⟩:=tv_slice hx hv
   exact ⟨p,n,c,rfl,I',J',h1,h2,h3,h4,hv⟩
 ·rintro e w' ⟨v,w2,rfl,⟨I',J',h1,h2,h3,h4,hv⟩,hb,rfl⟩
  have hs2:(w2.setCell ⟨w.heap.size+1,0,none⟩ v).heap.size=w2.heap.size:=by show (w2.heap.modify _ _).size=_;simp
  have b0:Below w.heap.size w (stepW w (.slice pa ln cp)):=((Below.refl w.heap.size w).alloc (Nat.le_refl _) _).alloc (by rw [World.size_alloc];omega) _
  refine ⟨(b0.trans (hb.mono (by omega))).setCell (by show _<=w.heap.size+1;omega) _,I',J',h1,λb off q=>?_,h3,λb q=>?_,?_⟩
  ·rcases h2 b off q with q | ⟨q1,q2⟩
   ·exact .inl q
   ·exact .inr ⟨by omega,by rw [hs2];exact q2⟩
  ·rcases h4 b q with q | ⟨q1,q2⟩
   ·exact .inl q
   ·exact .inr ⟨by omega,by rw [hs2];exact q2⟩
  ·have ne1:∀b off,I' b off->b≠w.heap.size+1:=λb off q=>by
    rcases h2 b off q with q | ⟨q1,q2⟩
    ·have:=hI b off q;omega
    ·omega
   have ne2:∀b,J' b->b≠w.heap.size+1:=λb q=>by
    rcases h4 b q with q | ⟨q1,q2⟩
    ·have:=hJ b q;omega
    ·omega
   refine hv.mono (λb off q=>⟨q,World.cell?_setCell_other _ _ _ _ (by intro e;simp only [Addr.mk.injEq] at e;exact ne1 b off q e.1.symm)⟩) (λb q=>⟨q,?_⟩)
   show (w2.heap.modify _ _)[b]?=_
   rw [Array.getElem?_modify,if_neg (λe=>ne2 b q e.symm)]
theorem valid_step_pan {l s id:AV} {es:List (List WV)} (hs:PR (.lst es) s) (h:Valid Tryz.prog 517 [l,s,id] (.pan (.ifc 461 (.agg [])))):Valid Tryz.prog 489 [l,s,id] (.ret s):=by
 refine ⟨⟨_,Tryz.func489,rfl,by kernel_rfl⟩,?_⟩
 intro w I J vs hI hJ hv
 cases hv with
 |cons hl hv=>
 cases hv with
 |cons hu hv=>
 cases hv with
 |cons hi hv=>
 cases hv
 obtain ⟨pa,ln,cp,rfl⟩:=tv_slice hs hu
 have hargs:=TVs.mono (w':=stepW w (.slice pa ln cp)) (I':=I) (J':=J) (λb off h=>⟨h,stepW_cell w _ (hI b off h)⟩) (λb h=>⟨h,stepW_heap w _ (hJ b h)⟩) (.cons hl (.cons hu (.cons hi .nil)))
 have hsz:=stepW_size w (.slice pa ln cp)
 have key:=h.2 (stepW w (.slice pa ln cp)) I J _ (λb off q=>by have:=hI b off q;omega) (λb q=>by have:=hJ b q;omega) hargs
 refine (step_pan w _ _ pa ln cp (λargs w=>Go.Abs.RL.enter_run h.1 args w) ?_).mono ?_
 ·refine key.mono ?_
  rintro e w' ⟨hb,I',J',h1,h2,h3,h4,ho⟩
  rw [hsz] at hb
  refine ⟨hb,?_⟩
  cases e with
  |returned x=>exact ho.elim
  |outgrown=>exact ho.elim
  |panicked c=>
   obtain ⟨v,rfl,hv⟩:=ho
   cases hv with
   |ifc hv=>cases hv with | agg hv=>cases hv;rfl
 ·rintro e w' ⟨rfl,hb⟩
  exact ⟨hb,I,J,λ_ _ h=>h,λ_ _ h=>.inl h,λ_ h=>h,λ_ h=>.inl h,hu.mono (λb off q=>⟨q,cell_same (hb.block _ (hI b off q))⟩) (λb q=>⟨q,hb.block _ (hJ b q)⟩)⟩
end Go.Proofs.RLP
namespace Go.Abs.RM
open Go.Proofs
def stepG (v:AV):Prop:=v=.ifc 461 (.agg [])
theorem step_pan_ok {xs:List AV} (h:PRs [] xs):stepG (.ifc 461 (.agg xs))/\panA (.ifc 461 (.agg xs))=true:=by cases h;exact ⟨rfl,rfl⟩
theorem prs_three {a b c:WV} {xs:List AV} (h:PRs [a,b,c] xs):∃x y z,xs=[x,y,z]/\PR b y:=by
 cases h with
 |cons h hs=>cases hs with
  |cons h1 hs=>cases hs with
   |cons h2 hs=>cases hs;exact ⟨_,_,_,rfl,h1⟩
theorem step_of {l i:WV} {s:List S71} {Q:List S71->Prop} (h:WQP 517 [l,.lst (s.map S71.c),i] (λr:List S71=>.lst (r.map S71.c)) Q stepG) (hq:Q s):WQv 489 [l,.lst (s.map S71.c),i] (λr:List S71=>.lst (r.map S71.c)) Q:=by
 intro xs hxs
 obtain ⟨x,y,z,rfl,hy⟩:=prs_three hxs
 rcases h _ hxs with ⟨r,u,hp,⟨t,rfl,ht⟩,hv⟩ | ⟨v,rfl,hv⟩
 ·exact ⟨_,u,hp,⟨t,rfl,ht⟩,RLP.valid_step_ret hy hp hv⟩
 ·exact ⟨_,y,hy,⟨s,rfl,hq⟩,RLP.valid_step_pan hy hv⟩
end Go.Abs.RM
end
section
namespace Go.Abs.RM
open Go.Proofs
set_option maxRecDepth 100000
noncomputable def seqL:Code->Code
 |.seq a _=>a
 |c=>c
noncomputable def seqR:Code->Code
 |.seq _ b=>b
 |c=>c
noncomputable def p507:Code:=seqL (bodyOf Tryz.f440)
noncomputable def q507:Code:=seqL (seqR (bodyOf Tryz.f440))
noncomputable def y507:Code:=seqL (seqR (seqR (bodyOf Tryz.f440)))
noncomputable def z507:Code:=seqR (seqR (seqR (bodyOf Tryz.f440)))
theorem x507_eq:Tryz.f440.body=some (.seq p507 (.seq q507 (.seq y507 z507))):=by kernel_rfl
theorem insI_len (fs:List Int) (a:Int):(insI fs a).length<=fs.length+1:=by
 unfold insI
 split
 ·omega
 ·simp
theorem ins_le {fs:List Int} {a q B:Int} (h:(fs.length:Int)<=B+q) (i0:0<=q) (i1:q<=1000000000):((insI fs a).length:Int)<=B+nx q:=by
 rw [nx_eq (by omega) (by omega)]
 have:=insI_len fs a
 omega
def X507 (a1:List (List S71)) (T:WT) (W:WH):Prop:=∃fs:List Int,lk T 1=some (.lst (a1.map cL26))/\lk T 5=some (.mp 0)/\lk W.objs 0=some (.set (fs.map (Value.int .i64)) VI)/\fs.length<=100000000
end Go.Abs.RM
end
section
namespace Go.Proofs.RLP
open Go.Proofs
open Go.Abs Go.RowKit Go.ChangeMaps Go.Abs.RM
def valI (e:MapEntry):Int:=match e.val with | .int _ n=>n | _=>0
def keepM (m:Nat) (l:List MapEntry):List Int:=(l.filter λe=>decide (valI e<(m:Int))).map keyI
theorem keep_perm {m:Nat} {a b:List MapEntry} (h:a.Perm b):(keepM m a).Perm (keepM m b):=(h.filter _).map _
set_option maxHeartbeats 4000000 in
set_option maxRecDepth 100000 in
theorem tail507 (bm:Nat) (es:Array MapEntry) (clock:Nat) (ks:List Int) (m cp:Nat) (pa:Option Addr) (w:World) (D:List Deferred) (Q:Exit->Act->World->Prop) (hb:w.heap[bm]?=some (.map es clock)) (hkv:∀e∈es.toList,∃k c:Int,e.key=.int .i64 k/\e.val=.int .i64 c) (hborn:bornsOk clock (es.toList.map (·.born))=true) (hn:es.size<=100000000)
 (hks:ks=keepM m es.toList)
 (v0 v2 v3 v4 v6 v7 v8 v9 v10 v11 v12 v13 v14 v15 v16 v17 v18 v19 v20 v21 v22 v23 v24 v25 v26 v27 v28 v29 v30 v31 v32 v33 v34 v35 v36 v37 v38 v39 v40 v41 v42 v43 v44 v45 v46 v47 v48 v49 v50 v51 v52 v53 v54:Value)
 (hQ:∀(vs:Array Value) (cap:Nat) (w':World),vs.size=55->vs[4]?=some (.slice (some ⟨w.heap.size,0,none⟩) ks.length cap)->w'.ownsRow w.heap.size 3 1 (.slice (some ⟨w.heap.size,0,none⟩) ks.length cap) ks.length ((ks.mergeSort λx y=>decide (x<=y)).map (Value.int .i64))->Below w.heap.size w w'->Q .ret ⟨vs,D⟩ w') :
 Code.wp Tryz.prog z507 Q ⟨#[v0,.slice pa m cp,v2,v3,v4,.map (some bm),v6,v7,v8,v9,v10,v11,v12,v13,v14,v15,v16,v17,v18,v19,v20,v21,v22,v23,v24,v25,v26,v27,v28,v29,v30,v31,v32,v33,v34,v35,v36,v37,v38,v39,v40,v41,v42,v43,v44,v45,v46,v47,v48,v49,v50,v51,v52,v53,v54],D⟩ w:=by
 obtain ⟨i0,hi,hz0,hz1,hz2⟩:=info_parts Tryz.info3'
 have hbm:=(Array.getElem?_eq_some_iff.1 hb).1
 have hlen:(Builtin.len_ #[293] 3 #[.map (some bm)]).run Tryz.prog w=.ok (.int .i64 es.size) w:=by
  simp [Builtin.len_,Sem.run_bind,run_under Tryz.underlying293,Result.andThen,getObj,Sem.run,hb,goInt]
 unfold z507
 conv=>arg 2;whnf
 go_wp2_with (at_make;refine wpList_make_own _ rfl _ _ 34 rfl w.heap.size 3 i0 (.int .i64 0) 1 Tryz.underlying34 hi hz0 hz1 .i64 .i64 _ es.size rfl rfl rfl (by rw [hz2];omega) (by unfold maxLen;omega) (Nat.le_refl _) ?_)
 intro w1 hown hgrow
 have hsz1:=hgrow.size
 have hb1:w1.heap[bm]?=some (.map es clock):=(hgrow.block _ hbm (by simp)).trans hb
 go_wp2_with (at_range;refine wpList_range_at _ rfl _ 293 rfl 3 3 Tryz.underlying293 bm es clock rfl hb1 ?_)
 go_frame
 obtain ⟨hnd,hold⟩:=bornsOk_ok hborn
 have hold':∀x∈es.toList,x.born<clock:=λx hx=>hold _ (List.mem_map_of_mem hx)
 have hit0:(w1.alloc (.mapIter (some bm) clock #[] clock)).heap[w1.heap.size]?=some (.mapIter (some bm) clock #[] clock):=heap_alloc_at _ _
 have hb0:(w1.alloc (.mapIter (some bm) clock #[] clock)).heap[bm]?=some (.map es clock):=(heap_alloc_lt _ _ (by omega)).trans hb1
 have hown0:=hown.alloc (.mapIter (some bm) clock #[] clock)
 have bel0:Below w.heap.size w (w1.alloc (.mapIter (some bm) clock #[] clock)):=((Below.refl _ w).grown hgrow (Nat.le_refl _) (λk h=>by cases h)).alloc (by omega) _
 have hsz1':w.heap.size<w1.heap.size:=by
  rcases hown.2 with ⟨h,_⟩ | ⟨g,cap,cur,h,_,hg,_⟩
  ·cases h
  ·cases h;exact (Array.getElem?_eq_some_iff.1 hg).1
 clear hgrow hlen
 go_loopw [10] (λv wr=>∃(seen:Array Nat) (c0:Nat) (acc:List Int),v=.slice (some ⟨w.heap.size,0,none⟩) acc.length es.size/\wr.ownsRow w.heap.size 3 1 (.slice (some ⟨w.heap.size,0,none⟩) acc.length es.size) acc.length (acc.map (Value.int .i64))/\
  wr.heap[w1.heap.size]?=some (.mapIter (some bm) clock seen c0)/\clock<=c0/\wr.heap[bm]?=some (.map es clock)/\(acc++keepM m (leftOf es seen).toList).Perm ks/\acc.length+(leftOf es seen).toList.length<=es.size/\Below w.heap.size w wr)
  (λ_ wr=>wr.rangeLeft bm w1.heap.size)
 case atStart=>
  have e0:(leftOf es #[]).toList=es.toList:=by simp [leftOf]
  refine ⟨#[],clock,[],rfl,hown0,hit0,Nat.le_refl _,hb0,?_,?_,bel0⟩
  ·rw [List.nil_append,e0,hks]
  ·rw [e0];simp
 case round=>
  obtain ⟨seen,c0,acc,rfl,hrow,hit,hcc,hbw,hperm,hroom,bel⟩:=hrel
  clear hown0 hit0 hb0 bel0 hb1 hown
  have hm0:wr.rangeLeft bm w1.heap.size=(leftOf es seen).size:=by simp [World.rangeLeft,hit,hbw]
  refine wp_seq_k λK1 hK1=>?_
  refine wp_region_list ?_
  refine wpList_next_at _ rfl _ rfl w1.heap.size bm clock c0 seen es clock rfl hit hbw hold' hcc ?_ ?_
  ·intro h0
   have hl0:(leftOf es seen).toList=[]:=List.eq_nil_of_length_eq_zero (by simpa using h0)
   replace hperm:acc.Perm ks:=by
    rw [hl0] at hperm
    simpa [keepM] using hperm
   have hal:acc.length=ks.length:=hperm.length_eq
   have hs:(acc.mergeSort λx y=>decide (x<=y))=ks.mergeSort λx y=>decide (x<=y):=sort_perm hperm
   rcases hrow.2 with ⟨hnil,_⟩ | ⟨g,cap,cur,hv,hbase,hbl,h1,h2,h3,h4⟩
   ·cases hnil
   ·cases hv
    have hH:Sort.Holds (Value.int .i64) wr w.heap.size 0 acc.toArray:=holds_of_blockI hbl (by simpa using h4)
    have hgl:w.heap.size<wr.heap.size:=(Array.getElem?_eq_some_iff.1 hbl).1
    have hsort:=sort_run w.heap.size 0 es.size acc wr hH hgl (by omega)
    have hl2:(acc.mergeSort λx y=>decide (x<=y)).length=acc.length:=List.length_mergeSort acc
    have hsort2:Calls Tryz.prog 105 #[.slice (some ⟨w.heap.size,0,none⟩) acc.length es.size] wr λe w'=>e=.returned (.tuple #[])/\
     w'.ownsRow w.heap.size 3 1 (.slice (some ⟨w.heap.size,0,none⟩) ks.length es.size) ks.length ((ks.mergeSort λx y=>decide (x<=y)).map (Value.int .i64))/\Below w.heap.size w w':=by
     refine hsort.mono ?_
     rintro e w' ⟨he,nn,os,hw'⟩
     refine ⟨he,?_,?_⟩
     ·rw [hw',<-hs,<-hal]
      exact ownsRow_sortedI (n:=nn) (os:=os) (ts:=acc.mergeSort λx y=>decide (x<=y)) hl2 (Nat.le_refl _) hbl h1 h2 h3
     ·have hg:=grownBy_sortedI (w:=wr) (g:=w.heap.size) (n:=nn) (os:=os) (acc.mergeSort λx y=>decide (x<=y)).toArray
      rw [<-hw'] at hg
      exact bel.grown hg bel.size (λk h=>by cases h;exact Nat.le_refl _)
    clear hit hbw hrow hcc hsort hH hbl hs hl2 h1 h2 h3 h4 hperm hl0 h0 hm0 hroom bel hgl hbase hnd hold hold' hborn hkv hn hsz1 hsz1' hks
    rw [hal] at hsort2
    go_wp2_with (go_at_call 105;refine hsort2.mono ?_;rintro e w' ⟨rfl,hro,hbe⟩)
    exact hQ _ es.size _ rfl rfl hro hbe
  ·intro e he w2 hw2
   obtain ⟨hem,hes⟩:=mem_left he
   obtain ⟨x,c,hx,hxv⟩:=hkv e hem
   have hp2:=left_perm seen e es.toList hnd hem hes
   have hsz2:w2.heap=wr.heap:=by rcases hw2 with rfl | rfl<;>rfl
   have hrow2:w2.ownsRow w.heap.size 3 1 (.slice (some ⟨w.heap.size,0,none⟩) acc.length es.size) acc.length (acc.map (Value.int .i64)):=by rcases hw2 with rfl | rfl<;>exact hrow
   have bel2:Below w.heap.size w w2:=by rcases hw2 with rfl | rfl;exact bel;exact bel.drew
   obtain ⟨w3,hw3⟩:∃w3,setBlock w2 w1.heap.size (.mapIter (some bm) clock (seen.push e.born) clock)=w3:=⟨_,rfl⟩
   rw [hw3,hx,hxv]
   have hlt1:w1.heap.size<w2.heap.size:=by rw [hsz2];exact (Array.getElem?_eq_some_iff.1 hit).1
   have ho3:∀k,k≠w1.heap.size->w3.heap[k]?=w2.heap[k]?:=λk hk=>by rw [<-hw3];exact Array.getElem?_setIfInBounds_ne (λq=>hk q.symm)
   have hit3:w3.heap[w1.heap.size]?=some (.mapIter (some bm) clock (seen.push e.born) clock):=by rw [<-hw3];simp [setBlock,hlt1]
   have hb3:w3.heap[bm]?=some (.map es clock):=by rw [ho3 _ (by omega),hsz2];exact hbw
   have hs3:w3.heap.size=w2.heap.size:=by rw [<-hw3];simp [setBlock]
   have hg3:w2.grownBy w3 (some w1.heap.size):=by
    refine ⟨by rw [<-hw3];rfl,by rw [<-hw3];rfl,by rw [<-hw3];rfl,by rw [hs3];exact Nat.le_refl _,λk _ hk=>ho3 k (λq=>hk (by rw [q]))⟩
   have hrow3:=hrow2.kept hg3 (Or.inr (by simp [Value.ownBlock];omega))
   have bel3:Below w.heap.size w w3:=bel2.grown hg3 bel2.size (λk h=>by cases h;omega)
   have hen:(Instr.entry (.pointer (some ⟨w1.heap.size,0,none⟩))).run Tryz.prog w3=.ok (.tuple #[.int .i64 x,.int .i64 c]) w3:=by
    have:=run_entry_at (P:=Tryz.prog) w3 w1.heap.size bm clock seen es clock e hit3 hb3 hem hnd
    rw [hx,hxv] at this;exact this
   have hleft:(leftOf es seen).toList.length=(leftOf es (seen.push e.born)).toList.length+1:=by
    have:=hp2.length_eq
    simpa [leftOf] using this
   have hfit:acc.length+1<=es.size:=by omega
   have hkx:keyI e=x:=by unfold keyI;rw [hx]
   have hvx:valI e=c:=by unfold valI;rw [hxv]
   have e1:∀s,(leftOf es s).toList=es.toList.filter λz=>!s.contains z.born:=λs=>by simp [leftOf]
   have hp3:=keep_perm (m:=m) hp2
   rw [<-e1,<-e1] at hp3
   have hcell:∀j u,[Value.int .i64 x][j]?=some u->(w3.alloc (.cells #[.int .i64 x] 3)).cell? ((⟨wr.heap.size,0,none⟩:Addr).add j)=some u:=by
    intro j u h
    cases j with
    |succ j=>simp at h
    |zero=>
     simp at h
     subst h
     have e:wr.heap.size=w3.heap.size:=by rw [hs3,hsz2]
     rw [e]
     exact (cell_of_heap (heap_alloc_at _ _)).trans rfl
   clear hrow hit hbw bel hrow2 bel2 hg3
   have hl0:wr.rangeLeft bm w1.heap.size=(leftOf es seen).size:=hm0
   have hls:∀s:Array Nat,(leftOf es s).toList.length=(leftOf es s).size:=λs=>by simp
   by_cases hcm:c<(m:Int)
   ·have hdec:decide (c<(m:Int))=true:=decide_eq_true hcm
    have hk1:keepM m (e::(leftOf es (seen.push e.born)).toList)=x::keepM m (leftOf es (seen.push e.born)).toList:=by
     unfold keepM
     rw [List.filter_cons_of_pos (by rw [hvx];exact hdec),List.map_cons,hkx]
    rw [hk1] at hp3
    go_wp2_with (at_builtin;refine wpList_append_fits _ rfl _ _ 34 rfl w.heap.size 3 i0 1 Tryz.underlying34 hi hz1 w.heap.size acc.length es.size _ rfl (hrow3.alloc _) _ 1 1 [.int .i64 x] rfl rfl hcell (λu hu=>by simp at hu;subst hu;rfl) hfit ?_)
    intro w4 hown4 hg4
    have hne:∀k,k≠w.heap.size->k<w3.heap.size->w4.heap[k]?=w3.heap[k]?:=λk h1 h2=>by
     rw [hg4.block k (by rw [World.size_alloc];omega) (λq=>h1 (by cases q;rfl))]
     exact heap_alloc_lt _ _ h2
    have hit4:w4.heap[w1.heap.size]?=some (.mapIter (some bm) clock (seen.push e.born) clock):=by rw [hne _ (by omega) (by omega)];exact hit3
    have hb4:w4.heap[bm]?=some (.map es clock):=by rw [hne _ (by omega) (by omega)];exact hb3
    have bel4:Below w.heap.size w w4:=(bel3.alloc bel3.size (.cells #[.int .i64 x] 3)).grown hg4 (by rw [World.size_alloc];have:=bel3.size;omega) (λk h=>by cases h;exact Nat.le_refl _)
    have hown4':w4.ownsRow w.heap.size 3 1 (.slice (some ⟨w.heap.size,0,none⟩) (acc++[x]).length es.size) (acc++[x]).length ((acc++[x]).map (Value.int .i64)):=by
     simpa using hown4
    have hperm4:((acc++[x])++keepM m (leftOf es (seen.push e.born)).toList).Perm ks:=by
     refine List.Perm.trans ?_ hperm
     rw [List.append_assoc]
     exact (List.Perm.append_left acc hp3.symm)
    have hl4:w4.rangeLeft bm w1.heap.size=(leftOf es (seen.push e.born)).size:=by simp [World.rangeLeft,hit4,hb4]
    go_wp2
    go_roundw
    case rel=>exact ⟨seen.push e.born,clock,acc++[x],by simp,hown4',hit4,Nat.le_refl _,hb4,hperm4,by rw [List.length_append,List.length_singleton];omega,bel4⟩
    case measure=>rw [hl4,hl0];simpa using (by omega:(leftOf es (seen.push e.born)).toList.length<(leftOf es seen).toList.length)
   ·have hdec:decide (c<(m:Int))=false:=decide_eq_false hcm
    have hk1:keepM m (e::(leftOf es (seen.push e.born)).toList)=keepM m (leftOf es (seen.push e.born)).toList:=by
     unfold keepM
     rw [List.filter_cons_of_neg (by rw [hvx,hdec];simp)]
    rw [hk1] at hp3
    have hl3:w3.rangeLeft bm w1.heap.size=(leftOf es (seen.push e.born)).size:=by simp [World.rangeLeft,hit3,hb3]
    go_wp2
    go_roundw
    case rel=>exact ⟨seen.push e.born,clock,acc,rfl,hrow3,hit3,Nat.le_refl _,hb3,(List.Perm.append_left acc hp3.symm).trans hperm,by omega,bel3⟩
    case measure=>rw [hl3,hl0];simpa using (by omega:(leftOf es (seen.push e.born)).toList.length<(leftOf es seen).toList.length)
end Go.Proofs.RLP
end
section
namespace Go.Abs.RM
open Go.Proofs Go.Abs Go.RowKit Go.Proofs.RLP
set_option maxRecDepth 100000
theorem nums_of:∀{vs:List AV},(∀x∈vs,∃v,VI v/\x=.sc v)->∃cs:List Int,vs=cs.map λc=>.sc (.int .i64 c)
 |[],_=>⟨[],rfl⟩
 |x::vs,h=>by
  obtain ⟨v,⟨n,rfl⟩,rfl⟩:=h x (by simp)
  obtain ⟨cs,rfl⟩:=nums_of (vs:=vs) λy hy=>h y (by simp [hy])
  exact ⟨n::cs,rfl⟩
def keepZ (m:Nat) (l:List (Int×Int)):List Int:=(l.filter λp=>decide (p.2<(m:Int))).map (·.1)
theorem keep_zip (m:Nat):∀{es:List MapEntry} {fs cs:List Int},es.map (·.key)=fs.map (Value.int .i64)->es.map (·.val)=cs.map (Value.int .i64)->keepM m es=keepZ m (fs.zip cs)/\∀e∈es,∃k c:Int,e.key=.int .i64 k/\e.val=.int .i64 c
 |[],[],[],_,_=>⟨rfl,λ_ h=>by cases h⟩
 |e::es,f::fs,c::cs,h1,h2=>by
  simp only [List.map_cons,List.cons.injEq] at h1 h2
  obtain ⟨q1,q2⟩:=keep_zip m h1.2 h2.2
  have hk:keyI e=f:=by unfold keyI;rw [h1.1]
  have hv:valI e=c:=by unfold valI;rw [h2.1]
  refine ⟨?_,λx hx=>?_⟩
  ·unfold keepM keepZ at *
   rw [List.zip_cons_cons,List.filter_cons,List.filter_cons]
   simp only [hv]
   split<;>simp [hk,q1]
  ·rcases List.mem_cons.1 hx with rfl | hx
   ·exact ⟨f,c,h1.1,h2.1⟩
   ·exact q2 x hx
 |[],f::fs,_,h,_=>by simp at h
 |[],[],c::cs,_,h=>by simp at h
 |e::es,[],_,h,_=>by simp at h
 |e::es,f::fs,[],_,h=>by simp at h
theorem tmps55 (a:Array Value) (h:a.size=55):a=((List.range 55).map λi=>a.getD i undef).toArray:=by
 apply Array.ext
 ·simp [h]
 ·intro i h1 h2
  simp [h1]
theorem vrs_nums {σ:Sg}:∀{cs:List Int} {vs:List Value},VRs σ (cs.map λc=>.sc (.int .i64 c)) vs->vs=cs.map (Value.int .i64)
 |[],_,.nil=>rfl
 |c::cs,_,.cons h hs=>by rw [(VR.sc_inv h).1,vrs_nums hs];rfl
theorem slice_of {σ:Sg} {es:List (List WV)} {x:AV} {v:Value} (hx:PR (.lst es) x) (hv:VR σ x v):∃pa cp,v=.slice pa es.length cp:=by
 cases hx with
 |emp=>exact ⟨_,_,(VR.sc_inv hv).1⟩
 |lst h=>
  obtain ⟨a,vs,s,cap,rfl,_⟩:=hv.isl_inv
  exact ⟨_,_,by rw [(prss_all2.1 h).length]⟩
theorem fresh_row {σ:Sg} {w':World} {ks:List Int} {cap:Nat} (sr:SR σ) (hb:Below σ.w.heap.size σ.w w') (hrow:w'.ownsRow σ.w.heap.size 3 1 (.slice (some ⟨σ.w.heap.size,0,none⟩) ks.length cap) ks.length ((sortI ks).map (Value.int .i64))) :
 Fresh1 σ.w w' σ.I σ.J ((sortI ks).map intA) 1 0 σ.w.heap.size cap:=by
 rcases hrow.2 with ⟨hnil,_⟩ | ⟨g,cap',cur,hv,hbase,hbl,h1,h2,h3,h4⟩
 ·cases hnil
 ·cases hv
  have hl:(sortI ks).length=ks.length:=sortI_length ks
  rw [Nat.mul_one] at h3 h4
  refine ⟨Nat.le_refl _,(Array.getElem?_eq_some_iff.1 hbl).1,⟨cur,3,(0,0),(sortI ks).map (Value.int .i64),hbl,λh=>absurd (sr.jlt _ h) (Nat.lt_irrefl _),λoff _ h=>by omega,?_,λe he=>?_,by rw [List.length_map,hl];omega,λj v hv=>?_,λoff _ h=>absurd (sr.ilt _ _ h) (Nat.lt_irrefl _),by omega⟩,by rw [List.length_map,hl];exact h1⟩
  ·have:∀l:List Int,TVs w' σ.I σ.J (l.map intA).flatten (l.map (Value.int .i64)):=λl=>by
    induction l with
    |nil=>exact .nil
    |cons x l ih=>exact .cons (.sc rfl) ih
   exact this _
  ·obtain ⟨x,_,rfl⟩:=List.mem_map.1 he
   rfl
  ·rw [<-h4,List.getElem?_take] at hv
   split at hv
   ·simpa using hv
   ·cases hv
theorem cw507 {m:Nat} {fs cs:List Int} {T:TL} {H:Heap} {b:Nat} {bs:List Nat} {clock:Nat} {es:List (List WV)} {x1:AV} (h1:look T 1=some x1) (hx1:PR (.lst es) x1) (hm:es.length=m) (h5:look T 5=some (.mp b))
 (hH:look H.objs b=some (.map (fs.map (Value.int .i64)) (cs.map λc=>.sc (.int .i64 c)) bs clock false)) (hb:bornsOk clock bs=true) (hn:fs.length<=100000000) :
 CW P .out 55 0 z507 T H (endsO tabL (resOf Tryz.f440) ((sortI (keepZ m (fs.zip cs))).map intA) 1 0):=by
 intro B σ a ar
 refine wpIn_wide.2 ?_
 obtain ⟨tmps,D⟩:=a
 have hs:σ.h b=some (.map (fs.map (Value.int .i64)) (cs.map λc=>.sc (.int .i64 c)) bs clock false):=by rw [ar.ss.h];exact hH
 obtain ⟨ents,vs,hw,hvs,⟨he1,he2⟩,hborn,_⟩:=ar.ss.sr.obj b _ hs
 obtain rfl:=vrs_nums hvs
 have v5:tmps.getD 5 undef=.map (some (σ.r b)):=(ar.ss.tr 5 _ h5).mp_inv ar.ss.sr hs
 obtain ⟨pa,cp,v1⟩:=slice_of hx1 (ar.ss.tr 1 _ h1)
 rw [hm] at v1
 obtain ⟨hk,hkv⟩:=keep_zip m he1 he2
 have hsz:ents.size<=100000000:=by
  have:=congrArg List.length he1
  simp at this
  omega
 have htm:=tmps55 tmps ar.ss.size
 have lit:∀g:Nat->Value,g 1=.slice pa m cp->g 5=.map (some (σ.r b))->Code.wp P z507 (CWQ 55 0 B (endsO tabL (resOf Tryz.f440) ((sortI (keepZ m (fs.zip cs))).map intA) 1 0) σ) ⟨((List.range 55).map g).toArray,D⟩ σ.w:=by
  intro g g1 g5
  have e:((List.range 55).map g).toArray=#[g 0,.slice pa m cp,g 2,g 3,g 4,.map (some (σ.r b)),g 6,g 7,g 8,g 9,g 10,g 11,g 12,g 13,g 14,g 15,g 16,g 17,g 18,g 19,g 20,g 21,g 22,g 23,g 24,g 25,g 26,g 27,g 28,g 29,g 30,g 31,g 32,g 33,g 34,g 35,g 36,g 37,g 38,g 39,g 40,g 41,g 42,g 43,g 44,g 45,g 46,g 47,g 48,g 49,g 50,g 51,g 52,g 53,g 54]:=by
   rw [<-g1,<-g5]
   rfl
  rw [e]
  refine tail507 (σ.r b) ents clock (keepZ m (fs.zip cs)) m cp pa σ.w D _ hw hkv (by rw [hborn];exact hb) hsz hk.symm _ _ _ _ _ _ _ _ _ _ _ _ _ _ _ _ _ _ _ _ _ _ _ _ _ _ _ _ _ _ _ _ _ _ _ _ _ _ _ _ _ _ _ _ _ _ _ _ _ _ _ _ _ ?_
  intro vs cap w' hvsz hv4 hrow hbel
  have hfr:=ar.ss.fresh H.next (Nat.le_refl _)
  have hl:((sortI (keepZ m (fs.zip cs))).map intA).length=(keepZ m (fs.zip cs)).length:=by rw [List.length_map,sortI_length]
  obtain ⟨σ',hw',hh',hd',le',sr',hvr⟩:=adopt ar.ss.sr (st:=H.next) ⟨hfr.1,hfr.2⟩ hbel (I':=σ.I) (J':=σ.J) (λ_ _ h=>h) (λ_ _ h=>.inl h) (λ_ h=>h) (λ_ h=>.inl h) (fresh_row ar.ss.sr hbel hrow)
  rw [hl] at hvr
  refine ⟨σ',hw',⟨le',λ_ _=>.inr (Nat.zero_le _)⟩,[(4,.sl H.next (keepZ m (fs.zip cs)).length 0 (keepZ m (fs.zip cs)).length none)],⟨(H.next,.cells ((sortI (keepZ m (fs.zip cs))).map intA) 1 0)::H.objs,H.next+1⟩,⟨⟨⟨sr',?_,λk hk=>?_⟩,λt x hx=>?_,hvsz⟩,Nat.zero_le _,ar.mks.mono le' sr',Nat.le_trans ar.hB le'.size⟩,?_⟩
  ·rw [hh']
   funext k
   simp only [look,upd,ar.ss.h]
   by_cases e:k=H.next
   ·subst e;simp
   ·rw [if_neg e,if_neg (λq=>e q.symm)]
  ·have:=ar.ss.fresh k (by simp only at hk;omega)
   rw [hh',hd']
   refine ⟨?_,this.2⟩
   rw [upd_ne _ _ (by simp only at hk;omega)]
   exact this.1
  ·simp only [look] at hx
   split at hx
   ·rename_i e
    subst e
    cases hx
    have e4:vs.getD 4 undef=.slice (some ⟨σ.w.heap.size,0,none⟩) (keepZ m (fs.zip cs)).length cap:=by simp [Array.getD_eq_getD_getElem?,hv4]
    show VR σ' _ (vs.getD 4 undef)
    rw [e4]
    exact hvr
   ·cases hx
  ·refine ⟨H.next,(keepZ m (fs.zip cs)).length,none,_,1,[],(keepZ m (fs.zip cs)).length,rfl,by simp only [look,if_true],hl,Nat.le_refl _,?_,by simp⟩
   rw [List.take_of_length_le (by rw [hl];exact Nat.le_refl _)]
   exact leafs_view (R:=⟨0,λ_=>False,λ_=>0,λ_=>nilA⟩) (k:=0) (leafs_map (f:=c_i64) (λ_=>rfl) (sortI (keepZ m (fs.zip cs)))) (prss_intA _).wrss
 have:=lit (λi=>tmps.getD i undef) v1 v5
 rw [<-htm] at this
 exact this
theorem wk_seq {x y:Code} {T:WT} {W:WH} {Q:WQ} (h:Wk P tabL (Yf []) (.seq x y) T W Q):Wk P tabL (Yf []) x T W (afterW Q λT' W'=>Wk P tabL (Yf []) y T' W' Q):=h
theorem piece {c:Code} {R:Rn} {T:WT} {W:WH} {Tc:TL} {H:Heap} {Q:WQ} (hd:codeDst 55 c=true) (rt:RelT R T Tc) (rh:RelH R W H) (h:Wk P tabL (Yf []) c T W Q) (hq:∀e T W,e≠.normal->¬Q e T W) :
 ∃R' T' W' Tc' H',CW P .out 55 0 c Tc H (exactly .normal Tc' H')/\RelT R' T' Tc'/\RelH R' W' H'/\Q .normal T' W':=by
 obtain ⟨x,R',T',W',Tc',H',hc,rt',rh',_,q⟩:=W_sound tabOk mixed c R T W Tc H Q hd rt rh h
 cases x with
 |normal=>exact ⟨R',T',W',Tc',H',hc .out 0 λ_=>rfl,rt',rh',q⟩
 |exit id=>exact absurd q (hq _ _ _ (λe=>by cases e))
 |ret=>exact absurd q (hq _ _ _ (λe=>by cases e))
 |pan v=>exact absurd q (hq _ _ _ (λe=>by cases e))
theorem zip_len {m:Nat} {fs cs:List Int}:(keepZ m (fs.zip cs)).length<=fs.length:=by
 unfold keepZ
 rw [List.length_map]
 refine Nat.le_trans (List.length_filter_le _ _) ?_
 rw [List.length_zip]
 omega
theorem own507 {a1:List (List S71)} {l:WV} (h:Wk P tabL (Yf []) (.seq p507 (.seq q507 y507)) (argsT 0 [l,.lst (a1.map cL26)]) ⟨[],0⟩ (λe T W=>e=.normal/\X507 a1 T W)) :
 WSQ 440 [l,.lst (a1.map cL26)] 1 c_i64 (λr=>r.length<=100000000):=by
 intro xs hxs
 let R0:Rn:=⟨0,λ_=>False,λ_=>0,λ_=>nilA⟩
 have rt:RelT R0 (argsT 0 [l,.lst (a1.map cL26)]) (argT 0 xs):=λt v h=>let ⟨x,h1,h2⟩:=argsT_rel 0 hxs t v h;⟨x,h1,.pure h2⟩
 have rh:RelH R0 ⟨[],0⟩ ⟨[],0⟩:=⟨rfl,λn o h=>by (cases h),λn m o p h=>by (cases h),λ_ _=>rfl⟩
 have bad:∀(K:WT->WH->Prop) (e:WX) (T:WT) (W:WH),e≠.normal->¬afterW (λe T W=>e=.normal/\X507 a1 T W) K e T W:=λK e T W he q=>by
  cases e with
  |normal=>exact he rfl
  |exit id=>cases q.1
  |ret=>cases q.1
  |pan v=>cases q.1
 obtain ⟨R1,T1,W1,Tc1,H1,c1,rt1,rh1,q1⟩:=piece (by kernel_rfl) rt rh (wk_seq h) (bad _)
 have q1:Wk P tabL (Yf []) (.seq q507 y507) T1 W1 _:=q1
 obtain ⟨R2,T2,W2,Tc2,H2,c2,rt2,rh2,q2⟩:=piece (by kernel_rfl) rt1 rh1 (wk_seq q1) (bad _)
 have q2:Wk P tabL (Yf []) y507 T2 W2 _:=q2
 obtain ⟨R3,T3,W3,Tc3,H3,c3,rt3,rh3,_,fs,e1,e5,e0,hlen⟩:=piece (by kernel_rfl) rt2 rh2 q2 (λe T W he q=>he q.1)
 obtain ⟨x1,l1,r1⟩:=rt3 1 _ e1
 have hx1:PR (.lst (a1.map cL26)) x1:=leaf_pr rfl r1
 obtain ⟨x5,l5,r5⟩:=rt3 5 _ e5
 obtain ⟨hlt,hal,vs,bs,clock,hlook,hvl,⟨hb1,hb2⟩,hvs⟩:=rh3.obj 0 _ e0
 obtain rfl:=r5.mp_inv.2.2 hal
 obtain ⟨cs,rfl⟩:=nums_of hvs
 have cw:=cw507 (m:=a1.length) l1 hx1 (List.length_map ..) l5 hlook hb1 hlen
 refine .inl ⟨_,_,prss_intA (sortI (keepZ a1.length (fs.zip cs))),⟨_,rfl,by show (sortI _).length<=_;rw [sortI_length];exact Nat.le_trans zip_len hlen⟩,lens_map (f:=c_i64) (λ_=>rfl),?_⟩
 refine validOwn_of tabOk Tryz.func440 x507_eq (by kernel_rfl) (by rw [<-(prs_all2.1 hxs).length];show 2<=_;decide) ?_
 refine CW.seq (c1.mono λe T H q=>?_)
 obtain ⟨rfl,rfl,rfl⟩:=q
 refine CW.seq (c2.mono λe T H q=>?_)
 obtain ⟨rfl,rfl,rfl⟩:=q
 refine CW.seq (c3.mono λe T H q=>?_)
 obtain ⟨rfl,rfl,rfl⟩:=q
 exact cw
theorem idx_lt (l:List UInt8) (c:UInt8):Lib.indexByte l c<(l.length:Int):=by
 by_cases h:0<=Lib.indexByte l c
 ·have:=(Lib.indexByte_some (l:=l) (c:=c) (o:=(Lib.indexByte l c).toNat) (by omega)).1
  have:=(List.getElem?_eq_some_iff.1 this).1
  omega
 ·omega
theorem idx332 (a0:ByteArray) (a1:Int) (_g0:(a0.size:Int)<=1000000000):WQv 264 [.sc (.string a0),.sc (.int .u8 a1)] (λr:Int=>.sc (.int .i64 r)) (λr=>(-1<=r/\r<(a0.size:Int))):=by
 intro xs hx
 cases hx with
 |cons h1 hx=>
 cases hx with
 |cons h2 hx=>
 cases hx
 obtain rfl:=h1.sc_inv
 obtain rfl:=h2.sc_inv
 refine ⟨_,_,.sc,⟨_,rfl,Lib.indexByte_ge _ _,?_⟩,RL.valid_find a0 a1⟩
 have:=idx_lt a0.data.toList a1.toNat.toUInt8
 simpa using this
end Go.Abs.RM
end
section
namespace Go.Abs.RM
open Go.Proofs
section
variable {l:List S65} {a o z:List Int} {p y:Int}
end
def RawG (r:S30):Prop:=r.f0.size<=9223372036854775807/\(∀e∈r.f1,EM e)/\(∀e∈r.f3,EM e)/\r.f1.length<=9223372036854775807/\r.f2.length<=9223372036854775807/\r.f3.length<=9223372036854775807/\r.f4.length<=9223372036854775807/\r.f5.length<=9223372036854775807/\r.f7.length<=9223372036854775807/\r.f8.length<=9223372036854775807
end Go.Abs.RM
end
section
namespace Go.Abs.RM
noncomputable section
structure S2079 where
 f0:ByteArray
 f1:Int
 f2:List S65
 f3:List S65
 f4:Int
 f5:Int
 deriving Inhabited
def S2079.c (e:S2079):List WV:=[.sc (.string e.f0),.sc (.int .i64 e.f1),.lst (e.f2.map S65.c),.lst (e.f3.map S65.c),.sc (.int .i64 e.f4),.sc (.int .i64 e.f5)]
structure S2037 where
 f0:ByteArray
 f1:ByteArray
 f2:Int
 f3:Int
 f4:ByteArray
 f5:List S65
 f6:List Int
 f7:List S65
 f8:ByteArray
 f9:Int
 deriving Inhabited
def S2037.c (e:S2037):List WV:=[.sc (.string e.f0),.sc (.string e.f1),.sc (.int .i64 e.f2),.sc (.int .i64 e.f3),.sc (.string e.f4),.lst (e.f5.map S65.c),.lst (e.f6.map c_i64),.lst (e.f7.map S65.c),.sc (.string e.f8),.sc (.int .i64 e.f9)]
structure S2551 where
 f0:ByteArray
 f1:Int
 f2:Bool
 deriving Inhabited
def S2551.c (e:S2551):List WV:=[.sc (.string e.f0),.sc (.int .i64 e.f1),.sc (.bool e.f2)]
structure S2484 where
 f0:ByteArray
 f1:Int
 f2:Int
 f3:List S2551
 deriving Inhabited
def S2484.c (e:S2484):List WV:=[.sc (.string e.f0),.sc (.int .i64 e.f1),.sc (.int .i64 e.f2),.lst (e.f3.map S2551.c)]
structure S2486 where
 f0:ByteArray
 f1:ByteArray
 f2:Int
 f3:Int
 deriving Inhabited
def S2486.c (e:S2486):List WV:=[.sc (.string e.f0),.sc (.string e.f1),.sc (.int .i64 e.f2),.sc (.int .i64 e.f3)]
structure S2488 where
 f0:Int
 f1:Int
 f2:Int
 f3:Int
 deriving Inhabited
def S2488.c (e:S2488):List WV:=[.sc (.int .i64 e.f0),.sc (.int .i64 e.f1),.sc (.int .i64 e.f2),.sc (.int .i64 e.f3)]
structure S2490 where
 f0:ByteArray
 f1:S2488
 deriving Inhabited
def S2490.c (e:S2490):List WV:=[.sc (.string e.f0),.sc (.int .i64 e.f1.f0),.sc (.int .i64 e.f1.f1),.sc (.int .i64 e.f1.f2),.sc (.int .i64 e.f1.f3)]
structure S2492 where
 f0:ByteArray
 f1:ByteArray
 f2:Int
 f3:Int
 f4:Int
 deriving Inhabited
def S2492.c (e:S2492):List WV:=[.sc (.string e.f0),.sc (.string e.f1),.sc (.int .i64 e.f2),.sc (.int .i64 e.f3),.sc (.int .i64 e.f4)]
structure S2031 where
 f0:ByteArray
 f1:List S30
 f2:List S2079
 f3:List ByteArray
 f4:List S2037
 f5:List S2484
 f6:Int
 f7:List S2486
 f8:List S2490
 f9:List S2492
 f10:Bool
 f11:Int
 deriving Inhabited
def S2031.c (e:S2031):List WV:=[.sc (.string e.f0),.lst (e.f1.map S30.c),.lst (e.f2.map S2079.c),.lst (e.f3.map cStr),.lst (e.f4.map S2037.c),.lst (e.f5.map S2484.c),.sc (.int .i64 e.f6),.lst (e.f7.map S2486.c),.lst (e.f8.map S2490.c),.lst (e.f9.map S2492.c),.sc (.bool e.f10),.sc (.int .i64 e.f11)]
end
end Go.Abs.RM
end
section
namespace Go.Abs.RM
open Go.Proofs
set_option maxRecDepth 100000
def pinW (x:Nat->AV):Nat->List WV->List WV
 |_,[]=>[]
 |k,.lst _::r=>.pin (x k)::pinW x (k+1) r
 |k,v::r=>v::pinW x (k+1) r
def scl:WV->Bool
 |.sc _ | .lst _=>true
 |_=>false
def nth (xs:List AV) (i:Nat):AV:=xs.getD i nilA
theorem pinW_pr {x:Nat->AV}:∀{cs:List WV} {xs:List AV} {k:Nat},cs.all scl=true->PRs cs xs->(∀i,i<xs.length->x (k+i)=nth xs i)->PRs (pinW x k cs) xs
 |_,_,_,_,.nil,_=>.nil
 |c::cs,y::ys,k,hc,.cons h hs,hx=>by
  simp only [List.all_cons,Bool.and_eq_true] at hc
  have ih:=pinW_pr (x:=x) (k:=k+1) hc.2 hs λi hi=>by rw [Nat.add_right_comm,Nat.add_assoc];exact hx (i+1) (by simpa using hi)
  have h0:x k=y:=hx 0 (by simp)
  cases c with
  |lst es=>exact .cons (by rw [h0];exact .pin h) ih
  |sc v=>exact .cons h ih
  |_=>cases hc.1
theorem pinW_eq {x:Nat->AV}:∀{cs:List WV} {xs ys:List AV} {k:Nat},cs.all scl=true->PRs cs xs->(∀i,i<xs.length->x (k+i)=nth xs i)->PRs (pinW x k cs) ys->ys=xs
 |_,_,_,_,_,.nil,_,.nil=>rfl
 |c::cs,y::ys,zs,k,hc,.cons h hs,hx,hp=>by
  simp only [List.all_cons,Bool.and_eq_true] at hc
  have h0:x k=y:=hx 0 (by simp)
  have hx':∀i,i<ys.length->x (k+1+i)=nth ys i:=λi hi=>by rw [Nat.add_right_comm,Nat.add_assoc];exact hx (i+1) (by simpa using hi)
  cases c with
  |lst es=>cases hp with | cons a b=>rw [pinW_eq hc.2 hs hx' b];cases a;rw [h0]
  |sc v=>cases hp with | cons a b=>rw [pinW_eq hc.2 hs hx' b];cases a;cases h;rfl
  |_=>cases hc.1
theorem nth0 {xs:List AV} (i:Nat) (_:i<xs.length):nth xs (0+i)=nth xs i:=by rw [Nat.zero_add]
structure EP where
 d:S65
 xs:List AV
 h:PRs (S65.c d) xs
def EP.c (e:EP):List WV:=[.sc (.int .i64 e.d.f0),.sc (.string e.d.f1),.sc (.string e.d.f2),.sc (.int .i64 e.d.f3),.sc (.bool e.d.f4),.sc (.string e.d.f5),.sc (.int .i64 e.d.f6),.sc (.int .i64 e.d.f7),.pin (nth e.xs 8),.pin (nth e.xs 9),.sc (.string e.d.f10.f0),.sc (.int .i64 e.d.f10.f1),.sc (.int .i64 e.d.f10.f2),.sc (.bool e.d.f10.f3),.sc (.string e.d.f10.f4),.pin (nth e.xs 15),.pin (nth e.xs 16),.pin (nth e.xs 17),.pin (nth e.xs 18),.sc (.int .i64 e.d.f10.f7.f2),.sc (.int .i64 e.d.f10.f7.f3),.sc (.int .i64 e.d.f10.f7.f4),.sc (.int .i64 e.d.f10.f7.f5),.sc (.int .i64 e.d.f10.f7.f6),.sc (.int .i64 e.d.f10.f7.f7),.sc (.int .i64 e.d.f10.f7.f8),.sc (.int .i64 e.d.f11),.sc (.string e.d.f12.f0),.sc (.int .i64 e.d.f12.f1)]
theorem EP.pr (e:EP):PRs e.c e.xs:=pinW_pr rfl e.h nth0
theorem EP.eq (e:EP) {ys:List AV} (h:PRs e.c ys):ys=e.xs:=pinW_eq rfl e.h nth0 h
theorem EP.un (e:EP) {ys:List AV} (h:PRs e.c ys):PRs (S65.c e.d) ys:=by rw [e.eq h];exact e.h
structure RP where
 d:S30
 xs:List AV
 h:PRs (S30.c d) xs
def RP.c (e:RP):List WV:=[.sc (.string e.d.f0),.pin (nth e.xs 1),.pin (nth e.xs 2),.pin (nth e.xs 3),.pin (nth e.xs 4),.pin (nth e.xs 5),.sc (.int .i64 e.d.f6),.pin (nth e.xs 7),.pin (nth e.xs 8)]
theorem RP.pr (e:RP):PRs e.c e.xs:=pinW_pr rfl e.h nth0
theorem RP.eq (e:RP) {ys:List AV} (h:PRs e.c ys):ys=e.xs:=pinW_eq rfl e.h nth0 h
theorem RP.un (e:RP) {ys:List AV} (h:PRs e.c ys):PRs (S30.c e.d) ys:=by rw [e.eq h];exact e.h
end Go.Abs.RM
end
section
namespace Go.Abs.RM
open Go.Proofs
set_option maxRecDepth 100000
theorem methT : MethOK Tryz.prog 135 "fedchat/server.handle" 546 := λv w => by kernel_rfl
theorem methP : MethOK Tryz.prog 136 "fedchat/server.handle" 553 := λv w => by kernel_rfl
end Go.Abs.RM
end
