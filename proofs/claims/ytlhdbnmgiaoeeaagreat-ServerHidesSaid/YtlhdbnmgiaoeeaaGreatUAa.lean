/- Of ServerHides: lemmas. -/
import Derived.Orders
import Derived.Below
import Derived.Deep.MidRow
set_option linter.all false
section
namespace Go.Abs
inductive AV where
 |sc (x:Value)
 |agg (cs:List AV)
 |tup (vs:List AV)
 |isl (es:List (List AV)) (capped:Bool)
 |ipt (cs:List AV)
 |imp (keys:List Value) (vals:List AV)
 |sl (n g off len:Nat) (cap:Option Nat)
 |pt (n g i fo:Nat)
 |mp (n:Nat)
 |fn (f:Fn) (first caps:List AV)
 |ifc (t:TypeId) (x:AV)
 deriving Inhabited
def isY:Fn->Bool
 |.yield _=>true
 |_=>false
inductive AO where
 |cells (es:List (List AV)) (s fz:Nat)
 |map (keys:List Value) (vals:List AV) (borns:List Nat) (clock:Nat) (frozen:Bool)
 |loop (T:List (Nat×AV)) (N:Nat) (ps:List Tmp) (asg body:Code) (st:LoopState) (pend:Option Code)
 deriving Inhabited
def freshB (b:Nat):List Nat->Bool
 |[]=>true
 |c::r=>bif Nat.beq b c then false else freshB b r
def bornsOk (clock:Nat):List Nat->Bool
 |[]=>true
 |b::r=>Nat.blt b clock&&(freshB b r&&bornsOk clock r)
theorem freshB_mem:∀{b:Nat} {l:List Nat},freshB b l=true->b∉l
 |b,[],_=>by simp
 |b,c::r,h=>by
  simp only [freshB] at h
  cases hq:Nat.beq b c with
  |true=>rw [hq] at h;cases h
  |false=>
   rw [hq] at h
   intro hm
   rcases List.mem_cons.1 hm with e | hm
   ·rw [e,Nat.beq_refl] at hq;cases hq
   ·exact freshB_mem h hm
theorem bornsOk_ok:∀{clock:Nat} {l:List Nat},bornsOk clock l=true->l.Nodup/\∀b∈l,b<clock
 |_,[],_=>⟨List.nodup_nil,λ_ h=>by cases h⟩
 |clock,b::r,h=>by
  simp only [bornsOk,Bool.and_eq_true] at h
  obtain ⟨h1,h2,h3⟩:=h
  obtain ⟨q1,q2⟩:=bornsOk_ok h3
  refine ⟨List.nodup_cons.2 ⟨freshB_mem h2,q1⟩,λc hc=>?_⟩
  rcases List.mem_cons.1 hc with rfl | hc
  ·rwa [Nat.blt_eq] at h1
  ·exact q2 c hc
def look {α:Type}:List (Nat×α)->Nat->Option α
 |[],_=>none
 |(m,a)::r,n=>if m=n then some a else look r n
def put {α:Type}:List (Nat×α)->Nat->α->List (Nat×α)
 |[],n,x=>[(n,x)]
 |(m,a)::r,n,x=>if m=n then (m,x)::r else (m,a)::put r n x
theorem look_put {α:Type} (l:List (Nat×α)) (n m:Nat) (x:α):look (put l n x) m=if n=m then some x else look l m:=by
 induction l with
 |nil=>simp [put,look]
 |cons p r ih=>
  obtain ⟨k,a⟩:=p
  simp only [put]
  split
  ·rename_i h;subst h
   simp only [look]
   split<;>rfl
  ·rename_i h
   simp only [look,ih]
   split
   ·rename_i h2;subst h2
    rw [if_neg (λe=>h e.symm)]
   ·rfl
structure Heap where
 objs:List (Nat×AO)
 next:Nat
 deriving Inhabited
def Heap.empty:Heap:=⟨[],0⟩
def scalarB:Value->Bool
 |.bool _ | .int _ _ | .float _ _ | .complex _ _ _ | .string _ | .nilFunc | .nilIface=>true
 |.pointer none | .map none | .chan none | .slice none 0 0=>true
 |.tuple vs=>vs.size==0
 |_=>false
def AV.storable:AV->Bool
 |.sc (.tuple _) | .agg _ | .tup _=>false
 |_=>true
inductive TyK where
 |int (k:IntKind)
 |str
 |bool
 |strct (fields:List (Nat×TypeId))
 |arr (n:Nat) (e:TypeId)
 |slice (e:TypeId)
 |map (k e:TypeId)
 |ptr
 |iface
 |other
 deriving Inhabited
structure TyD where
 k:TyK
 size:Nat
 bytes:Nat
 zero:List Value
 flat:Option (List TyK):=none
 deriving Inhabited
def TyD.isAgg (d:TyD):Bool:=match d.k with | .strct _ | .arr _ _=>true | _=>false
inductive Eff where
 |loc (reads:List Nat) (ups:List (Nat×AO)) (news:Nat)
 |glob (h:Heap)
 deriving Inhabited
structure Res where
 v:AV
 e:Eff
 deriving Inhabited
abbrev Tm:=Nat->Option AV
abbrev Tab:=TypeId->Option TyD
def quiet (v:AV):Option Res:=some ⟨v,.loc [] [] 0⟩
def reads (v:AV) (n:Nat):Option Res:=some ⟨v,.loc [n] [] 0⟩
def undefA:AV:=.sc (.tuple #[])
def ofConst:Value->Option AV
 |.agg cs=>if cs.all scalarB then some (.agg (cs.toList.map .sc)) else none
 |v=>if scalarB v then some (.sc v) else none
def aev (T:Tm):Operand->Option AV
 |.tmp t=>T t
 |.const v=>ofConst v
 |.func f=>some (.fn (.func f) [] [])
 |.global _=>none
def cellsOf:AV->Option (List AV)
 |.agg cs=>some cs
 |.tup _=>none
 |.sc (.tuple _)=>none
 |v=>some [v]
def ofCells (d:TyD) (cs:List AV):Option AV:=
 if cs.length=d.size then (if d.isAgg then some (.agg cs) else match cs with | [v]=>some v | _=>none) else none
def splice (cs:List AV) (at_:Nat) (new:List AV):List AV:=cs.take at_++new++cs.drop (at_+new.length)
def fillParts (place:Nat->Option (Nat×Nat)) (cells:List AV):List (Nat×AV)->Option (List AV)
 |[]=>some cells
 |(i,v)::rest=>
  match place i,cellsOf v with
  |some (off,size),some cs=>if cs.length=size/\off+size<=cells.length then fillParts place (splice cells off cs) rest else none
  |_,_=>none
def mapOpt {α β:Type} (f:α->Option β):List α->Option (List β)
 |[]=>some []
 |a::r=>match f a with | none=>none | some b=>match mapOpt f r with | none=>none | some bs=>some (b::bs)
def setParts (s:Nat) (es:List (List AV)):List (Nat×AV)->Option (List (List AV))
 |[]=>some es
 |(i,v)::rest=>
  match cellsOf v with
  |some cs=>if cs.length=s/\i<es.length then setParts s (es.set i cs) rest else none
  |none=>none
def pureVal:Sem Value->Option Value
 |.pure v=>some v
 |_=>none
def intOf:AV->Option Int
 |.sc (.int _ n)=>some n
 |_=>none
def shown (H:Heap) (s:Nat):AV->Option (List (List AV)×List Nat)
 |.sc (.slice none 0 0)=>some ([],[])
 |.isl es _=>if es.all (·.length==s) then some (es,[]) else none
 |.sl n g off len _=>match look H.objs n with
  |some (.cells es s' _)=>if es.length=g/\s'=s/\off+len<=g then some ((es.drop off).take len,[n]) else none
  |_=>none
 |_=>none
def bytesOf (x:ByteArray):List (List AV):=x.data.toList.map λb=>[.sc (.int .u8 b.toNat)]
def roomOk (bytes need:Nat):Bool:=(2*need+192)*bytes<=2 ^ 48&&need<=2 ^ 60
def appendA (H:Heap) (st:Nat) (d:TyD) (s:AV) (xs:List (List AV)) (rd:List Nat):Option Res:=
 let fresh (old:List (List AV)) (rd':List Nat):Option Res:=
  if roomOk d.bytes (old.length+xs.length) then some ⟨.sl st (old.length+xs.length) 0 (old.length+xs.length) none,.loc (rd'++rd) [(st,.cells (old++xs) d.size 0)] 1⟩ else none
 if xs.length=0 then (match s with
  |.sc (.slice none 0 0) | .isl _ _ | .sl _ _ _ _ _=>some ⟨s,.loc rd [] 0⟩
  |_=>none)
 else match s with
 |.sc (.slice none 0 0)=>fresh [] []
 |.isl es true=>if es.all (·.length==d.size) then fresh es [] else none
 |.sl n g off len cap=>match look H.objs n with
  |some (.cells es s' fz)=>
   if es.length=g/\s'=d.size/\off+len<=g then
    let inplace:Option Res:=if fz<=off+len/\xs.all (·.all AV.storable) then
        some ⟨.sl n g off (len+xs.length) cap,.loc (n::rd) [(n,.cells (es.take (off+len)++xs++es.drop (off+len+xs.length)) s' fz)] 0⟩ else none
    match cap with
    |some c=>if off+c<=g then (if len+xs.length<=c then inplace else fresh ((es.drop off).take len) [n]) else none
    |none=>if off+len+xs.length<=g then inplace
     else if off=0/\len=g/\fz<=g/\roomOk d.bytes (len+xs.length)/\xs.all (·.all AV.storable) then some ⟨.sl n (g+xs.length) 0 (len+xs.length) none,.loc (n::rd) [(n,.cells (es++xs) s' fz)] 0⟩
     else none
   else none
  |_=>none
 |_=>none
def sameKey:Value->Value->Option Bool
 |.int k a,.int k' b=>if k=k' then some (a==b) else none
 |.string a,.string b=>some (a==b)
 |.bool a,.bool b=>some (a==b)
 |_,_=>none
def findK (k:Value):List Value->Nat->Option (Option Nat)
 |[],_=>some none
 |x::r,i=>match sameKey k x with
  |some true=>some (some i)
  |some false=>findK k r (i+1)
  |none=>none
def fitK:TyK->Value->Bool
 |.int _,.int _ _ | .str,.string _ | .bool,.bool _=>true
 |_,_=>false
def eqVals:List TyK->List Value->List Value->Option Bool
 |[],[],[]=>some true
 |k::ks,a::as,b::bs=>if fitK k a then match sameKey a b,eqVals ks as bs with
   |some x,some y=>some (x&&y)
   |_,_=>none
  else none
 |_,_,_=>none
def scs:List AV->Option (List Value)
 |[]=>some []
 |.sc x::r=>match scs r with | some l=>some (x::l) | none=>none
 |_=>none
def keyOf:TyK->AV->Option Value
 |.int _,.sc (.int j n)=>some (.int j n)
 |.str,.sc (.string s)=>some (.string s)
 |.bool,.sc (.bool b)=>some (.bool b)
 |_,_=>none
end Go.Abs
end
section
namespace Go.Abs
section
variable (tab:Tab)
def readAt (H:Heap) (a:AV) (n:Nat):Option (List AV×List Nat):=
 match a with
 |.ipt cs=>if n<=cs.length then some (cs.take n,[]) else none
 |.pt m g i fo=>match look H.objs m with
  |some (.cells es s _)=>
   if es.length=g then
    match es[i]? with
    |some e=>if fo+n<=s then some ((e.drop fo).take n,[m])
             else if fo=0/\i*s+n<=g*s then some (((es.drop i).flatten).take n,[m]) else none
    |none=>none
   else none
  |_=>none
 |_=>none
def loadA (H:Heap) (d:TyD) (a:AV):Option Res:=
 match readAt H a d.size with
 |some (cs,rd)=>match ofCells d cs with | some v=>some ⟨v,.loc rd [] 0⟩ | none=>none
 |none=>none
def chunks (s:Nat):Nat->List AV->List (List AV)
 |0,_=>[]
 |k+1,cs=>cs.take s::chunks s k (cs.drop s)
def storeA (H:Heap) (d:TyD) (a x:AV):Option Res:=
 match a,cellsOf x with
 |.pt m g i fo,some cs=>match look H.objs m with
  |some (.cells es s fz)=>
   if es.length=g/\cs.length=d.size/\cs.all AV.storable/\fz<=i then
    match es[i]? with
    |some e=>if fo+d.size<=s then some ⟨undefA,.loc [m] [(m,.cells (es.set i (splice e fo cs)) s fz)] 0⟩
             else if fo=0/\s≠0/\d.size % s=0/\i+d.size / s<=g then
              some ⟨undefA,.loc [m] [(m,.cells (es.take i++chunks s (d.size / s) cs++es.drop (i+d.size / s)) s fz)] 0⟩
             else none
    |none=>none
   else none
  |_=>none
 |_,_=>none
def newVarA (st:Nat) (d:TyD) (cs:List AV):Option Res:=
 match d.k with
 |.arr n e=>match tab e with
  |some de=>if cs.length=n*de.size then some ⟨.pt st n 0 0,.loc [] [(st,.cells (chunks de.size n cs) de.size 0)] 1⟩ else none
  |none=>none
 |_=>some ⟨.pt st 1 0 0,.loc [] [(st,.cells [cs] cs.length 0)] 1⟩
def fieldAtA (d:TyD) (a:AV) (f:Nat):Option Res:=
 match d.k with
 |.strct fs=>match fs[f]? with
  |some (off,t)=>match tab t with
   |some dt=>if dt.size=0 then none else match a with
    |.ipt cs=>if off+dt.size<=cs.length then quiet (.ipt (cs.drop off)) else none
    |.pt n g i fo=>quiet (.pt n g i (fo+off))
    |_=>none
   |none=>none
  |none=>none
 |_=>none
def partA (t:TypeId) (cs:List AV) (off:Nat):Option AV:=
 match tab t with
 |some dt=>if off+dt.size<=cs.length then ofCells dt ((cs.drop off).take dt.size) else none
 |none=>none
def fieldA (d:TyD) (x:AV) (f:Nat):Option Res:=
 match d.k,x with
 |.strct fs,.agg cs=>match fs[f]? with
  |some (off,t)=>match partA tab t cs off with | some v=>quiet v | none=>none
  |none=>none
 |_,_=>none
def indexAtA (H:Heap) (d:TyD) (x:AV) (i:Int):Option Res:=
 match d.k with
 |.slice e=>match tab e with
  |some de=>match x with
   |.isl es _=>if 0<=i then (match es[i.toNat]? with
    |some c=>if c.length=de.size then quiet (.ipt c) else none
    |none=>none) else none
   |.sl n g off len _=>match look H.objs n with
    |some (.cells es s _)=>if es.length=g/\s=de.size/\0<=i/\i<len/\off+len<=g then reads (.pt n g (off+i.toNat) 0) n else none
    |_=>none
   |_=>none
  |none=>none
 |.arr m e=>match tab e with
  |some de=>if 0<=i/\i<m then (match x with
   |.ipt cs=>if (i.toNat+1)*de.size<=cs.length then quiet (.ipt (cs.drop (i.toNat*de.size))) else none
   |.pt n g k fo=>match look H.objs n with
    |some (.cells es s _)=>if es.length=g/\s=de.size/\fo=0/\k+m<=g then reads (.pt n g (k+i.toNat) 0) n
     else if es.length=g/\fo+m*de.size<=s then reads (.pt n g k (fo+i.toNat*de.size)) n else none
    |_=>none
   |_=>none) else none
  |none=>none
 |_=>none
def indexA (d:TyD) (x:AV) (i:Int):Option Res:=
 match d.k,x with
 |.str,.sc (.string s)=>if 0<=i then (match s[i.toNat]? with | some b=>quiet (.sc (.int .u8 b.toNat)) | none=>none) else none
 |.arr n e,.agg cs=>if 0<=i/\i<n then (match tab e with
  |some de=>match partA tab e cs (i.toNat*de.size) with | some v=>quiet v | none=>none
  |none=>none) else none
 |_,_=>none
def mxA (cl:Nat) (cap:Option Nat):Option Int->Option (Option Nat)
 |none=>some cap
 |some v=>match cap with
  |some c=>if 0<=v/\v<=c then some (some v.toNat) else none
  |none=>if 0<=v/\v<=cl then some (some v.toNat) else none
def hiA (len cl:Nat) (m:Option Nat) (has:Bool):Option Int->Option Nat
 |none=>if has then none else some len
 |some v=>match m with
  |some c=>if 0<=v/\v<=c then some v.toNat else none
  |none=>if 0<=v/\v<=cl then some v.toNat else none
def loA (h:Nat):Option Int->Option Nat
 |none=>some 0
 |some v=>if 0<=v/\v<=h then some v.toNat else none
def boundsA (len cl:Nat) (cap:Option Nat) (lo hi mx:Option Int):Option (Nat×Nat×Option Nat):=
 match mxA cl cap mx with
 |none=>none
 |some m=>match hiA len cl m mx.isSome hi with
  |none=>none
  |some h=>match loA h lo with
   |none=>none
   |some l=>some (l,h,m)
def sliceA (H:Heap) (d:TyD) (x:AV) (lo hi mx:Option Int):Option Res:=
 match d.k with
 |.str=>match x,mx with
  |.sc (.string s),none=>match boundsA s.size s.size (some s.size) lo hi none with
   |some (l,h,_)=>quiet (.sc (.string (s.extract l h)))
   |none=>none
  |_,_=>none
 |.slice e=>match tab e with
  |some de=>match x with
   |.sc (.slice none 0 0)=>match boundsA 0 0 (some 0) lo hi mx with
    |some _=>quiet x
    |none=>none
   |.isl es capd=>match boundsA es.length es.length (if capd then some es.length else none) lo hi mx with
    |some (l,h,m)=>if h<=es.length/\es.all (·.length==de.size) then quiet (.isl ((es.drop l).take (h-l)) (m==some h)) else none
    |none=>none
   |.sl n g off len cap=>match look H.objs n with
    |some (.cells es s _)=>if es.length=g/\s=de.size then (match boundsA len (g-off) cap lo hi mx with
     |some (l,h,m)=>match m with
      |some c=>if off+c<=g then reads (.sl n g (if c=l then off else off+l) (h-l) (some (c-l))) n else none
      |none=>if (l<len\/l<h\/l=0)/\off+h<=g then reads (.sl n g (off+l) (h-l) none) n else if l=h then reads (.isl [] false) n else none
     |none=>none) else none
    |_=>none
   |_=>none
  |none=>none
 |.arr m e=>match tab e with
  |some de=>match x with
   |.pt n g k fo=>match look H.objs n with
    |some (.cells es s _)=>if es.length=g/\s=de.size/\fo=0/\k+m<=g then (match boundsA m m (some m) lo hi mx with
     |some (l,h,some c)=>reads (.sl n g (if c=l then k else k+l) (h-l) (some (c-l))) n
     |_=>none) else none
    |_=>none
   |_=>none
  |none=>none
 |_=>none
def entriesOf (H:Heap):AV->Option (List Value×List AV×List Nat)
 |.sc (.map none)=>some ([],[],[])
 |.imp ks vs=>some (ks,vs,[])
 |.mp n=>match look H.objs n with
  |some (.map ks vs _ _ _)=>some (ks,vs,[n])
  |_=>none
 |_=>none
def zeroOf (d:TyD):Option AV:=ofCells d (d.zero.map .sc)
def keyA (dk:TyD) (k:AV):Option Value:=match keyOf dk.k k with
 |some v=>some v
 |none=>match dk.k,k with
  |.arr 2 e,.agg [.sc (.string a),.sc (.string b)]=>(match tab e with
   |some de=>(match de.k with
    |.str=>if de.size=1 then some (.agg #[.string a,.string b]) else none
    |_=>none)
   |none=>none)
  |_,_=>none
def lookupA (H:Heap) (d:TyD) (x k:AV) (ok:Bool):Option Res:=
 match d.k with
 |.map kt et=>match tab kt,tab et with
  |some dk,some de=>(match keyA tab dk k,entriesOf H x with
   |some kv,some (ks,vs,rd)=>match findK kv ks 0 with
    |some (some i)=>match vs[i]? with
     |some v=>some ⟨if ok then .tup [v,.sc (.bool true)] else v,.loc rd [] 0⟩
     |none=>none
    |some none=>match zeroOf de with
     |some v=>some ⟨if ok then .tup [v,.sc (.bool false)] else v,.loc rd [] 0⟩
     |none=>none
    |none=>none
   |_,_=>none)
  |_,_=>none
 |_=>none
def updateA (H:Heap) (d:TyD) (m k x:AV):Option Res:=
 match d.k with
 |.map kt _=>match tab kt with
  |some dk=>(match m,keyA tab dk k with
   |.mp n,some kv=>match look H.objs n with
    |some (.map ks vs bs clock false)=>match findK kv ks 0 with
     |some (some i)=>if i<vs.length then some ⟨undefA,.loc [n] [(n,.map ks (vs.set i x) bs clock false)] 0⟩ else none
     |some none=>some ⟨undefA,.loc [n] [(n,.map (ks++[kv]) (vs++[x]) (bs++[clock]) (clock+1) false)] 0⟩
     |none=>none
    |_=>none
   |_,_=>none)
  |none=>none
 |_=>none
def entryA (H:Heap) (d:TyD) (m k:AV):Option Res:=
 match d.k with
 |.map kt et=>match tab kt,tab et with
  |some dk,some de=>(match m,keyA tab dk k with
   |.mp n,some kv=>match look H.objs n with
    |some (.map ks vs bs clock false)=>match findK kv ks 0 with
     |some (some i)=>match vs[i]?,bs[i]? with
      |some v,some b=>some ⟨.tup [v,.sc (.int .i64 b)],.loc [n] [(n,.map ks vs bs clock false)] 0⟩
      |_,_=>none
     |some none=>match zeroOf de with
      |some z=>some ⟨.tup [z,.sc (.int .i64 clock)],.loc [n] [(n,.map (ks++[kv]) (vs++[z]) (bs++[clock]) (clock+1) false)] 0⟩
      |none=>none
     |none=>none
    |_=>none
   |_,_=>none)
  |_,_=>none
 |_=>none
def entryStoreA (H:Heap) (m s x:AV):Option Res:=
 match m,intOf s with
 |.mp n,some b=>match look H.objs n with
  |some (.map ks vs bs clock false)=>match bs.findIdx? (λc:Nat=>Int.ofNat c==b) with
   |some i=>if i<vs.length then some ⟨undefA,.loc [n] [(n,.map ks (vs.set i x) bs clock false)] 0⟩ else none
   |none=>none
  |_=>none
 |_,_=>none
def lenA (H:Heap) (d:TyD) (x:AV):Option Res:=
 match d.k,x with
 |.str,.sc (.string s)=>quiet (.sc (.int .i64 s.size))
 |.arr n _,_=>quiet (.sc (.int .i64 n))
 |.slice _,.sc (.slice none 0 0)=>quiet (.sc (.int .i64 0))
 |.slice _,.isl es _=>quiet (.sc (.int .i64 es.length))
 |.slice _,.sl _ _ _ len _=>quiet (.sc (.int .i64 len))
 |.map _ _,x=>match entriesOf H x with
  |some (ks,_,rd)=>some ⟨.sc (.int .i64 ks.length),.loc rd [] 0⟩
  |none=>none
 |_,_=>none
def capA (H:Heap) (x:AV):Option Res:=
 match x with
 |.sc (.slice none 0 0)=>quiet (.sc (.int .i64 0))
 |.isl es true=>quiet (.sc (.int .i64 es.length))
 |.sl n g _ _ (some c)=>match look H.objs n with
  |some (.cells es _ _)=>if es.length=g then reads (.sc (.int .i64 c)) n else none
  |_=>none
 |_=>none
def overwrite (H:Heap) (dst:AV) (s:Nat) (new:List (List AV)) (v:AV) (rd:List Nat):Option Res:=
 if new.length=0 then some ⟨v,.loc rd [] 0⟩ else
 match dst with
 |.sl n g off len _=>match look H.objs n with
  |some (.cells es s' fz)=>if es.length=g/\s'=s/\new.length<=len/\off+len<=g/\fz<=off/\new.all (·.all AV.storable) then
   some ⟨v,.loc (n::rd) [(n,.cells (es.take off++new++es.drop (off+new.length)) s' fz)] 0⟩ else none
  |_=>none
 |_=>none
def copyA (H:Heap) (d:TyD) (dst src:AV):Option Res:=
 match d.k with
 |.slice e=>match tab e with
  |some de=>
   let src?:Option (List (List AV)×List Nat):=match src with
    |.sc (.string s)=>if de.size=1 then some (bytesOf s,[]) else none
    |_=>shown H de.size src
   let dlen?:Option Nat:=match dst with
    |.sc (.slice none 0 0)=>some 0
    |.sl _ _ _ len _=>some len
    |_=>none
   match src?,dlen? with
   |some (es,rd),some dl=>overwrite H dst de.size (es.take dl) (.sc (.int .i64 (min es.length dl:Nat))) rd
   |_,_=>none
  |none=>none
 |_=>none
def clearA (H:Heap) (d:TyD) (x:AV):Option Res:=
 match d.k with
 |.slice e=>match tab e with
  |some de=>match x with
   |.sc (.slice none 0 0)=>quiet undefA
   |.sl _ _ _ len _=>overwrite H x de.size (List.replicate len (de.zero.map .sc)) undefA []
   |_=>none
  |none=>none
 |.map _ _=>match x with
  |.mp n=>match look H.objs n with
   |some (.map _ _ _ clock false)=>some ⟨undefA,.loc [n] [(n,.map [] [] [] clock false)] 0⟩
   |_=>none
  |_=>none
 |_=>none
def deleteA (H:Heap) (d:TyD) (m k:AV):Option Res:=
 match d.k with
 |.map kt _=>match tab kt with
  |some dk=>(match m,keyA tab dk k with
   |.mp n,some kv=>match look H.objs n with
    |some (.map ks vs bs clock false)=>match findK kv ks 0 with
     |some (some i)=>some ⟨undefA,.loc [n] [(n,.map (ks.eraseIdx i) (vs.eraseIdx i) (bs.eraseIdx i) clock false)] 0⟩
     |some none=>some ⟨undefA,.loc [n] [(n,.map ks vs bs clock false)] 0⟩
     |none=>none
    |_=>none
   |_,_=>none)
  |none=>none
 |_=>none
def builtinA (H:Heap) (st:Nat) (b:Builtin) (ts:Array TypeId) (args:List AV):Option Res:=
 match b,args,(ts[0]?).bind tab with
 |.len,[x],some d=>lenA H d x
 |.cap,[x],some d=>match d.k with
  |.slice _=>capA H x
  |_=>none
 |.append,[s,x],some d=>match d.k with
  |.slice e=>match tab e,(ts[1]?).bind tab with
   |some de,some dx=>match dx.k with
    |.int _=>match intOf x with
     |some n=>match s with
      |.sc (.slice none 0 0)=>if 0<n/\n<=2 ^ 40/\de.zero.length=de.size then appendA H st de s (List.replicate n.toNat (de.zero.map .sc)) [] else none
      |_=>none
     |none=>none
    |.str=>match x with
     |.sc (.string str)=>if de.size=1 then appendA H st de s (bytesOf str) [] else none
     |_=>none
    |.slice _=>match shown H de.size x with
     |some (xs,rd)=>appendA H st de s xs rd
     |none=>none
    |_=>none
   |_,_=>none
  |_=>none
 |.copy,[dst,src],some d=>copyA tab H d dst src
 |.clear,[x],some d=>clearA tab H d x
 |.delete,[m,k],some d=>deleteA tab H d m k
 |.max,[.sc (.int k a),.sc (.int _ b)],_=>quiet (.sc (.int k (if b>a then b else a)))
 |.min,[.sc (.int k a),.sc (.int _ b)],_=>quiet (.sc (.int k (if b<a then b else a)))
 |_,_,_=>none
def nilEq (k:TyK) (c:Bool):AV->AV->Option Bool
 |.sc (.slice none 0 0),.sc (.slice none 0 0)=>match k with | .slice _=>some true | _=>none
 |.isl _ _,.sc (.slice none 0 0) | .sl _ _ _ _ _,.sc (.slice none 0 0)=>match k with | .slice _=>some false | _=>none
 |.sc (.pointer none),.sc (.pointer none)=>match k with | .ptr=>some true | _=>none
 |.ipt _,.sc (.pointer none) | .pt _ _ _ _,.sc (.pointer none)=>match k with | .ptr=>some false | _=>none
 |.sc .nilIface,.sc .nilIface=>match k with | .iface=>if c then some true else none | _=>none
 |.ifc _ _,.sc .nilIface=>match k with | .iface=>some false | _=>none
 |_,_=>none
def isConst:Operand->Bool
 |.const _=>true
 |_=>false
def eqA (d:TyD) (c:Bool):AV->AV->Option Bool
 |.sc (.bool a),.sc (.bool b)=>match d.k with | .bool=>some (a==b) | _=>none
 |.agg as,.agg bs=>match d.flat,scs as,scs bs with
  |some ks,some xs,some ys=>eqVals ks xs ys
  |_,_,_=>none
 |x,y=>nilEq d.k c x y
def binOpA (op:BinOp) (t:TypeId) (c:Bool) (x y:AV):Option Res:=
 match op,x,y with
 |op,.sc (.int k a),.sc (.int j b)=>match pureVal (binOp op t (.int k a) (.int j b)) with | some v=>quiet (.sc v) | none=>none
 |op,.sc (.string a),.sc (.string b)=>match op with
  |.add=>if a.size+b.size<=2 ^ 60 then quiet (.sc (.string (a++b))) else none
  |_=>match pureVal (Op.stringOp op a b) with | some v=>quiet (.sc v) | none=>none
 |.eql,x,y=>match tab t with
  |some d=>match eqA d c x y with | some b=>quiet (.sc (.bool b)) | none=>none
  |none=>none
 |.neq,x,y=>match tab t with
  |some d=>match eqA d c x y with | some b=>quiet (.sc (.bool (!b))) | none=>none
  |none=>none
 |_,_,_=>none
def convertA (src dst:TyD) (x:AV):Option Res:=
 match src.k,dst.k,x with
 |.int _,.int k,.sc (.int _ n)=>quiet (.sc (.int k (k.wrap n)))
 |.str,.str,.sc (.string s)=>quiet (.sc (.string s))
 |_,_,_=>none
def bytesOut:List AV->Option (List UInt8)
 |[]=>some []
 |.sc (.int .u8 n)::r=>match bytesOut r with | some l=>some (UInt8.ofNat n.toNat::l) | none=>none
 |_=>none
def bytesA (H:Heap) (src dst:TyD) (x:AV):Option Res:=
 match src.k,dst.k with
 |.slice e,.str=>match tab e with
  |some de=>match de.k with
   |.int .u8=>match shown H 1 x with
    |some (xs,rd)=>match bytesOut xs.flatten with
     |some l=>some ⟨.sc (.string ⟨l.toArray⟩),.loc rd [] 0⟩
     |none=>none
    |none=>none
   |_=>none
  |none=>none
 |_,_=>none
def strA (src dst:TyD) (x:AV):Option Res:=
 match src.k,dst.k,x with
 |.str,.slice e,.sc (.string s)=>match tab e with
  |some de=>match de.k with
   |.int .u8=>quiet (.isl (bytesOf s) false)
   |_=>none
  |none=>none
 |_,_,_=>none
def optA (T:Tm):Option Operand->Option (Option Int)
 |none=>some none
 |some z=>match aev T z with
  |some v=>(intOf v).map some
  |none=>none
def aop (T:Tm) (H:Heap) (st:Nat) (o:Oper):Option Res:=
 let ev:=aev T
 match o.op with
 |.move x | .assign x=>match ev x with | some v=>quiet v | none=>none
 |.pick c a b=>match ev c with
  |some (.sc (.bool true))=>(match ev a with | some v=>quiet v | none=>none)
  |some (.sc (.bool false))=>(match ev b with | some v=>quiet v | none=>none)
  |_=>none
 |.alloc t=>match tab t with
  |some d=>newVarA tab st d (d.zero.map .sc)
  |none=>none
 |.box t x=>match tab t,ev x with
  |some d,some v=>match cellsOf v with
   |some cs=>if cs.length=d.size then newVarA tab st d cs else none
   |none=>none
  |_,_=>none
 |.build t parts=>match tab t,mapOpt (λp:Nat×Operand=>(ev p.2).map λv=>(p.1,v)) parts.toList with
  |some d,some ps=>match d.k with
   |.strct fs=>match fillParts (λi=>(fs[i]?).bind λf=>(tab f.2).map λdf=>(f.1,df.size)) (d.zero.map .sc) ps with
    |some cs=>quiet (.agg cs)
    |none=>none
   |.arr _ e=>match tab e with
    |some de=>match fillParts (λi=>some (i*de.size,de.size)) (d.zero.map .sc) ps with
     |some cs=>quiet (.agg cs)
     |none=>none
    |none=>none
   |_=>none
  |_,_=>none
 |.buildSlice t len parts=>match tab t,mapOpt (λp:Nat×Operand=>(ev p.2).map λv=>(p.1,v)) parts.toList with
  |some d,some ps=>match d.k with
   |.slice e=>match tab e with
    |some de=>if len*de.size<=2 ^ 20/\de.zero.length=de.size/\de.size≠0 then
     (match setParts de.size (List.replicate len (de.zero.map .sc)) ps with
     |some es=>some ⟨.sl st len 0 len (some len),.loc [] [(st,.cells es de.size 0)] 1⟩
     |none=>none) else none
    |none=>none
   |_=>none
  |_,_=>none
 |.load t a=>match tab t,ev a with
  |some d,some p=>loadA H d p
  |_,_=>none
 |.store t a x=>match tab t,ev a,ev x with
  |some d,some p,some v=>storeA H d p v
  |_,_,_=>none
 |.nilCheck x=>match ev x with
  |some (.ipt cs)=>quiet (.ipt cs)
  |some (.pt n g i fo)=>quiet (.pt n g i fo)
  |some (.fn (.func f) a b)=>quiet (.fn (.func f) a b)
  |some (.fn (.yield f) a b)=>quiet (.fn (.yield f) a b)
  |some (.fn (.via t p f q) a b)=>quiet (.fn (.via t p f q) a b)
  |_=>none
 |.binOp op t x y _=>match ev x,ev y with
  |some a,some b=>binOpA tab op t (isConst x || isConst y) a b
  |_,_=>none
 |.unOp op _ x=>match ev x with
  |some (.sc v)=>(match v with
   |.int _ _ | .bool _=>(match pureVal (Op.unary op v) with | some r=>quiet (.sc r) | none=>none)
   |_=>none)
  |_=>none
 |.convert s d x=>match tab s,tab d,ev x with
  |some ds,some dd,some v=>(match bytesA tab H ds dd v with | some r=>some r | none=>(match strA tab ds dd v with | some r=>some r | none=>convertA ds dd v))
  |_,_,_=>none
 |.makeInterface t x=>match tab t,ev x with
  |some d,some v=>(match d.k with | .other | .iface=>none | _=>quiet (.ifc t v))
  |_,_=>none
 |.makeFunc f first caps=>match mapOpt ev first.toList,mapOpt ev caps.toList with
  |some a,some b=>if isY f then none else quiet (.fn f a b)
  |_,_=>none
 |.makeMap t r=>match tab t with
  |some d=>match d.k with
   |.map _ _=>
    let made:Option Res:=some ⟨.mp st,.loc [] [(st,.map [] [] [] 0 false)] 1⟩
    (match r with
    |none=>made
    |some x=>match ev x with
     |some v=>if (intOf v).isSome then made else none
     |none=>none)
   |_=>none
  |none=>none
 |.makeSlice t l c=>match tab t,ev l,ev c with
  |some d,some lv,some cv=>match d.k,intOf lv,intOf cv with
   |.slice e,some li,some ci=>match tab e with
    |some de=>if 0<=li/\li<=ci/\ci<=2 ^ 40/\de.bytes*ci<=2 ^ 47/\de.zero.length=de.size then
     some ⟨.sl st li.toNat 0 li.toNat (if li=ci then some li.toNat else none),.loc [] [(st,.cells (List.replicate li.toNat (de.zero.map .sc)) de.size 0)] 1⟩ else none
    |none=>none
   |_,_,_=>none
  |_,_,_=>none
 |.slice t x lo hi mx=>
  match tab t,ev x,optA T lo,optA T hi,optA T mx with
  |some d,some v,some l,some h,some m=>sliceA tab H d v l h m
  |_,_,_,_,_=>none
 |.fieldAddr t x f=>match tab t,ev x with
  |some d,some a=>fieldAtA tab d a f
  |_,_=>none
 |.field t x f=>match tab t,ev x with
  |some d,some v=>fieldA tab d v f
  |_,_=>none
 |.indexAddr t x i=>match tab t,ev x,ev i with
  |some d,some v,some iv=>match intOf iv with
   |some n=>indexAtA tab H d v n
   |none=>none
  |_,_,_=>none
 |.index t x i=>match tab t,ev x,ev i with
  |some d,some v,some iv=>match intOf iv with
   |some n=>indexA tab d v n
   |none=>none
  |_,_,_=>none
 |.lookup t x k ok=>match tab t,ev x,ev k with
  |some d,some m,some kv=>lookupA tab H d m kv ok
  |_,_,_=>none
 |.mapUpdate t m k x | .insert t m k x=>match tab t,ev m,ev k,ev x with
  |some d,some mv,some kv,some v=>updateA tab H d mv kv v
  |_,_,_,_=>none
 |.mapEntry t m k=>match tab t,ev m,ev k with
  |some d,some mv,some kv=>entryA tab H d mv kv
  |_,_,_=>none
 |.entryStore _ m s x=>match ev m,ev s,ev x with
  |some mv,some sv,some v=>entryStoreA H mv sv v
  |_,_,_=>none
 |.typeAssert x _ t ok=>match ev x,tab t with
  |some (.ifc u v),some d=>(match d.k with
   |.other | .iface=>none
   |_=>if u=t then quiet (if ok then .tup [v,.sc (.bool true)] else v)
    else if ok then (match zeroOf d with | some z=>quiet (.tup [z,.sc (.bool false)]) | none=>none) else none)
  |_,_=>none
 |.extract t i=>match ev t with
  |some (.tup vs)=>(match vs[i]? with | some v=>quiet v | none=>none)
  |_=>none
 |.call c=>match c.callee with
  |.builtin b=>match mapOpt ev c.args.toList with
   |some args=>builtinA tab H st b c.argTypes args
   |none=>none
  |_=>none
 |_=>none
end
end Go.Abs
end
section
namespace Go.Abs
def Row (w:World) (I:Nat->Nat->Prop) (a:Addr) (vs:List Value):Prop:=
 a.spot=none/\∀j v,vs[j]?=some v->I a.block (a.off+j)/\w.cell? ⟨a.block,a.off+j,none⟩=some v
def Ents (keys:List Value) (vs:List Value) (es:Array MapEntry):Prop:=
 es.toList.map (·.key)=keys/\es.toList.map (·.val)=vs
mutual
inductive TV (w:World) (I:Nat->Nat->Prop) (J:Nat->Prop):AV->Value->Prop
 |sc {x:Value} (h:scalarB x=true):TV w I J (.sc x) x
 |agg {cs:List AV} {ds:List Value} (h:TVs w I J cs ds):TV w I J (.agg cs) (.agg ds.toArray)
 |tup {cs:List AV} {ds:List Value} (h:TVs w I J cs ds):TV w I J (.tup cs) (.tuple ds.toArray)
 |isl {es:List (List AV)} {capd:Bool} {a:Addr} {vs:List Value} {s cap:Nat} (h:TVs w I J es.flatten vs) (hr:es≠[]->Row w I a vs)
  (hs:∀e∈es,e.length=s) (hc:es.length<=cap) (hd:capd=true->cap=es.length):TV w I J (.isl es capd) (.slice (some a) es.length cap)
 |ipt {cs:List AV} {a:Addr} {vs:List Value} (h:TVs w I J cs vs) (hr:Row w I a vs):TV w I J (.ipt cs) (.pointer (some a))
 |imp {keys:List Value} {vals:List AV} {vs:List Value} {r:Nat} {es:Array MapEntry} {clock:Nat} (h:TVs w I J vals vs) (hj:J r)
  (hw:w.heap[r]?=some (.map es clock)) (he:Ents keys vs es) (hb:bornsOk clock (es.toList.map (·.born))=true):TV w I J (.imp keys vals) (.map (some r))
 |fn {f:Fn} {first caps:List AV} {fs cs:List Value} (hy:isY f=false) (hf:TVs w I J first fs) (hc:TVs w I J caps cs):TV w I J (.fn f first caps) (.func f fs.toArray cs.toArray)
 |ifc {t:TypeId} {x:AV} {v:Value} (h:TV w I J x v):TV w I J (.ifc t x) (.iface t v)
inductive TVs (w:World) (I:Nat->Nat->Prop) (J:Nat->Prop):List AV->List Value->Prop
 |nil:TVs w I J [] []
 |cons {c:AV} {cs:List AV} {v:Value} {vs:List Value} (h:TV w I J c v) (hs:TVs w I J cs vs):TVs w I J (c::cs) (v::vs)
end
structure Sg where
 w:World
 I:Nat->Nat->Prop
 J:Nat->Prop
 r:Nat->Nat
 h:Nat->Option AO
 dead:Nat->Prop
def Gone (σ:Sg) (n g:Nat):Prop:=σ.dead n\/∃es s fz,σ.h n=some (.cells es s fz)/\g<es.length
def Stale (σ:Sg):AV->Value->Prop
 |.sl n g _ len _,v=>Gone σ n g/\∃a c,v=.slice (some a) len c/\len<=c
 |.pt n g _ _,v=>Gone σ n g/\∃b o,v=.pointer (some ⟨b,o,none⟩)
 |.mp n,v=>σ.dead n/\∃r,v=.map (some r)
 |_,_=>False
def CapOk (cap:Option Nat) (cap' off g:Nat):Prop:=(∀c,cap=some c->cap'=c/\off+c<=g)/\(cap=none->g<=off+cap')
mutual
inductive VR (σ:Sg):AV->Value->Prop
 |tree {x:AV} {v:Value} (h:TV σ.w σ.I σ.J x v):VR σ x v
 |agg {cs:List AV} {ds:List Value} (h:VRs σ cs ds):VR σ (.agg cs) (.agg ds.toArray)
 |tup {cs:List AV} {ds:List Value} (h:VRs σ cs ds):VR σ (.tup cs) (.tuple ds.toArray)
 |fn {f:Fn} {first caps:List AV} {fs cs:List Value} (hy:isY f=false) (hf:VRs σ first fs) (hc:VRs σ caps cs):VR σ (.fn f first caps) (.func f fs.toArray cs.toArray)
 |ifc {t:TypeId} {x:AV} {v:Value} (h:VR σ x v):VR σ (.ifc t x) (.iface t v)
 |sl {n off len cap':Nat} {cap:Option Nat} {es:List (List AV)} {s fz:Nat} {arr:Array Value} {t:TypeId} {rg:Nat×Nat}
  (hn:σ.h n=some (.cells es s fz)) (hw:σ.w.heap[σ.r n]?=some (.cells arr t rg)) (hl:off+len<=es.length) (hr:(off+cap')*s<=arr.size)
  (hle:len<=cap') (hc:CapOk cap cap' off es.length) :
  VR σ (.sl n es.length off len cap) (.slice (some ⟨σ.r n,off*s,none⟩) len cap')
 |pt {n i fo:Nat} {es:List (List AV)} {s fz:Nat} (hn:σ.h n=some (.cells es s fz)) :
  VR σ (.pt n es.length i fo) (.pointer (some ⟨σ.r n,i*s+fo,none⟩))
 |mp {n:Nat} {ks:List Value} {vs:List AV} {bs:List Nat} {clock:Nat} {fz:Bool} (hn:σ.h n=some (.map ks vs bs clock fz)) :
  VR σ (.mp n) (.map (some (σ.r n)))
 |yld {n:Nat} {T:List (Nat×AV)} {N:Nat} {ps:List Tmp} {asg body:Code} {st:LoopState} {pend:Option Code} (hn:σ.h n=some (.loop T N ps asg body st pend)) :
  VR σ (.fn (.yield n) [] []) (.func (.yield (σ.r n)) #[] #[])
 |stale {x:AV} {v:Value} (h:Stale σ x v):VR σ x v
inductive VRs (σ:Sg):List AV->List Value->Prop
 |nil:VRs σ [] []
 |cons {c:AV} {cs:List AV} {v:Value} {vs:List Value} (h:VR σ c v) (hs:VRs σ cs vs):VRs σ (c::cs) (v::vs)
end
def OR (σ:Sg) (n:Nat):AO->Prop
 |.cells es s fz=>∃(arr:Array Value) (t:TypeId) (rg:Nat×Nat) (vs:List Value),σ.w.heap[σ.r n]?=some (.cells arr t rg)/\¬σ.J (σ.r n)/\(∀off,off<=arr.size->¬(rg.1<=off/\off<rg.2))/\VRs σ es.flatten vs/\(∀e∈es,e.length=s)/\vs.length<=arr.size/\
  (∀(j:Nat) (v:Value),vs[j]?=some v->arr[j]?=some v)/\∀off,fz*s<=off->¬σ.I (σ.r n) off
 |.map ks xs bs clock fz=>∃ents vs,σ.w.heap[σ.r n]?=some (.map ents clock)/\VRs σ xs vs/\Ents ks vs ents/\ents.toList.map (·.born)=bs/\(fz=false->¬σ.J (σ.r n))
 |.loop T N ps asg body st pend=>∃rec:Loop,σ.w.heap[σ.r n]?=some (.loop rec)/\¬σ.J (σ.r n)/\rec.state=st/\rec.pending=pend/\rec.params.toList=ps/\rec.assign=asg/\rec.body=body/\rec.tmps.size=N/\
  ∀t v,look T t=some v->VR σ v (rec.tmps.getD t undef)
structure SR (σ:Sg):Prop where
 obj:∀n o,σ.h n=some o->OR σ n o
 inj:∀n m o p,σ.h n=some o->σ.h m=some p->σ.r n=σ.r m->n=m
 lt:∀n o,σ.h n=some o->σ.r n<σ.w.heap.size
 ilt:∀b off,σ.I b off->b<σ.w.heap.size
 jlt:∀b,σ.J b->b<σ.w.heap.size
 alive:∀n o,σ.h n=some o->¬σ.dead n
structure Le (σ σ':Sg):Prop where
 os:σ'.w.os=σ.w.os
 tape:σ'.w.tape=σ.w.tape
 output:σ'.w.output=σ.w.output
 size:σ.w.heap.size<=σ'.w.heap.size
 frame:∀b,b<σ.w.heap.size->(∀n o,σ.h n=some o->σ.r n≠b)->σ'.w.heap[b]?=σ.w.heap[b]?
 old:∀n o,σ'.h n=some o->σ.h n=none->σ.w.heap.size<=σ'.r n
 icell:∀b off,σ.I b off->σ'.I b off/\σ'.w.cell? ⟨b,off,none⟩=σ.w.cell? ⟨b,off,none⟩
 inew:∀b off,σ'.I b off->b<σ.w.heap.size->(∀n o,σ.h n=some o->σ.r n≠b)->σ.I b off
 jnew:∀b,σ'.J b->b<σ.w.heap.size->(∀n o,σ.h n=some o->σ.r n≠b)->σ.J b
 jmap:∀b,σ.J b->σ'.J b/\σ'.w.heap[b]?=σ.w.heap[b]?
 cells:∀n es s fz,σ.h n=some (.cells es s fz)->σ'.dead n\/∃es' fz',σ'.h n=some (.cells es' s fz')/\es.length<=es'.length/\
  ((σ'.r n=σ.r n/\∀arr t rg,σ.w.heap[σ.r n]?=some (.cells arr t rg)->∃arr' t' rg',σ'.w.heap[σ.r n]?=some (.cells arr' t' rg')/\arr'.size=arr.size)\/
   (es.length<es'.length/\σ.w.heap.size<=σ'.r n))
 maps:∀n ks vs bs c fz,σ.h n=some (.map ks vs bs c fz)->σ'.dead n\/(σ'.r n=σ.r n/\∃ks' vs' bs' c' fz',σ'.h n=some (.map ks' vs' bs' c' fz'))
 loops:∀n T N ps asg body st pend,σ.h n=some (.loop T N ps asg body st pend)->σ'.r n=σ.r n/\∃st' pend',σ'.h n=some (.loop T N ps asg body st' pend')
 deads:∀n,σ.dead n->σ'.dead n
structure Lv (σ σ':Sg):Prop where
 icell:∀b off,σ.I b off->σ'.I b off/\σ'.w.cell? ⟨b,off,none⟩=σ.w.cell? ⟨b,off,none⟩
 jmap:∀b,σ.J b->σ'.J b/\σ'.w.heap[b]?=σ.w.heap[b]?
 cells:∀n es s fz,σ.h n=some (.cells es s fz)->σ'.dead n\/∃es' fz',σ'.h n=some (.cells es' s fz')/\es.length<=es'.length/\
  ((σ'.r n=σ.r n/\∀arr t rg,σ.w.heap[σ.r n]?=some (.cells arr t rg)->∃arr' t' rg',σ'.w.heap[σ.r n]?=some (.cells arr' t' rg')/\arr'.size=arr.size)\/
   (es.length<es'.length/\σ.w.heap.size<=σ'.r n))
 maps:∀n ks vs bs c fz,σ.h n=some (.map ks vs bs c fz)->σ'.dead n\/(σ'.r n=σ.r n/\∃ks' vs' bs' c' fz',σ'.h n=some (.map ks' vs' bs' c' fz'))
 loops:∀n T N ps asg body st pend,σ.h n=some (.loop T N ps asg body st pend)->σ'.r n=σ.r n/\∃st' pend',σ'.h n=some (.loop T N ps asg body st' pend')
 deads:∀n,σ.dead n->σ'.dead n
theorem Le.v {σ σ':Sg} (l:Le σ σ'):Lv σ σ':=⟨l.icell,l.jmap,l.cells,l.maps,l.loops,l.deads⟩
theorem Le.refl (σ:Sg):Le σ σ where
 os:=rfl
 tape:=rfl
 output:=rfl
 size:=Nat.le_refl _
 frame:=λ_ _ _=>rfl
 old:=λn o h h'=>by rw [h] at h';cases h'
 icell:=λ_ _ h=>⟨h,rfl⟩
 inew:=λ_ _ h _ _=>h
 jnew:=λ_ h _ _=>h
 jmap:=λ_ h=>⟨h,rfl⟩
 cells:=λn es s fz h=>.inr ⟨es,fz,h,Nat.le_refl _,.inl ⟨rfl,λarr t rg h=>⟨arr,t,rg,h,rfl⟩⟩⟩
 maps:=λn ks vs bs c fz h=>.inr ⟨rfl,ks,vs,bs,c,fz,h⟩
 loops:=λn T N ps asg body st pend h=>⟨rfl,st,pend,h⟩
 deads:=λ_ h=>h
mutual
theorem TV.mono {w w':World} {I I':Nat->Nat->Prop} {J J':Nat->Prop} (hI:∀b off,I b off->I' b off/\w'.cell? ⟨b,off,none⟩=w.cell? ⟨b,off,none⟩)
 (hJ:∀b,J b->J' b/\w'.heap[b]?=w.heap[b]?) {x:AV} {v:Value}:TV w I J x v->TV w' I' J' x v
 |.sc h=>.sc h
 |.agg h=>.agg (TVs.mono hI hJ h)
 |.tup h=>.tup (TVs.mono hI hJ h)
 |.isl h hr hs hc hd=>.isl (TVs.mono hI hJ h) (λe=>⟨(hr e).1,λj v hv=>let ⟨p,q⟩:=(hr e).2 j v hv;⟨(hI _ _ p).1,(hI _ _ p).2.trans q⟩⟩) hs hc hd
 |.ipt h hr=>.ipt (TVs.mono hI hJ h) ⟨hr.1,λj v hv=>let ⟨p,q⟩:=hr.2 j v hv;⟨(hI _ _ p).1,(hI _ _ p).2.trans q⟩⟩
 |.imp h hj hw he hb=>.imp (TVs.mono hI hJ h) (hJ _ hj).1 ((hJ _ hj).2.trans hw) he hb
 |.fn hy hf hc=>.fn hy (TVs.mono hI hJ hf) (TVs.mono hI hJ hc)
 |.ifc h=>.ifc (TV.mono hI hJ h)
theorem TVs.mono {w w':World} {I I':Nat->Nat->Prop} {J J':Nat->Prop} (hI:∀b off,I b off->I' b off/\w'.cell? ⟨b,off,none⟩=w.cell? ⟨b,off,none⟩)
 (hJ:∀b,J b->J' b/\w'.heap[b]?=w.heap[b]?) {x:List AV} {v:List Value}:TVs w I J x v->TVs w' I' J' x v
 |.nil=>.nil
 |.cons h hs=>.cons (TV.mono hI hJ h) (TVs.mono hI hJ hs)
end
theorem Gone.monoV {σ σ':Sg} (l:Lv σ σ') {n g:Nat} (h:Gone σ n g):Gone σ' n g:=by
 rcases h with h | ⟨es,s,fz,h,hg⟩
 ·exact .inl (l.deads _ h)
 ·rcases l.cells _ _ _ _ h with d | ⟨es',fz',h',hle,_⟩
  ·exact .inl d
  ·exact .inr ⟨es',s,fz',h',by omega⟩
theorem Stale.monoV {σ σ':Sg} (l:Lv σ σ') {x:AV} {v:Value} (h:Stale σ x v):Stale σ' x v:=by
 cases x<;>simp only [Stale] at h ⊢
 case sl=>exact ⟨h.1.monoV l,h.2⟩
 case pt=>exact ⟨h.1.monoV l,h.2⟩
 case mp=>exact ⟨l.deads _ h.1,h.2⟩
mutual
theorem VR.monoV {σ σ':Sg} (l:Lv σ σ') {x:AV} {v:Value}:VR σ x v->VR σ' x v
 |.tree h=>.tree (h.mono l.icell l.jmap)
 |.agg h=>.agg (VRs.monoV l h)
 |.tup h=>.tup (VRs.monoV l h)
 |.fn hy hf hc=>.fn hy (VRs.monoV l hf) (VRs.monoV l hc)
 |.ifc h=>.ifc (VR.monoV l h)
 |@VR.sl _ n off len cap' cap es s fz arr t rg hn hw hl hr hle hc=>by
  rcases l.cells _ _ _ _ hn with d | ⟨es',fz',h',hlen,⟨hr',hs⟩ | ⟨hlt,_⟩⟩
  ·exact .stale ⟨.inl d,_,_,rfl,hle⟩
  ·by_cases hg:es'.length=es.length
   ·obtain ⟨arr',t',rg',hw',hsz⟩:=hs _ _ _ hw
    rw [<-hg,<-hr']
    exact VR.sl h' (by rw [hr'];exact hw') (by omega) (by rw [hsz];exact hr) hle (by rw [hg];exact hc)
   ·exact .stale ⟨.inr ⟨es',_,fz',h',by omega⟩,_,_,rfl,hle⟩
  ·exact .stale ⟨.inr ⟨es',_,fz',h',hlt⟩,_,_,rfl,hle⟩
 |@VR.pt _ n i fo es s fz hn=>by
  rcases l.cells _ _ _ _ hn with d | ⟨es',fz',h',hlen,⟨hr',hs⟩ | ⟨hlt,_⟩⟩
  ·exact .stale ⟨.inl d,_,_,rfl⟩
  ·by_cases hg:es'.length=es.length
   ·rw [<-hg,<-hr']
    exact VR.pt h'
   ·exact .stale ⟨.inr ⟨es',_,fz',h',by omega⟩,_,_,rfl⟩
  ·exact .stale ⟨.inr ⟨es',_,fz',h',hlt⟩,_,_,rfl⟩
 |.mp hn=>by
  rcases l.maps _ _ _ _ _ _ hn with d | ⟨hr,ks',vs',bs',c',fz',h'⟩
  ·exact .stale ⟨d,_,rfl⟩
  ·rw [<-hr];exact .mp h'
 |@VR.yld _ n T N ps asg body st pend hn=>by
  obtain ⟨hr,st',pend',h'⟩:=l.loops _ _ _ _ _ _ _ _ hn
  rw [<-hr];exact .yld h'
 |.stale h=>.stale (h.monoV l)
theorem VRs.monoV {σ σ':Sg} (l:Lv σ σ') {x:List AV} {v:List Value}:VRs σ x v->VRs σ' x v
 |.nil=>.nil
 |.cons h hs=>.cons (VR.monoV l h) (VRs.monoV l hs)
end
theorem VR.mono {σ σ':Sg} (l:Le σ σ') {x:AV} {v:Value} (h:VR σ x v):VR σ' x v:=h.monoV l.v
theorem VRs.mono {σ σ':Sg} (l:Le σ σ') {x:List AV} {v:List Value} (h:VRs σ x v):VRs σ' x v:=h.monoV l.v
theorem Le.notOwn {σ σ':Sg} (l:Le σ σ') (s':SR σ') {b:Nat} (hb:b<σ.w.heap.size) (h:∀n o,σ.h n=some o->σ.r n≠b):∀n o,σ'.h n=some o->σ'.r n≠b:=by
 intro n o hn e
 cases hh:σ.h n with
 |none=>have:=l.old n o hn hh;omega
 |some p=>
  have hne:=h n p hh
  cases p with
  |cells es s fz=>
   rcases l.cells _ _ _ _ hh with d | ⟨es',fz',h',hlen,⟨hr',_⟩ | ⟨_,hge⟩⟩
   ·exact s'.alive n o hn d
   ·omega
   ·omega
  |map ks vs bs c fz=>
   rcases l.maps _ _ _ _ _ _ hh with d | ⟨hr,_⟩
   ·exact s'.alive n o hn d
   ·omega
  |loop T N ps asg body st pend=>
   obtain ⟨hr,_⟩:=l.loops _ _ _ _ _ _ _ _ hh
   omega
theorem Le.trans {a b c:Sg} (l:Le a b) (sb:SR b) (m:Le b c) (sc:SR c):Le a c where
 os:=m.os.trans l.os
 tape:=m.tape.trans l.tape
 output:=m.output.trans l.output
 size:=Nat.le_trans l.size m.size
 frame:=λk hk h=>(m.frame k (Nat.lt_of_lt_of_le hk l.size) (l.notOwn sb hk h)).trans (l.frame k hk h)
 old:=λn o h h'=>by
  cases hb:b.h n with
  |none=>exact Nat.le_trans l.size (m.old n o h hb)
  |some p=>
   have h1:=l.old n p hb h'
   cases p with
   |cells es s fz=>
    rcases m.cells _ _ _ _ hb with d | ⟨es',fz',h',hlen,⟨hr',_⟩ | ⟨_,hge⟩⟩
    ·exact absurd d (sc.alive n o h)
    ·omega
    ·have:=l.size;omega
   |map ks vs bs c fz=>
    rcases m.maps _ _ _ _ _ _ hb with d | ⟨hr,_⟩
    ·exact absurd d (sc.alive n o h)
    ·omega
   |loop T N ps asg body st pend=>
    obtain ⟨hr,_⟩:=m.loops _ _ _ _ _ _ _ _ hb
    omega
 icell:=λk off h=>let ⟨p,q⟩:=l.icell k off h;let ⟨p',q'⟩:=m.icell k off p;⟨p',q'.trans q⟩
 inew:=λk off h hk hn=>l.inew k off (m.inew k off h (Nat.lt_of_lt_of_le hk l.size) (l.notOwn sb hk hn)) hk hn
 jnew:=λk h hk hn=>l.jnew k (m.jnew k h (Nat.lt_of_lt_of_le hk l.size) (l.notOwn sb hk hn)) hk hn
 jmap:=λk h=>let ⟨p,q⟩:=l.jmap k h;let ⟨p',q'⟩:=m.jmap k p;⟨p',q'.trans q⟩
 cells:=λn es s fz h=>by
  rcases l.cells n es s fz h with d | ⟨es',fz',h',hlen,hh⟩
  ·exact .inl (m.deads _ d)
  ·rcases m.cells n es' s fz' h' with d | ⟨es'',fz'',h'',hlen',hh'⟩
   ·exact .inl d
   ·refine .inr ⟨es'',fz'',h'',Nat.le_trans hlen hlen',?_⟩
    rcases hh with ⟨hr,hs⟩ | ⟨hlt,hge⟩
    ·rcases hh' with ⟨hr',hs'⟩ | ⟨hlt',hge'⟩
     ·refine .inl ⟨hr'.trans hr,λarr t rg ha=>?_⟩
      obtain ⟨a1,t1,r1,h1,e1⟩:=hs arr t rg ha
      obtain ⟨a2,t2,r2,h2,e2⟩:=hs' a1 t1 r1 (by rw [hr];exact h1)
      exact ⟨a2,t2,r2,by rw [hr] at h2;exact h2,e2.trans e1⟩
     ·exact .inr ⟨by omega,Nat.le_trans l.size hge'⟩
    ·rcases hh' with ⟨hr',hs'⟩ | ⟨hlt',hge'⟩
     ·exact .inr ⟨by omega,by omega⟩
     ·exact .inr ⟨by omega,Nat.le_trans l.size hge'⟩
 maps:=λn ks vs bs c fz h=>by
  rcases l.maps n ks vs bs c fz h with d | ⟨hr,ks',vs',bs',c',fz',h'⟩
  ·exact .inl (m.deads _ d)
  ·rcases m.maps n ks' vs' bs' c' fz' h' with d | ⟨hr',k2,v2,b2,c2,f2,h2⟩
   ·exact .inl d
   ·exact .inr ⟨hr'.trans hr,k2,v2,b2,c2,f2,h2⟩
 loops:=λn T N ps asg body st pend h=>by
  obtain ⟨hr,st',pend',h'⟩:=l.loops n T N ps asg body st pend h
  obtain ⟨hr',st2,pend2,h2⟩:=m.loops n T N ps asg body st' pend' h'
  exact ⟨hr'.trans hr,st2,pend2,h2⟩
 deads:=λn h=>m.deads n (l.deads n h)
end Go.Abs
end
section
namespace Go.Abs
section inversion
variable {σ:Sg} {w:World} {I:Nat->Nat->Prop} {J:Nat->Prop}
theorem TVs.vrs:∀{cs:List AV} {ds:List Value},TVs σ.w σ.I σ.J cs ds->VRs σ cs ds
 |_,_,.nil=>.nil
 |_,_,.cons h hs=>.cons (.tree h) (TVs.vrs hs)
theorem VR.sc_inv {x v:Value} (h:VR σ (.sc x) v):v=x/\scalarB x=true:=by
 cases h with
 |tree h=>cases h;exact ⟨rfl,by assumption⟩
 |stale h=>exact h.elim
theorem VR.agg_inv {cs:List AV} {v:Value} (h:VR σ (.agg cs) v):∃ds,v=.agg ds.toArray/\VRs σ cs ds:=by
 cases h with
 |tree h=>cases h with | agg h=>exact ⟨_,rfl,h.vrs⟩
 |agg h=>exact ⟨_,rfl,h⟩
 |stale h=>exact h.elim
theorem VR.tup_inv {cs:List AV} {v:Value} (h:VR σ (.tup cs) v):∃ds,v=.tuple ds.toArray/\VRs σ cs ds:=by
 cases h with
 |tree h=>cases h with | tup h=>exact ⟨_,rfl,h.vrs⟩
 |tup h=>exact ⟨_,rfl,h⟩
 |stale h=>exact h.elim
theorem VR.fn_inv {f:Fn} {first caps:List AV} {v:Value} (h:VR σ (.fn f first caps) v) (hy:isY f=false):∃fs cs,v=.func f fs.toArray cs.toArray/\VRs σ first fs/\VRs σ caps cs:=by
 cases h with
 |tree h=>cases h with | fn _ h h'=>exact ⟨_,_,rfl,h.vrs,h'.vrs⟩
 |fn _ h h'=>exact ⟨_,_,rfl,h,h'⟩
 |yld h=>cases hy
 |stale h=>exact h.elim
theorem VR.fn_any {f:Fn} {first caps:List AV} {v:Value} (h:VR σ (.fn f first caps) v):∃f' fs cs,v=.func f' fs cs:=by
 cases h with
 |tree h=>cases h with | fn _ h h'=>exact ⟨_,_,_,rfl⟩
 |fn _ h h'=>exact ⟨_,_,_,rfl⟩
 |yld h=>exact ⟨_,_,_,rfl⟩
 |stale h=>exact h.elim
theorem VR.yld_any {n:Nat} {first caps:List AV} {v:Value} (h:VR σ (.fn (.yield n) first caps) v):∃l,v=.func (.yield l) #[] #[]:=by
 cases h with
 |tree h=>cases h with | fn h _ _=>cases h
 |fn h _ _=>cases h
 |yld h=>exact ⟨_,rfl⟩
 |stale h=>exact h.elim
theorem VR.yld_inv {n:Nat} {v:Value} (h:VR σ (.fn (.yield n) [] []) v):v=.func (.yield (σ.r n)) #[] #[]/\∃T N ps asg body st pend,σ.h n=some (.loop T N ps asg body st pend):=by
 cases h with
 |tree h=>cases h with | fn h _ _=>cases h
 |fn h _ _=>cases h
 |yld h=>exact ⟨rfl,_,_,_,_,_,_,_,h⟩
 |stale h=>exact h.elim
theorem VR.ifc_inv {t:TypeId} {x:AV} {v:Value} (h:VR σ (.ifc t x) v):∃u,v=.iface t u/\VR σ x u:=by
 cases h with
 |tree h=>cases h with | ifc h=>exact ⟨_,rfl,.tree h⟩
 |ifc h=>exact ⟨_,rfl,h⟩
 |stale h=>exact h.elim
theorem VR.isl_inv {es:List (List AV)} {c:Bool} {v:Value} (h:VR σ (.isl es c) v) :
 ∃a vs s cap,v=.slice (some a) es.length cap/\TVs σ.w σ.I σ.J es.flatten vs/\(es≠[]->Row σ.w σ.I a vs)/\(∀e∈es,e.length=s)/\es.length<=cap/\(c=true->cap=es.length):=by
 cases h with
 |tree h=>cases h with | isl h hr hs hc hd=>exact ⟨_,_,_,_,rfl,h,hr,hs,hc,hd⟩
 |stale h=>exact h.elim
theorem VR.ipt_inv {cs:List AV} {v:Value} (h:VR σ (.ipt cs) v):∃a vs,v=.pointer (some a)/\TVs σ.w σ.I σ.J cs vs/\Row σ.w σ.I a vs:=by
 cases h with
 |tree h=>cases h with | ipt h hr=>exact ⟨_,_,rfl,h,hr⟩
 |stale h=>exact h.elim
theorem VR.imp_inv {ks:List Value} {xs:List AV} {v:Value} (h:VR σ (.imp ks xs) v) :
 ∃r vs es clock,v=.map (some r)/\TVs σ.w σ.I σ.J xs vs/\σ.J r/\σ.w.heap[r]?=some (.map es clock)/\Ents ks vs es:=by
 cases h with
 |tree h=>cases h with | imp h hj hw he hb=>exact ⟨_,_,_,_,rfl,h,hj,hw,he⟩
 |stale h=>exact h.elim
theorem VR.sl_inv {n g off len:Nat} {cap:Option Nat} {es:List (List AV)} {s fz:Nat} {v:Value} (h:VR σ (.sl n g off len cap) v) (sr:SR σ)
 (hn:σ.h n=some (.cells es s fz)) (hg:es.length=g) :
 ∃cap' arr t rg,v=.slice (some ⟨σ.r n,off*s,none⟩) len cap'/\σ.w.heap[σ.r n]?=some (.cells arr t rg)/\off+len<=g/\(off+cap')*s<=arr.size/\len<=cap'/\
  CapOk cap cap' off g:=by
 cases h with
 |tree h=>cases h
 |@sl _ _ _ cap' _ es' s' fz' arr t rg hn' hw hl hr hle hc=>
  rw [hn] at hn'
  cases hn'
  exact ⟨cap',arr,t,rg,rfl,hw,hl,hr,hle,hc⟩
 |stale h=>
  rcases h.1 with h | ⟨es',s',fz',h,hlt⟩
  ·exact absurd h (sr.alive _ _ hn)
  ·rw [hn] at h;cases h;omega
theorem VR.pt_inv {n g i fo:Nat} {es:List (List AV)} {s fz:Nat} {v:Value} (h:VR σ (.pt n g i fo) v) (sr:SR σ)
 (hn:σ.h n=some (.cells es s fz)) (hg:es.length=g):v=.pointer (some ⟨σ.r n,i*s+fo,none⟩):=by
 cases h with
 |tree h=>cases h
 |pt hn'=>rw [hn] at hn';cases hn';rfl
 |stale h=>
  rcases h.1 with h | ⟨es',s',fz',h,hlt⟩
  ·exact absurd h (sr.alive _ _ hn)
  ·rw [hn] at h;cases h;omega
theorem VR.mp_inv {n:Nat} {o:AO} {v:Value} (h:VR σ (.mp n) v) (sr:SR σ) (hn:σ.h n=some o):v=.map (some (σ.r n)):=by
 cases h with
 |tree h=>cases h
 |mp hn'=>rfl
 |stale h=>exact absurd h.1 (sr.alive _ _ hn)
theorem VR.int_inv {x:AV} {n:Int} {v:Value} (h:VR σ x v) (hx:intOf x=some n):∃k,x=.sc (.int k n)/\v=.int k n:=by
 unfold intOf at hx
 split at hx
 ·cases hx;obtain ⟨rfl,_⟩:=h.sc_inv;exact ⟨_,rfl,rfl⟩
 ·cases hx
end inversion
section lists
variable {σ:Sg}
theorem VRs.length:∀{cs:List AV} {ds:List Value},VRs σ cs ds->ds.length=cs.length
 |_,_,.nil=>rfl
 |_,_,.cons _ hs=>by simp [VRs.length hs]
theorem TVs.length {w:World} {I:Nat->Nat->Prop} {J:Nat->Prop}:∀{cs:List AV} {ds:List Value},TVs w I J cs ds->ds.length=cs.length
 |_,_,.nil=>rfl
 |_,_,.cons _ hs=>by simp [TVs.length hs]
theorem VRs.append:∀{cs cs':List AV} {ds ds':List Value},VRs σ cs ds->VRs σ cs' ds'->VRs σ (cs++cs') (ds++ds')
 |_,_,_,_,.nil,h=>h
 |_,_,_,_,.cons h hs,h'=>.cons h (VRs.append hs h')
theorem VRs.drop:∀(n:Nat) {cs:List AV} {ds:List Value},VRs σ cs ds->VRs σ (cs.drop n) (ds.drop n)
 |0,_,_,h=>h
 |_+1,_,_,.nil=>.nil
 |n+1,_,_,.cons _ hs=>VRs.drop n hs
theorem VRs.take:∀(n:Nat) {cs:List AV} {ds:List Value},VRs σ cs ds->VRs σ (cs.take n) (ds.take n)
 |0,_,_,_=>.nil
 |_+1,_,_,.nil=>.nil
 |n+1,_,_,.cons h hs=>.cons h (VRs.take n hs)
theorem TVs.drop {w:World} {I:Nat->Nat->Prop} {J:Nat->Prop}:∀(n:Nat) {cs:List AV} {ds:List Value},TVs w I J cs ds->TVs w I J (cs.drop n) (ds.drop n)
 |0,_,_,h=>h
 |_+1,_,_,.nil=>.nil
 |n+1,_,_,.cons _ hs=>TVs.drop n hs
theorem TVs.take {w:World} {I:Nat->Nat->Prop} {J:Nat->Prop}:∀(n:Nat) {cs:List AV} {ds:List Value},TVs w I J cs ds->TVs w I J (cs.take n) (ds.take n)
 |0,_,_,_=>.nil
 |_+1,_,_,.nil=>.nil
 |n+1,_,_,.cons h hs=>.cons h (TVs.take n hs)
theorem VRs.split:∀{cs cs':List AV} {ds:List Value},VRs σ (cs++cs') ds->∃d d',ds=d++d'/\VRs σ cs d/\VRs σ cs' d'
 |[],_,ds,h=>⟨[],ds,rfl,.nil,h⟩
 |_::cs,_,_,.cons h hs=>by
  obtain ⟨d,d',rfl,h1,h2⟩:=VRs.split (cs:=cs) hs
  exact ⟨_::d,d',rfl,.cons h h1,h2⟩
theorem VRs.get:∀{cs:List AV} {ds:List Value},VRs σ cs ds->∀{i:Nat} {c:AV},cs[i]?=some c->∃v,ds[i]?=some v/\VR σ c v
 |_,_,.cons h _,0,_,hc=>by simp at hc;subst hc;exact ⟨_,rfl,h⟩
 |_,_,.cons _ hs,i+1,c,hc=>by
  obtain ⟨v,hv,h⟩:=VRs.get hs (i:=i) (c:=c) (by simpa using hc)
  exact ⟨v,by simpa using hv,h⟩
theorem VRs.set:∀{cs:List AV} {ds:List Value},VRs σ cs ds->∀(i:Nat) {c:AV} {v:Value},VR σ c v->VRs σ (cs.set i c) (ds.set i v)
 |_,_,.nil,_,_,_,_=>.nil
 |_,_,.cons _ hs,0,_,_,h=>.cons h hs
 |_,_,.cons h0 hs,i+1,_,_,h=>.cons h0 (VRs.set hs i h)
theorem VRs.one {c:AV} {v:Value} (h:VR σ c v):VRs σ [c] [v]:=.cons h .nil
theorem vrs_sc:∀(l:List Value),l.all scalarB=true->VRs σ (l.map .sc) l
 |[],_=>.nil
 |v::r,h=>by
  simp only [List.all_cons,Bool.and_eq_true] at h
  exact .cons (.tree (.sc h.1)) (vrs_sc r h.2)
end lists
section arrays
def arrSet (arr:Array Value):Nat->List Value->Array Value
 |_,[]=>arr
 |o,v::r=>arrSet (arr.setIfInBounds o v) (o+1) r
theorem arrSet_size:∀(vs:List Value) (o:Nat) (arr:Array Value),(arrSet arr o vs).size=arr.size
 |[],_,_=>rfl
 |v::r,o,arr=>by rw [arrSet,arrSet_size r];simp
theorem arrSet_out:∀(vs:List Value) (o:Nat) (arr:Array Value) (j:Nat),(j<o\/o+vs.length<=j)->(arrSet arr o vs)[j]?=arr[j]?
 |[],_,_,_,_=>rfl
 |v::r,o,arr,j,h=>by
  rw [arrSet,arrSet_out r (o+1) _ j (by simp at h;omega)]
  rw [Array.getElem?_setIfInBounds_ne (by simp at h;omega)]
theorem arrSet_in:∀(vs:List Value) (o:Nat) (arr:Array Value) (j:Nat),o+vs.length<=arr.size->j<vs.length->(arrSet arr o vs)[o+j]?=vs[j]?
 |v::r,o,arr,0,h,_=>by
  rw [arrSet,arrSet_out r (o+1) _ (o+0) (by omega)]
  have ho:o<arr.size:=by simp at h;omega
  simp [ho]
 |v::r,o,arr,j+1,h,hj=>by
  rw [arrSet,show o+(j+1)=o+1+j by omega,arrSet_in r (o+1) _ j (by simp at h ⊢;omega) (by simpa using hj)]
  simp
theorem heap_setCells:∀(vs:List Value) (o:Nat) (w:World) (b:Nat) (arr:Array Value) (t:TypeId) (rg:Nat×Nat),w.heap[b]?=some (.cells arr t rg)->
 (w.setCells b o vs).heap[b]?=some (.cells (arrSet arr o vs) t rg)
 |[],_,_,_,_,_,_,h=>h
 |v::r,o,w,b,arr,t,rg,h=>by
  rw [World.setCells,arrSet]
  refine heap_setCells r (o+1) _ b _ t rg ?_
  simp [World.setCell,Array.getElem?_modify,h]
theorem heap_setCells_ne:∀(vs:List Value) (o:Nat) (w:World) (b c:Nat),c≠b->(w.setCells b o vs).heap[c]?=w.heap[c]?
 |[],_,_,_,_,_=>rfl
 |v::r,o,w,b,c,h=>by
  rw [World.setCells,heap_setCells_ne r (o+1) _ b c h]
  simp only [World.setCell,Array.getElem?_modify]
  rw [if_neg (λe=>h e.symm)]
theorem setCells_misc:∀(vs:List Value) (o:Nat) (w:World) (b:Nat),(w.setCells b o vs).os=w.os/\(w.setCells b o vs).tape=w.tape/\(w.setCells b o vs).output=w.output/\(w.setCells b o vs).heap.size=w.heap.size
 |[],_,_,_=>⟨rfl,rfl,rfl,rfl⟩
 |v::r,o,w,b=>by
  rw [World.setCells]
  obtain ⟨h1,h2,h3,h4⟩:=setCells_misc r (o+1) (w.setCell ⟨b,o,none⟩ v) b
  exact ⟨h1.trans rfl,h2.trans rfl,h3.trans rfl,h4.trans (by simp)⟩
theorem cell_of_heap {w:World} {b off:Nat} {arr:Array Value} {t:TypeId} {rg:Nat×Nat} (h:w.heap[b]?=some (.cells arr t rg)):w.cell? ⟨b,off,none⟩=arr[off]?:=by
 simp [World.cell?,h]
theorem cell_same {w w':World} {b off:Nat} (h:w'.heap[b]?=w.heap[b]?):w'.cell? ⟨b,off,none⟩=w.cell? ⟨b,off,none⟩:=by
 simp [World.cell?,h]
end arrays
def upd {α:Type} (f:Nat->α) (n:Nat) (a:α):Nat->α:=λm=>if m=n then a else f m
theorem upd_same {α:Type} (f:Nat->α) (n:Nat) (a:α):upd f n a n=a:=by simp [upd]
theorem upd_ne {α:Type} (f:Nat->α) {n m:Nat} (a:α) (h:m≠n):upd f n a m=f m:=by simp [upd,h]
theorem OR.keepV {σ σ':Sg} (l:Lv σ σ') {m:Nat} {o:AO} (h:OR σ m o) (hr:σ'.r m=σ.r m) (hw:σ'.w.heap[σ.r m]?=σ.w.heap[σ.r m]?)
 (hI:∀off,σ'.I (σ.r m) off->σ.I (σ.r m) off) (hJ:σ'.J (σ.r m)->σ.J (σ.r m)):OR σ' m o:=by
 cases o with
 |cells es s fz=>
  obtain ⟨arr,t,rg,vs,h1,hj,h2,h3,h4,h5,h6,h7⟩:=h
  refine ⟨arr,t,rg,vs,by rw [hr,hw];exact h1,by rw [hr];exact λe=>hj (hJ e),h2,h3.monoV l,h4,h5,h6,?_⟩
  rw [hr]
  exact λoff ho e=>h7 off ho (hI off e)
 |map ks xs bs clock fz=>
  obtain ⟨ents,vs,h1,h2,h3,h4,h5⟩:=h
  refine ⟨ents,vs,by rw [hr,hw];exact h1,h2.monoV l,h3,h4,?_⟩
  rw [hr]
  exact λhf e=>h5 hf (hJ e)
 |loop T N ps asg body st pend=>
  obtain ⟨rec,h1,h2,h3,h4,h5,h6,h7,h8,h9⟩:=h
  exact ⟨rec,by rw [hr,hw];exact h1,by rw [hr];exact λe=>h2 (hJ e),h3,h4,h5,h6,h7,h8,λt v hv=>(h9 t v hv).monoV l⟩
theorem OR.keep {σ σ':Sg} (l:Le σ σ') {m:Nat} {o:AO} (h:OR σ m o) (hr:σ'.r m=σ.r m) (hw:σ'.w.heap[σ.r m]?=σ.w.heap[σ.r m]?)
 (hI:∀off,σ'.I (σ.r m) off->σ.I (σ.r m) off) (hJ:σ'.J (σ.r m)->σ.J (σ.r m)):OR σ' m o:=h.keepV l.v hr hw hI hJ
theorem sr_upd {σ σ':Sg} (sr:SR σ) (l:Le σ σ') (n:Nat) (o:AO) (hh:σ'.h=upd σ.h n (some o)) (hr:∀m,m≠n->σ'.r m=σ.r m)
 (hw:∀m p,m≠n->σ.h m=some p->σ'.w.heap[σ.r m]?=σ.w.heap[σ.r m]?) (hI:σ'.I=σ.I) (hJ:σ'.J=σ.J) (hd:σ'.dead=σ.dead) (ho:OR σ' n o)
 (hrn:σ'.r n<σ'.w.heap.size) (hrd:∀m p,m≠n->σ.h m=some p->σ'.r n≠σ.r m) (hnd:¬σ.dead n):SR σ' where
 obj:=λm p hm=>by
  by_cases e:m=n
  ·subst e;rw [hh,upd_same] at hm;cases hm;exact ho
  ·rw [hh,upd_ne _ _ e] at hm
   exact OR.keep l (sr.obj m p hm) (hr m e) (hw m p e hm) (λoff h=>by rw [hI] at h;exact h) (λh=>by rw [hJ] at h;exact h)
 inj:=λa b o p ha hb e=>by
  rw [hh] at ha hb
  by_cases ea:a=n
  ·by_cases eb:b=n
   ·omega
   ·rw [upd_ne _ _ eb] at hb
    rw [ea,hr b eb] at e
    exact absurd e (hrd b p eb hb)
  ·by_cases eb:b=n
   ·rw [upd_ne _ _ ea] at ha
    rw [eb,hr a ea] at e
    exact absurd e.symm (hrd a o ea ha)
   ·rw [upd_ne _ _ ea] at ha
    rw [upd_ne _ _ eb] at hb
    rw [hr a ea,hr b eb] at e
    exact sr.inj a b o p ha hb e
 lt:=λm p hm=>by
  by_cases e:m=n
  ·subst e;exact hrn
  ·rw [hh,upd_ne _ _ e] at hm
   rw [hr m e]
   exact Nat.lt_of_lt_of_le (sr.lt m p hm) l.size
 ilt:=λb off h=>by rw [hI] at h;exact Nat.lt_of_lt_of_le (sr.ilt b off h) l.size
 jlt:=λb h=>by rw [hJ] at h;exact Nat.lt_of_lt_of_le (sr.jlt b h) l.size
 alive:=λm p hm=>by
  rw [hd]
  by_cases e:m=n
  ·subst e;exact hnd
  ·rw [hh,upd_ne _ _ e] at hm
   exact sr.alive m p hm
end Go.Abs
end
section
namespace Go.Abs
def Sg.drew (σ:Sg):Sg:={ σ with w:=σ.w.drew }
theorem le_drew (σ:Sg):Le σ σ.drew where
 os:=rfl
 tape:=rfl
 output:=rfl
 size:=Nat.le_refl _
 frame:=λ_ _ _=>rfl
 old:=λn o h h'=>by rw [show σ.drew.h=σ.h from rfl,h'] at h;cases h
 icell:=λ_ _ h=>⟨h,rfl⟩
 inew:=λ_ _ h _ _=>h
 jnew:=λ_ h _ _=>h
 jmap:=λ_ h=>⟨h,rfl⟩
 cells:=λn es s fz h=>.inr ⟨es,fz,h,Nat.le_refl _,.inl ⟨rfl,λarr t rg h=>⟨arr,t,rg,h,rfl⟩⟩⟩
 maps:=λn ks vs bs c fz h=>.inr ⟨rfl,ks,vs,bs,c,fz,h⟩
 loops:=λn T N ps asg body st pend h=>⟨rfl,st,pend,h⟩
 deads:=λ_ h=>h
theorem sr_drew {σ:Sg} (sr:SR σ):SR σ.drew where
 obj:=λn o h=>OR.keep (le_drew σ) (sr.obj n o h) rfl rfl (λ_ h=>h) (λh=>h)
 inj:=sr.inj
 lt:=sr.lt
 ilt:=sr.ilt
 jlt:=sr.jlt
 alive:=sr.alive
theorem heap_alloc_lt (w:World) (o:Obj) {b:Nat} (h:b<w.heap.size):(w.alloc o).heap[b]?=w.heap[b]?:=by
 show (w.heap.push o)[b]?=w.heap[b]?
 rw [Array.getElem?_push,if_neg (by omega)]
theorem heap_alloc_at (w:World) (o:Obj):(w.alloc o).heap[w.heap.size]?=some o:=by
 show (w.heap.push o)[w.heap.size]?=some o
 simp
def Sg.make (σ:Sg) (n:Nat) (ob:Obj) (o:AO):Sg:=
 { σ with w:=σ.w.alloc ob,r:=upd σ.r n σ.w.heap.size,h:=upd σ.h n (some o) }
theorem le_make {σ:Sg} (sr:SR σ) {n:Nat} {ob:Obj} {o:AO}
 (hn:σ.h n=none\/∃es s fz es' fz',σ.h n=some (.cells es s fz)/\o=.cells es' s fz'/\es.length<es'.length):Le σ (σ.make n ob o) where
 os:=rfl
 tape:=rfl
 output:=rfl
 size:=by simp [Sg.make]
 frame:=λb hb _=>heap_alloc_lt _ _ hb
 old:=λm p h h'=>by
  by_cases e:m=n
  ·subst e;simp [Sg.make,upd]
  ·simp only [Sg.make,upd_ne _ _ e] at h;rw [h] at h';cases h'
 icell:=λb off h=>⟨h,cell_same (heap_alloc_lt _ _ (sr.ilt b off h))⟩
 inew:=λ_ _ h _ _=>h
 jnew:=λ_ h _ _=>h
 jmap:=λb h=>⟨h,heap_alloc_lt _ _ (sr.jlt b h)⟩
 cells:=λm es s fz h=>by
  right
  by_cases e:m=n
  ·subst e
   rcases hn with hn | ⟨es0,s0,fz0,es',fz',hn,rfl,hlt⟩
   ·rw [h] at hn;cases hn
   ·rw [h] at hn;cases hn
    exact ⟨es',fz',upd_same _ _ _,by omega,.inr ⟨hlt,by simp [Sg.make,upd]⟩⟩
  ·refine ⟨es,fz,by simp only [Sg.make,upd_ne _ _ e];exact h,Nat.le_refl _,.inl ⟨upd_ne _ _ e,λarr t rg ha=>⟨arr,t,rg,?_,rfl⟩⟩⟩
   exact (heap_alloc_lt _ _ (sr.lt m _ h)).trans ha
 maps:=λm ks vs bs c fz h=>by
  right
  by_cases e:m=n
  ·subst e
   rcases hn with hn | ⟨es0,s0,fz0,es',fz',hn,rfl,hlt⟩<;>(rw [h] at hn;cases hn)
  ·exact ⟨upd_ne _ _ e,ks,vs,bs,c,fz,by simp only [Sg.make,upd_ne _ _ e];exact h⟩
 loops:=λm T N ps asg body st pend h=>by
  by_cases e:m=n
  ·subst e
   rcases hn with hn | ⟨es0,s0,fz0,es',fz',hn,rfl,hlt⟩<;>(rw [h] at hn;cases hn)
  ·exact ⟨upd_ne _ _ e,st,pend,by simp only [Sg.make,upd_ne _ _ e];exact h⟩
 deads:=λ_ h=>h
theorem sr_make {σ:Sg} (sr:SR σ) {n:Nat} {ob:Obj} {o:AO} (l:Le σ (σ.make n ob o)) (hd:¬σ.dead n) (ho:OR (σ.make n ob o) n o):SR (σ.make n ob o):=by
 refine sr_upd sr l n o rfl (λm e=>upd_ne _ _ e) (λm p _ h=>heap_alloc_lt _ _ (sr.lt m p h)) rfl rfl rfl ho (by simp [Sg.make,upd]) (λm p e h=>?_) hd
 have:=sr.lt m p h
 simp only [Sg.make,upd_same]
 omega
theorem or_make {σ:Sg} (sr:SR σ) {n:Nat} {es:List (List AV)} {s fz:Nat} {vs tail:List Value} {t:TypeId} {rg:Nat×Nat}
 (l:Le σ (σ.make n (.cells (vs++tail).toArray t rg) (.cells es s fz))) (hv:VRs σ es.flatten vs) (hs:∀e∈es,e.length=s)
 (hrg:∀off,off<=(vs++tail).length->¬(rg.1<=off/\off<rg.2)) :
 OR (σ.make n (.cells (vs++tail).toArray t rg) (.cells es s fz)) n (.cells es s fz):=by
 have hr:(σ.make n (.cells (vs++tail).toArray t rg) (.cells es s fz)).r n=σ.w.heap.size:=upd_same _ _ _
 refine ⟨(vs++tail).toArray,t,rg,vs,?_,?_,?_,hv.mono l,hs,by simp,?_,?_⟩
 ·rw [hr];exact heap_alloc_at _ _
 ·rw [hr];exact λh=>Nat.lt_irrefl _ (sr.jlt _ h)
 ·simpa using hrg
 ·intro j v h
  simp only [List.getElem?_toArray]
  rw [List.getElem?_append_left (List.getElem?_eq_some_iff.1 h).1]
  exact h
 ·rw [hr];exact λoff _ h=>Nat.lt_irrefl _ (sr.ilt _ _ h)
theorem new_row {σ:Sg} (sr:SR σ) {n:Nat} (es:List (List AV)) (s fz:Nat) {vs:List Value} (tail:List Value) (t:TypeId) (rg:Nat×Nat) (hd:¬σ.dead n)
 (hn:σ.h n=none\/∃es0 fz0,σ.h n=some (.cells es0 s fz0)/\es0.length<es.length) (hv:VRs σ es.flatten vs) (hs:∀e∈es,e.length=s)
 (hrg:∀off,off<=(vs++tail).length->¬(rg.1<=off/\off<rg.2)) :
 Le σ (σ.make n (.cells (vs++tail).toArray t rg) (.cells es s fz))/\SR (σ.make n (.cells (vs++tail).toArray t rg) (.cells es s fz)):=by
 have l:Le σ (σ.make n (.cells (vs++tail).toArray t rg) (.cells es s fz)):=le_make sr (hn.imp id λ⟨es0,fz0,h,hl⟩=>⟨es0,s,fz0,es,fz,h,rfl,hl⟩)
 exact ⟨l,sr_make sr l hd (or_make sr l hv hs hrg)⟩
theorem new_map {σ:Sg} (sr:SR σ) {n:Nat} (hd:¬σ.dead n) (hn:σ.h n=none) :
 Le σ (σ.make n (.map #[] 0) (.map [] [] [] 0 false))/\SR (σ.make n (.map #[] 0) (.map [] [] [] 0 false)):=by
 have l:Le σ (σ.make n (.map #[] 0) (.map [] [] [] 0 false)):=le_make sr (.inl hn)
 have hr:(σ.make n (.map #[] 0) (.map [] [] [] 0 false)).r n=σ.w.heap.size:=upd_same _ _ _
 refine ⟨l,sr_make sr l hd ⟨#[],[],?_,.nil,⟨rfl,rfl⟩,rfl,?_⟩⟩
 ·rw [hr];exact heap_alloc_at _ _
 ·rw [hr];exact λ_ h=>Nat.lt_irrefl _ (sr.jlt _ h)
def Sg.write (σ:Sg) (n o:Nat) (vs:List Value) (ob:AO):Sg:=
 { σ with w:=σ.w.setCells (σ.r n) o vs,h:=upd σ.h n (some ob) }
theorem write_own {σ:Sg} (sr:SR σ) {n:Nat} {es es':List (List AV)} {s fz:Nat} (hn:σ.h n=some (.cells es s fz)) {o:Nat} {cs:List AV} {vs:List Value}
 (hv:VRs σ cs vs) (hfl:es'.flatten=es.flatten.take o++cs++es.flatten.drop (o+cs.length)) (ho:o<=es.flatten.length) (hfz:fz*s<=o)
 (hlen:es.length<=es'.length) (hs:∀e∈es',e.length=s) {arr:Array Value} {t:TypeId} {rg:Nat×Nat}
 (hw:σ.w.heap[σ.r n]?=some (.cells arr t rg)) (hroom:o+vs.length<=arr.size) :
 Le σ (σ.write n o vs (.cells es' s fz))/\SR (σ.write n o vs (.cells es' s fz)):=by
 obtain ⟨arr0,t0,rg0,full,h1,hj,h2,h3,h4,h5,h6,h7⟩:=sr.obj n _ hn
 rw [hw] at h1
 cases h1
 have hcl:=hv.length
 have hfull:=h3.length
 have hmisc:=setCells_misc vs o σ.w (σ.r n)
 have hblock:(σ.write n o vs (.cells es' s fz)).w.heap[σ.r n]?=some (.cells (arrSet arr o vs) t rg):=heap_setCells vs o σ.w (σ.r n) arr t rg hw
 have hother:∀c,c≠σ.r n->(σ.write n o vs (.cells es' s fz)).w.heap[c]?=σ.w.heap[c]?:=λc hc=>heap_setCells_ne vs o σ.w (σ.r n) c hc
 have l:Le σ (σ.write n o vs (.cells es' s fz)):={
  os:=hmisc.1
  tape:=hmisc.2.1
  output:=hmisc.2.2.1
  size:=Nat.le_of_eq hmisc.2.2.2.symm
  frame:=λb _ h=>hother b (λe=>h n _ hn e.symm)
  old:=λm p h h'=>by
   by_cases e:m=n
   ·subst e;rw [hn] at h';cases h'
   ·simp only [Sg.write,upd_ne _ _ e] at h;rw [h] at h';cases h'
  icell:=λb off h=>⟨h,by
   by_cases e:b=σ.r n
   ·subst e
    have hlt:off<fz*s:=by
     rcases Nat.lt_or_ge off (fz*s) with q | q
     ·exact q
     ·exact absurd h (h7 off q)
    rw [cell_of_heap hblock,cell_of_heap hw]
    exact arrSet_out vs o arr off (.inl (by omega))
   ·exact cell_same (hother b e)⟩
  inew:=λ_ _ h _ _=>h
  jnew:=λ_ h _ _=>h
  jmap:=λb h=>⟨h,hother b (λe=>hj (e ▸ h))⟩
  cells:=λm es0 s0 fz0 h=>by
   right
   by_cases e:m=n
   ·subst e
    rw [hn] at h;cases h
    exact ⟨es',fz,upd_same _ _ _,hlen,.inl ⟨rfl,λa t1 r1 ha=>⟨_,t,rg,hblock,by rw [hw] at ha;cases ha;exact arrSet_size vs o arr⟩⟩⟩
   ·refine ⟨es0,fz0,by simp only [Sg.write,upd_ne _ _ e];exact h,Nat.le_refl _,.inl ⟨rfl,λa t1 r1 ha=>⟨a,t1,r1,?_,rfl⟩⟩⟩
    rw [hother _ (λq=>e (sr.inj m n _ _ h hn q))]
    exact ha
  maps:=λm ks xs bs c f h=>by
   right
   by_cases e:m=n
   ·subst e;rw [hn] at h;cases h
   ·exact ⟨rfl,ks,xs,bs,c,f,by simp only [Sg.write,upd_ne _ _ e];exact h⟩
  loops:=λm T N ps asg body st pend h=>by
   by_cases e:m=n
   ·subst e;rw [hn] at h;cases h
   ·exact ⟨rfl,st,pend,by simp only [Sg.write,upd_ne _ _ e];exact h⟩
  deads:=λ_ h=>h }
 refine ⟨l,sr_upd sr l n _ rfl (λ_ _=>rfl) (λm p e h=>hother _ (λq=>e (sr.inj m n _ _ h hn q))) rfl rfl rfl ?_ ?_ (λm p e h q=>e (sr.inj n m _ _ hn h q).symm) (sr.alive n _ hn)⟩
 ·refine ⟨arrSet arr o vs,t,rg,full.take o++vs++full.drop (o+vs.length),hblock,hj,?_,?_,hs,?_,?_,h7⟩
  ·rw [arrSet_size];exact h2
  ·rw [hfl,hcl]
   exact ((VRs.append ((h3.mono l).take o) (hv.mono l)).append ((h3.mono l).drop _))
  ·rw [arrSet_size]
   simp
   omega
  ·intro j v hjv
   by_cases hlt:j<o
   ·rw [List.append_assoc,List.getElem?_append_left (by simp;omega),List.getElem?_take_of_lt hlt] at hjv
    rw [arrSet_out vs o arr j (.inl hlt)]
    exact h6 j v hjv
   ·by_cases hin:j<o+vs.length
    ·rw [List.append_assoc,List.getElem?_append_right (by simp;omega),List.getElem?_append_left (by simp;omega)] at hjv
     have:=arrSet_in vs o arr (j-o) hroom (by omega)
     rw [show o+(j-o)=j by omega] at this
     rw [this]
     rw [<-hjv]
     congr 1
     simp
     omega
    ·rw [List.getElem?_append_right (by simp;omega)] at hjv
     rw [arrSet_out vs o arr j (.inr (by omega))]
     refine h6 j v ?_
     rw [<-hjv,List.getElem?_drop]
     congr 1
     simp
     omega
 ·rw [show (σ.write n o vs (.cells es' s fz)).w.heap.size=σ.w.heap.size from hmisc.2.2.2]
  exact sr.lt n _ hn
def Sg.setMap (σ:Sg) (n:Nat) (es:Array MapEntry) (clock:Nat) (ob:AO):Sg:=
 { σ with w:={ σ.w with heap:=σ.w.heap.setIfInBounds (σ.r n) (.map es clock) },h:=upd σ.h n (some ob) }
theorem write_map {σ:Sg} (sr:SR σ) {n:Nat} {ks:List Value} {xs:List AV} {bs:List Nat} {clock:Nat} (hn:σ.h n=some (.map ks xs bs clock false))
 {ks':List Value} {xs':List AV} {bs':List Nat} {clock':Nat} {es':Array MapEntry} {vs':List Value} (hv:VRs σ xs' vs') (he:Ents ks' vs' es') (hb:es'.toList.map (·.born)=bs') :
 Le σ (σ.setMap n es' clock' (.map ks' xs' bs' clock' false))/\SR (σ.setMap n es' clock' (.map ks' xs' bs' clock' false)):=by
 obtain ⟨ents,vs,h1,h2,h3,h4,h5⟩:=sr.obj n _ hn
 have hlt:=sr.lt n _ hn
 have hblock:(σ.setMap n es' clock' (.map ks' xs' bs' clock' false)).w.heap[σ.r n]?=some (.map es' clock'):=by simp [Sg.setMap,hlt]
 have hother:∀c,c≠σ.r n->(σ.setMap n es' clock' (.map ks' xs' bs' clock' false)).w.heap[c]?=σ.w.heap[c]?:=λc hc=>by
  simp only [Sg.setMap]
  rw [Array.getElem?_setIfInBounds_ne (λe=>hc e.symm)]
 have l:Le σ (σ.setMap n es' clock' (.map ks' xs' bs' clock' false)):={
  os:=rfl
  tape:=rfl
  output:=rfl
  size:=by simp [Sg.setMap]
  frame:=λb _ h=>hother b (λe=>h n _ hn e.symm)
  old:=λm p h h'=>by
   by_cases e:m=n
   ·subst e;rw [hn] at h';cases h'
   ·simp only [Sg.setMap,upd_ne _ _ e] at h;rw [h] at h';cases h'
  icell:=λb off h=>⟨h,by
   by_cases e:b=σ.r n
   ·subst e
    simp [World.cell?,hblock,h1]
   ·exact cell_same (hother b e)⟩
  inew:=λ_ _ h _ _=>h
  jnew:=λ_ h _ _=>h
  jmap:=λb h=>⟨h,hother b (λe=>h5 rfl (e ▸ h))⟩
  cells:=λm es0 s0 fz0 h=>by
   right
   by_cases e:m=n
   ·subst e;rw [hn] at h;cases h
   ·refine ⟨es0,fz0,by simp only [Sg.setMap,upd_ne _ _ e];exact h,Nat.le_refl _,.inl ⟨rfl,λa t1 r1 ha=>⟨a,t1,r1,?_,rfl⟩⟩⟩
    rw [hother _ (λq=>e (sr.inj m n _ _ h hn q))]
    exact ha
  maps:=λm ks0 xs0 bs0 c f h=>by
   right
   by_cases e:m=n
   ·subst e;exact ⟨rfl,_,_,_,_,_,upd_same _ _ _⟩
   ·exact ⟨rfl,ks0,xs0,bs0,c,f,by simp only [Sg.setMap,upd_ne _ _ e];exact h⟩
  loops:=λm T N ps asg body st pend h=>by
   by_cases e:m=n
   ·subst e;rw [hn] at h;cases h
   ·exact ⟨rfl,st,pend,by simp only [Sg.setMap,upd_ne _ _ e];exact h⟩
  deads:=λ_ h=>h }
 refine ⟨l,sr_upd sr l n _ rfl (λ_ _=>rfl) (λm p e h=>hother _ (λq=>e (sr.inj m n _ _ h hn q))) rfl rfl rfl ?_ ?_ (λm p e h q=>e (sr.inj n m _ _ hn h q).symm) (sr.alive n _ hn)⟩
 ·exact ⟨es',vs',hblock,hv.mono l,he,hb,h5⟩
 ·simp [Sg.setMap,hlt]
end Go.Abs
end
section
namespace Go.Abs
def KOK (P:Program) (t:TypeId):TyK->Prop
 |.int k=>P.underlying t=some (.int k)
 |.str=>P.underlying t=some .string
 |.bool=>P.underlying t=some .bool
 |.strct fs=>∃fields,P.underlying t=some (.struct fields)/\fields.toList.map (λf=>(f.offset,f.type))=fs/\∀f∈fields.toList,(P.info? f.type).isSome
 |.arr n e=>P.underlying t=some (.array n e)
 |.slice e=>P.underlying t=some (.slice e)
 |.map k e=>P.underlying t=some (.map k e)
 |.ptr=>∃e,P.underlying t=some (.pointer e)
 |.iface=>∃ms,P.underlying t=some (.interface ms)
 |.other=>∃u,P.underlying t=some u/\u.isRow=false
def FlatEq (P:Program) (t:TypeId) (ks:List TyK):Prop:=
 P.eqGuardType P.depth t=false/\∀(xs ys:List Value) (b:Bool),eqVals ks xs ys=some b->∀w,(Op.equal t (.agg xs.toArray) (.agg ys.toArray)).run P w=.ok b w
structure DescOK (P:Program) (t:TypeId) (d:TyD):Prop where
 info:∃i z,P.info? t=some i/\i.size=d.size/\i.bytes=d.bytes/\i.zero=some z/\z.cells.toList=d.zero/\(d.isAgg=true->z=.agg d.zero.toArray)/\(d.isAgg=false->d.zero=[z])
 under:KOK P t d.k
 zsc:d.zero.all scalarB=true
 zlen:d.zero.length=d.size
 flat:∀ks,d.flat=some ks->FlatEq P t ks
def TabOK (P:Program) (tab:Tab):Prop:=∀t d,tab t=some d->DescOK P t d
section
variable {P:Program} {t:TypeId} {d:TyD}
theorem DescOK.size (h:DescOK P t d):(P.info? t).map (·.size)=some d.size:=by
 obtain ⟨i,z,hi,hs,_⟩:=h.info
 simp [hi,hs]
theorem DescOK.run_sizeOf (h:DescOK P t d) (w:World):(sizeOf t).run P w=.ok d.size w:=by
 obtain ⟨i,z,hi,hs,_⟩:=h.info
 simp [sizeOf,typeInfo,hi,hs]
theorem DescOK.run_info (h:DescOK P t d) (w:World):∃i,(typeInfo t).run P w=.ok i w/\i.size=d.size/\i.bytes=d.bytes:=by
 obtain ⟨i,z,hi,hs,hb,_⟩:=h.info
 exact ⟨i,by simp [typeInfo,hi],hs,hb⟩
theorem DescOK.run_infos (h:DescOK P t d):∃i,(∀w,(typeInfo t).run P w=.ok i w)/\i.size=d.size/\i.bytes=d.bytes:=by
 obtain ⟨i,z,hi,hs,hb,_⟩:=h.info
 exact ⟨i,λw=>by simp [typeInfo,hi],hs,hb⟩
theorem DescOK.run_zero (h:DescOK P t d) (w:World):∃z,(zeroValue t).run P w=.ok z w/\z.cells.toList=d.zero/\(d.isAgg=true->z=.agg d.zero.toArray)/\(d.isAgg=false->d.zero=[z]):=by
 obtain ⟨i,z,hi,hs,hb,hz,h1,h2,h3⟩:=h.info
 exact ⟨z,by simp [zeroValue,typeInfo,hi,hz],h1,h2,h3⟩
theorem run_under {u:TypeDesc} (h:P.underlying t=some u) (w:World):(underlying t).run P w=.ok u w:=by simp [underlying,h]
theorem DescOK.run_isAgg (h:DescOK P t d) (w:World):(isAgg t).run P w=.ok d.isAgg w:=by
 have hu:=h.under
 unfold isAgg
 cases hk:d.k<;>simp only [KOK,hk] at hu
 case strct fs=>
  obtain ⟨fields,hu,_⟩:=hu
  simp [run_under hu,TyD.isAgg,hk]
 case ptr=>obtain ⟨e,hu⟩:=hu;simp [run_under hu,TyD.isAgg,hk]
 case iface=>obtain ⟨e,hu⟩:=hu;simp [run_under hu,TyD.isAgg,hk]
 case other=>
  obtain ⟨u,hu,hr⟩:=hu
  cases u<;>simp_all [run_under hu,TyD.isAgg]
 all_goals simp [run_under hu,TyD.isAgg,hk]
end
theorem cells_vr {σ:Sg} {x:AV} {v:Value} {cs:List AV} (h:VR σ x v) (hc:cellsOf x=some cs):∃vs,v.cells=vs.toArray/\VRs σ cs vs/\((∃l,x=.agg l)->v=.agg vs.toArray):=by
 have one:v.oneCell'=true->cs=[x]->∃vs,v.cells=vs.toArray/\VRs σ cs vs:=λh1 h2=>
  ⟨[v],by cases v<;>simp_all [Value.cells,Value.oneCell'],by rw [h2];exact VRs.one h⟩
 cases x with
 |agg l=>
  simp only [cellsOf,Option.some.injEq] at hc
  subst hc
  obtain ⟨ds,rfl,hd⟩:=h.agg_inv
  exact ⟨ds,rfl,hd,λ_=>rfl⟩
 |tup l=>simp [cellsOf] at hc
 |sc y=>
  obtain ⟨rfl,hs⟩:=h.sc_inv
  have:cs=[.sc v]/\v.oneCell'=true:=by
   cases v<;>simp_all [cellsOf,scalarB,Value.oneCell']
  obtain ⟨vs,h1,h2⟩:=one this.2 this.1
  exact ⟨vs,h1,h2,λ⟨l,e⟩=>by cases e⟩
 |isl es c=>
  obtain ⟨a,vs,s,cap,rfl,_⟩:=h.isl_inv
  simp only [cellsOf,Option.some.injEq] at hc
  obtain ⟨vs,h1,h2⟩:=one rfl hc.symm
  exact ⟨vs,h1,h2,λ⟨l,e⟩=>by cases e⟩
 |ipt l=>
  obtain ⟨a,vs,rfl,_⟩:=h.ipt_inv
  simp only [cellsOf,Option.some.injEq] at hc
  obtain ⟨vs,h1,h2⟩:=one rfl hc.symm
  exact ⟨vs,h1,h2,λ⟨l,e⟩=>by cases e⟩
 |imp ks xs=>
  obtain ⟨a,vs,r,cl,rfl,_⟩:=h.imp_inv
  simp only [cellsOf,Option.some.injEq] at hc
  obtain ⟨vs,h1,h2⟩:=one rfl hc.symm
  exact ⟨vs,h1,h2,λ⟨l,e⟩=>by cases e⟩
 |fn f first caps=>
  obtain ⟨_,a,b,rfl⟩:=h.fn_any
  simp only [cellsOf,Option.some.injEq] at hc
  obtain ⟨vs,h1,h2⟩:=one rfl hc.symm
  exact ⟨vs,h1,h2,λ⟨l,e⟩=>by cases e⟩
 |ifc t y=>
  obtain ⟨a,rfl,_⟩:=h.ifc_inv
  simp only [cellsOf,Option.some.injEq] at hc
  obtain ⟨vs,h1,h2⟩:=one rfl hc.symm
  exact ⟨vs,h1,h2,λ⟨l,e⟩=>by cases e⟩
 |sl n g off len cap=>
  simp only [cellsOf,Option.some.injEq] at hc
  have h1:v.oneCell'=true:=by
   cases h with
   |tree h=>cases h
   |sl=>rfl
   |stale hv=>obtain ⟨_,_,_,rfl,_⟩:=hv;rfl
  obtain ⟨vs,h1,h2⟩:=one h1 hc.symm
  exact ⟨vs,h1,h2,λ⟨l,e⟩=>by cases e⟩
 |pt n g i fo=>
  simp only [cellsOf,Option.some.injEq] at hc
  have h1:v.oneCell'=true:=by
   cases h with
   |tree h=>cases h
   |pt=>rfl
   |stale hv=>obtain ⟨_,_,_,rfl⟩:=hv;rfl
  obtain ⟨vs,h1,h2⟩:=one h1 hc.symm
  exact ⟨vs,h1,h2,λ⟨l,e⟩=>by cases e⟩
 |mp n=>
  simp only [cellsOf,Option.some.injEq] at hc
  have h1:v.oneCell'=true:=by
   cases h with
   |tree h=>cases h
   |mp=>rfl
   |stale hv=>obtain ⟨_,_,rfl⟩:=hv;rfl
  obtain ⟨vs,h1,h2⟩:=one h1 hc.symm
  exact ⟨vs,h1,h2,λ⟨l,e⟩=>by cases e⟩
theorem storable_vr {σ:Sg} {x:AV} {v:Value} (h:VR σ x v) (hs:x.storable=true):v.oneCell'=true:=by
 cases x with
 |agg l=>simp [AV.storable] at hs
 |tup l=>simp [AV.storable] at hs
 |sc y=>
  obtain ⟨rfl,h2⟩:=h.sc_inv
  cases v<;>simp_all [AV.storable,scalarB,Value.oneCell']
 |isl es c=>obtain ⟨a,vs,s,cap,rfl,_⟩:=h.isl_inv;rfl
 |ipt l=>obtain ⟨a,vs,rfl,_⟩:=h.ipt_inv;rfl
 |imp ks xs=>obtain ⟨a,vs,r,cl,rfl,_⟩:=h.imp_inv;rfl
 |fn f first caps=>obtain ⟨_,a,b,rfl⟩:=h.fn_any;rfl
 |ifc t y=>obtain ⟨a,rfl,_⟩:=h.ifc_inv;rfl
 |sl n g off len cap=>
  cases h with
  |tree h=>cases h
  |sl=>rfl
  |stale hv=>obtain ⟨_,_,_,rfl,_⟩:=hv;rfl
 |pt n g i fo=>
  cases h with
  |tree h=>cases h
  |pt=>rfl
  |stale hv=>obtain ⟨_,_,_,rfl⟩:=hv;rfl
 |mp n=>
  cases h with
  |tree h=>cases h
  |mp=>rfl
  |stale hv=>obtain ⟨_,_,rfl⟩:=hv;rfl
theorem storables_vr {σ:Sg}:∀{cs:List AV} {vs:List Value},VRs σ cs vs->cs.all AV.storable=true->∀v∈vs,v.oneCell'=true
 |_,_,.nil,_=>by simp
 |_,_,.cons h hs,ha=>by
  simp only [List.all_cons,Bool.and_eq_true] at ha
  intro v hv
  rcases List.mem_cons.1 hv with rfl | hv
  ·exact storable_vr h ha.1
  ·exact storables_vr hs ha.2 v hv
theorem ofCells_vr {σ:Sg} {d:TyD} {cs:List AV} {vs:List Value} {x:AV} (h:VRs σ cs vs) (hx:ofCells d cs=some x) :
 cs.length=d.size/\((d.isAgg=true/\VR σ x (.agg vs.toArray))\/(d.isAgg=false/\∃v,vs=[v]/\VR σ x v)):=by
 unfold ofCells at hx
 split at hx
 ·rename_i hl
  refine ⟨hl,?_⟩
  split at hx
  ·rename_i ha
   cases hx
   exact .inl ⟨ha,.agg h⟩
  ·rename_i ha
   split at hx
   ·cases hx
    cases h with
    |cons h hs=>cases hs;exact .inr ⟨by simpa using ha,_,rfl,h⟩
   ·cases hx
 ·cases hx
theorem run_loadVar_of {P:Program} {t:TypeId} {d:TyD} (hd:DescOK P t d) {σ:Sg} {b o:Nat} {cs:List AV} {vs:List Value} {x:AV} (hr:σ.w.rangeAt b o vs) (h:VRs σ cs vs)
 (hx:ofCells d cs=some x):∃v,(loadVar t ⟨b,o,none⟩).run P σ.w=.ok v σ.w/\VR σ x v:=by
 obtain ⟨hl,⟨ha,hv⟩ | ⟨ha,v,rfl,hv⟩⟩:=ofCells_vr h hx
 ·refine ⟨_,?_,hv⟩
  have hl2:=h.length
  have hc:(loadCells ⟨b,o,none⟩ d.size).run P σ.w=.ok vs.toArray σ.w:=by
   rw [<-hl,<-hl2]
   exact run_loadCells_list (P:=P) σ.w ⟨b,o,none⟩ vs (λj v hv=>by rw [Addr.add_mid];exact hr j v hv)
  simp [loadVar,Sem.run_bind,hd.run_isAgg,ha,hd.run_sizeOf,hc]
 ·refine ⟨v,?_,hv⟩
  have hc:σ.w.cell? ⟨b,o,none⟩=some v:=by simpa using hr 0 v rfl
  simp [loadVar,Sem.run_bind,hd.run_isAgg,ha,hc]
section flatten
theorem flatten_length {s:Nat}:∀{es:List (List AV)},(∀e∈es,e.length=s)->es.flatten.length=es.length*s
 |[],_=>by simp
 |e::r,h=>by
  rw [List.flatten_cons,List.length_append,h e (by simp),flatten_length (λx hx=>h x (by simp [hx])),List.length_cons,Nat.succ_mul,Nat.add_comm]
theorem flatten_drop {s:Nat}:∀{es:List (List AV)} (i:Nat),(∀e∈es,e.length=s)->(es.drop i).flatten=es.flatten.drop (i*s)
 |_,0,_=>by simp
 |[],i+1,_=>by simp
 |e::r,i+1,h=>by
  have he:=h e (by simp)
  rw [List.drop_succ_cons,flatten_drop i (λx hx=>h x (by simp [hx])),List.flatten_cons,List.drop_append,Nat.succ_mul]
  have h1:e.drop (i*s+s)=[]:=List.drop_of_length_le (by omega)
  rw [h1,List.nil_append]
  congr 1
  omega
theorem flatten_take {s:Nat}:∀{es:List (List AV)} (i:Nat),(∀e∈es,e.length=s)->(es.take i).flatten=es.flatten.take (i*s)
 |_,0,_=>by simp
 |[],i+1,_=>by simp
 |e::r,i+1,h=>by
  have he:=h e (by simp)
  rw [List.take_succ_cons,List.flatten_cons,flatten_take i (λx hx=>h x (by simp [hx])),List.flatten_cons,List.take_append,Nat.succ_mul]
  have h1:e.take (i*s+s)=e:=List.take_of_length_le (by omega)
  have h2:i*s+s-e.length=i*s:=by omega
  rw [h1,h2]
theorem flatten_at {s:Nat} {es:List (List AV)} {i:Nat} {e:List AV} (hs:∀e∈es,e.length=s) (he:es[i]?=some e) {fo n:Nat} (hn:fo+n<=s) :
 (es.flatten.drop (i*s+fo)).take n=(e.drop fo).take n:=by
 have hi:=(List.getElem?_eq_some_iff.1 he).1
 have hd:es.drop i=e::es.drop (i+1):=by
  rw [List.drop_eq_getElem_cons hi]
  congr 1
  exact (List.getElem?_eq_some_iff.1 he).2
 have hel:e.length=s:=hs e (List.mem_of_getElem? he)
 rw [<-List.drop_drop,<-flatten_drop i hs,hd,List.flatten_cons,List.drop_append,List.take_append]
 have:fo-e.length=0:=by omega
 have h2:n-(e.drop fo).length=0:=by simp;omega
 rw [this,h2]
 simp
end flatten
theorem readAt_vr {σ:Sg} (sr:SR σ) {H:Heap} {a:AV} {p:Value} {n:Nat} {cs:List AV} {rd:List Nat} (ha:VR σ a p) (h:readAt H a n=some (cs,rd))
 (hH:∀m∈rd,look H.objs m=σ.h m):∃b o vs,p=.pointer (some ⟨b,o,none⟩)/\σ.w.rangeAt b o vs/\VRs σ cs vs:=by
 unfold readAt at h
 split at h
 ·rename_i l
  split at h
  ·cases h
   obtain ⟨ad,vs,rfl,ht,hr⟩:=ha.ipt_inv
   obtain ⟨b,o,sp⟩:=ad
   obtain ⟨rfl,hr⟩:=hr
   refine ⟨b,o,vs.take n,rfl,λj v hv=>?_,ht.vrs.take n⟩
   have:vs[j]?=some v:=by
    rw [List.getElem?_take] at hv
    split at hv
    ·exact hv
    ·cases hv
   exact (hr j v this).2
  ·cases h
 ·rename_i m g i fo
  split at h
  ·rename_i es s fz ho
   split at h
   ·rename_i hg
    split at h
    ·rename_i e he
     have key:∀cs',(σ.h m=some (.cells es s fz)->cs'=(es.flatten.drop (i*s+fo)).take n)->(some (cs',[m]):Option (List AV×List Nat))=some (cs,rd)->∃b o vs,p=.pointer (some ⟨b,o,none⟩)/\σ.w.rangeAt b o vs/\VRs σ cs vs:=by
      intro cs' hcs' hq
      cases hq
      have hm:σ.h m=some (.cells es s fz):=by rw [<-hH m (by simp)];exact ho
      rw [hcs' hm]
      obtain ⟨arr,t,rg,full,h1,hj,h2,h3,h4,h5,h6,h7⟩:=sr.obj m _ hm
      refine ⟨_,_,(full.drop (i*s+fo)).take n,ha.pt_inv sr hm hg,λj v hv=>?_,(h3.drop _).take n⟩
      rw [cell_of_heap h1]
      refine h6 _ v ?_
      rw [List.getElem?_take] at hv
      split at hv
      ·rw [List.getElem?_drop] at hv;exact hv
      ·cases hv
     split at h
     ·rename_i hle
      refine key _ (λhm=>?_) h
      obtain ⟨arr,t,rg,full,h1,hj,h2,h3,h4,h5,h6,h7⟩:=sr.obj m _ hm
      exact (flatten_at h4 he hle).symm
     ·split at h
      ·rename_i hsp
       refine key _ (λhm=>?_) h
       obtain ⟨arr,t,rg,full,h1,hj,h2,h3,h4,h5,h6,h7⟩:=sr.obj m _ hm
       rw [flatten_drop i h4,hsp.1,Nat.add_zero]
      ·cases h
    ·cases h
   ·cases h
  ·cases h
 ·cases h
end Go.Abs
end
section
namespace Go.Abs
def TR (σ:Sg) (T:Tm) (a:Act):Prop:=∀t x,T t=some x->VR σ x (a.tmps.getD t undef)
def Qt (P:Program) (s:Sem Value) (σ:Sg) (v:AV):Prop:=∃x,s.run P σ.w=.ok x σ.w/\VR σ v x
variable {P:Program} {tab:Tab} {σ:Sg}
theorem tvs_sc {w:World} {I:Nat->Nat->Prop} {J:Nat->Prop}:∀(l:List Value),l.all scalarB=true->TVs w I J (l.map .sc) l
 |[],_=>.nil
 |v::r,h=>by
  simp only [List.all_cons,Bool.and_eq_true] at h
  exact .cons (.sc h.1) (tvs_sc r h.2)
theorem ofConst_vr {c:Value} {x:AV} (h:ofConst c=some x):VR σ x c:=by
 unfold ofConst at h
 split at h
 ·rename_i cs
  split at h
  ·rename_i ha
   cases h
   have:=VR.tree (.agg (tvs_sc (w:=σ.w) (I:=σ.I) (J:=σ.J) cs.toList (by simpa using ha)))
   simpa using this
  ·cases h
 ·split at h
  ·rename_i hs
   cases h
   exact .tree (.sc hs)
  ·cases h
theorem aev_vr {T:Tm} {a:Act} (tr:TR σ T a) {o:Operand} {x:AV} (h:aev T o=some x):VR σ x (a.eval o):=by
 cases o with
 |tmp t=>exact tr t x h
 |const c=>exact ofConst_vr h
 |global g=>cases h
 |func f=>cases h;exact .tree (.fn rfl .nil .nil)
theorem mapOpt_vr {T:Tm} {a:Act} (tr:TR σ T a):∀{os:List Operand} {xs:List AV},mapOpt (aev T) os=some xs->VRs σ xs (os.map a.eval)
 |[],xs,h=>by cases h;exact .nil
 |o::r,xs,h=>by
  simp only [mapOpt] at h
  split at h
  ·cases h
  ·rename_i b hb
   split at h
   ·cases h
   ·rename_i bs hbs
    cases h
    exact .cons (aev_vr tr hb) (mapOpt_vr tr hbs)
theorem mapOpt_parts {T:Tm} {a:Act} (tr:TR σ T a):∀{os:List (Nat×Operand)} {xs:List (Nat×AV)},
 mapOpt (λp:Nat×Operand=>(aev T p.2).map λv=>(p.1,v)) os=some xs->xs.map (·.1)=os.map (·.1)/\VRs σ (xs.map (·.2)) (os.map λp=>a.eval p.2)
 |[],xs,h=>by cases h;exact ⟨rfl,.nil⟩
 |o::r,xs,h=>by
  simp only [mapOpt] at h
  split at h
  ·cases h
  ·rename_i b hb
   split at h
   ·cases h
   ·rename_i bs hbs
    cases h
    obtain ⟨h1,h2⟩:=mapOpt_parts tr hbs
    cases ho:aev T o.2 with
    |none=>simp [ho] at hb
    |some v=>
     simp [ho] at hb
     subst hb
     exact ⟨by simp [h1],.cons (aev_vr tr ho) h2⟩
theorem arrSet_eq:∀(vs:List Value) (o j:Nat) (arr:Array Value),(vs.zipIdx j).foldl (λcs (c,i)=>cs.setIfInBounds (o+i) c) arr=arrSet arr (o+j) vs
 |[],_,_,_=>rfl
 |v::r,o,j,arr=>by
  simp only [List.zipIdx_cons,List.foldl_cons,arrSet]
  rw [arrSet_eq r o (j+1)]
  rfl
theorem vrs_splice {cs new:List AV} {arr:Array Value} {vs:List Value} {o:Nat} (h:VRs σ cs arr.toList) (hn:VRs σ new vs) (ho:o+new.length<=cs.length) :
 VRs σ (splice cs o new) (arrSet arr o vs).toList:=by
 have hl:=h.length
 have hnl:=hn.length
 have e:(arrSet arr o vs).toList=arr.toList.take o++vs++arr.toList.drop (o+new.length):=by
  apply List.ext_getElem?
  intro j
  rw [Array.getElem?_toList]
  have hsz:arr.size=cs.length:=by simpa using hl
  by_cases h1:j<o
  ·rw [arrSet_out vs o arr j (.inl h1),List.append_assoc,List.getElem?_append_left (by simp;omega),List.getElem?_take_of_lt h1];simp
  ·by_cases h2:j<o+vs.length
   ·have:=arrSet_in vs o arr (j-o) (by omega) (by omega)
    rw [show o+(j-o)=j by omega] at this
    rw [this,List.append_assoc,List.getElem?_append_right (by simp;omega),List.getElem?_append_left (by simp;omega)]
    congr 1;simp;omega
   ·rw [arrSet_out vs o arr j (.inr (by omega)),List.getElem?_append_right (by simp;omega),List.getElem?_drop]
    rw [Array.getElem?_toList]
    congr 1;simp;omega
 rw [e]
 exact ((h.take o).append hn).append (h.drop _)
theorem fill_vr {place:Nat->Option (Nat×Nat)}:∀{aps:List (Nat×AV)} {ps:List (Nat×Value)} {acs acs':List AV} {arr:Array Value},
 aps.map (·.1)=ps.map (·.1)->VRs σ (aps.map (·.2)) (ps.map (·.2))->VRs σ acs arr.toList->fillParts place acs aps=some acs'->
 ∃arr',Instr.fill place arr ps=some arr'/\VRs σ acs' arr'.toList/\acs'.length=acs.length
 |[],[],acs,acs',arr,_,_,h,hf=>by cases hf;exact ⟨arr,rfl,h,rfl⟩
 |[],p::ps,_,_,_,he,_,_,_=>by cases he
 |a::aps,[],_,_,_,he,_,_,_=>by cases he
 |(i,x)::aps,(j,v)::ps,acs,acs',arr,he,hv,h,hf=>by
  simp only [List.map_cons,List.cons.injEq] at he
  obtain ⟨rfl,he⟩:=he
  cases hv with
  |cons hx hv=>
   simp only [fillParts] at hf
   split at hf
   ·rename_i off size cs hp hc
    split at hf
    ·rename_i hcond
     obtain ⟨vs,h1,h2,_⟩:=cells_vr hx hc
     have hl2:=h2.length
     have hsp:=vrs_splice h h2 (o:=off) (by omega)
     have hspl:(splice acs off cs).length=acs.length:=by simp [splice];omega
     obtain ⟨arr',ha,hb,hcl⟩:=fill_vr he hv hsp hf
     refine ⟨arr',?_,hb,hcl.trans hspl⟩
     have hasz:arr.size=acs.length:=by simpa using h.length
     simp only [Instr.fill,hp,h1]
     have h3:¬((vs.toArray.size≠size)\/(off+vs.toArray.size>arr.size)):=by simp;omega
     simp only [Bool.or_eq_true,decide_eq_true_eq]
     rw [if_neg (by simpa using h3)]
     have:=arrSet_eq vs off 0 arr
     simp only [Nat.add_zero] at this
     rw [show (vs.toArray.zipIdx.foldl (λcs (c,j)=>cs.setIfInBounds (off+j) c) arr)=arrSet arr off vs by
      rw [<-Array.foldl_toList,Array.toList_zipIdx];exact this]
     exact ha
    ·cases hf
   ·cases hf
end Go.Abs
end
section
namespace Go.Abs
variable {P:Program} {tab:Tab} {σ:Sg}
theorem fields_get {fields:Array Field} {fs:List (Nat×TypeId)} (h:fields.toList.map (λf=>(f.offset,f.type))=fs) (i:Nat) :
 fs[i]?=(fields[i]?).map λf=>(f.offset,f.type):=by
 rw [<-h,List.getElem?_map,Array.getElem?_toList]
theorem run_sizeOf_info {t:TypeId} {i:TypeInfo} (h:P.info? t=some i) (w:World):(sizeOf t).run P w=.ok i.size w:=by
 simp [sizeOf,typeInfo,h]
theorem mapM_places (w:World):∀(fields:List Field),(∀f∈fields,(P.info? f.type).isSome)->
 ∃ps:List (Nat×Nat),(fields.mapM λf=>do pure (f.offset,<-sizeOf f.type):Sem (List (Nat×Nat))).run P w=.ok ps w/\
  ∀(i:Nat),ps[i]?=(fields[i]?).map λf=>(f.offset,((P.info? f.type).map (·.size)).getD 0)
 |[],_=>⟨[],by simp,by simp⟩
 |f::r,h=>by
  obtain ⟨ps,h1,h3⟩:=mapM_places w r (λx hx=>h x (by simp [hx]))
  obtain ⟨d,hd⟩:=Option.isSome_iff_exists.1 (h f (by simp))
  refine ⟨(f.offset,d.size)::ps,?_,?_⟩
  ·simp only [List.mapM_cons,Sem.run_bind,run_sizeOf_info hd,Result.andThen_ok,Sem.run_pure,h1]
  ·intro i
   cases i with
   |zero=>simp [hd]
   |succ i=>simpa using h3 i
theorem fillParts_mono {p q:Nat->Option (Nat×Nat)} (hpq:∀i x,p i=some x->q i=some x):∀{l:List (Nat×AV)} {acs acs':List AV},fillParts p acs l=some acs'->fillParts q acs l=some acs'
 |[],_,_,h=>h
 |(i,v)::r,acs,acs',h=>by
  simp only [fillParts] at h ⊢
  cases hp:p i with
  |none=>simp [hp] at h
  |some pr=>
   rw [hpq i pr hp]
   rw [hp] at h
   cases hc:cellsOf v with
   |none=>simp [hc] at h
   |some cs=>
    simp only [hc] at h ⊢
    split at h
    ·rename_i hcond
     rw [if_pos hcond]
     exact fillParts_mono hpq h
    ·cases h
theorem build_ok (tabOk:TabOK P tab) {t:TypeId} {d:TyD} (hd:tab t=some d) {aps:List (Nat×AV)} {ps:Array (Nat×Value)} (h1:aps.map (·.1)=ps.toList.map (·.1))
 (h2:VRs σ (aps.map (·.2)) (ps.toList.map (·.2))) {v:AV}
 (h:(match d.k with
   |.strct fs=>match fillParts (λi=>(fs[i]?).bind λf=>(tab f.2).map λdf=>(f.1,df.size)) (d.zero.map .sc) aps with
    |some cs=>quiet (.agg cs)
    |none=>none
   |.arr _ e=>match tab e with
    |some de=>match fillParts (λi=>some (i*de.size,de.size)) (d.zero.map .sc) aps with
     |some cs=>quiet (.agg cs)
     |none=>none
    |none=>none
   |_=>none)=some ⟨v,.loc [] [] 0⟩):Qt P (Instr.build t ps) σ v:=by
 have D:=tabOk t d hd
 obtain ⟨z,hz,hzc,hza,_⟩:=D.run_zero σ.w
 have hu:=D.under
 have zvr:VRs σ (d.zero.map .sc) z.cells.toList:=by rw [hzc];exact vrs_sc _ D.zsc
 cases hk:d.k<;>simp only [hk] at h<;>try cases h
 case strct fs=>
  simp only [KOK,hk] at hu
  obtain ⟨fields,hu,hf,hi⟩:=hu
  split at h
  ·rename_i cs hcs
   cases h
   obtain ⟨pl,hpl,hplg⟩:=mapM_places (P:=P) σ.w fields.toList hi
   have hcs':=fillParts_mono (q:=λi=>pl[i]?) (λi x hx=>by
    rw [hplg,Array.getElem?_toList]
    rw [fields_get hf] at hx
    cases hfi:fields[i]? with
    |none=>simp [hfi] at hx
    |some f=>
     simp only [hfi,Option.map_some,Option.bind_some] at hx ⊢
     cases hq:tab f.type with
     |none=>simp [hq] at hx
     |some dq=>
      simp only [hq,Option.map_some,Option.some.injEq] at hx
      rw [(tabOk _ _ hq).size]
      simpa using hx) hcs
   obtain ⟨arr',ha,hb,_⟩:=fill_vr h1 h2 zvr hcs'
   refine ⟨.agg arr',?_,by simpa using VR.agg hb⟩
   have hm:(fields.mapM λf=>do pure (f.offset,<-sizeOf f.type):Sem (Array (Nat×Nat))).run P σ.w=.ok pl.toArray σ.w:=by
    rw [Array.mapM_eq_mapM_toList]
    simp only [Sem.run_map,hpl,Result.andThen_ok]
   simp only [Instr.build,Sem.run_bind,hz,Result.andThen_ok,run_under hu,hm]
   have ha':Instr.fill (λx=>pl.toArray[x]?) z.cells ps.toList=some arr':=by simpa using ha
   simp only [ha']
   rfl
  ·cases h
 case arr n e=>
  simp only [KOK,hk] at hu
  split at h
  ·rename_i de hde
   split at h
   ·rename_i cs hcs
    cases h
    obtain ⟨arr',ha,hb,_⟩:=fill_vr h1 h2 zvr hcs
    refine ⟨.agg arr',?_,by simpa using VR.agg hb⟩
    simp only [Instr.build,Sem.run_bind,hz,Result.andThen_ok,run_under hu,(tabOk _ _ hde).run_sizeOf,ha]
    rfl
   ·cases h
  ·cases h
theorem run_part (tabOk:TabOK P tab) {t:TypeId} {cs:List AV} {ds:List Value} {off:Nat} {v:AV} (hv:VRs σ cs ds) (h:partA tab t cs off=some v) :
 ∃x,(part t ds.toArray off).run P σ.w=.ok x σ.w/\VR σ v x:=by
 unfold partA at h
 split at h
 ·rename_i dt hdt
  split at h
  ·rename_i hle
   have D:=tabOk t dt hdt
   obtain ⟨hl,⟨ha,hx⟩ | ⟨ha,u,hu,hx⟩⟩:=ofCells_vr ((hv.drop off).take dt.size) h
   ·refine ⟨_,?_,hx⟩
    simp only [part,Sem.run_bind,D.run_isAgg,ha,Result.andThen_ok,if_true,D.run_sizeOf,Sem.run_pure]
    congr 2
    rw [List.extract_toArray,List.extract_eq_take_drop]
    congr 2
    omega
   ·refine ⟨u,?_,hx⟩
    have hd:ds[off]?=some u:=by
     have:(List.take dt.size (List.drop off ds))[0]?=some u:=by rw [hu];rfl
     rw [List.getElem?_take] at this
     split at this
     ·simpa using this
     ·cases this
    simp only [part,Sem.run_bind,D.run_isAgg,ha,Result.andThen_ok,Bool.false_eq_true,if_false,List.getElem?_toArray,hd,Sem.run_pure]
  ·cases h
 ·cases h
theorem field_ok (tabOk:TabOK P tab) {t:TypeId} {d:TyD} (hd:tab t=some d) {x:AV} {xv:Value} (hx:VR σ x xv) {f:Nat} {r:Res} (h:fieldA tab d x f=some r) :
 r.e=.loc [] [] 0/\Qt P (Instr.field t xv f) σ r.v:=by
 have D:=tabOk t d hd
 have hu:=D.under
 unfold fieldA at h
 split at h
 ·rename_i fs cs hk
  split at h
  ·rename_i off ft hf
   split at h
   ·rename_i v hv
    cases h
    simp only [KOK,hk] at hu
    obtain ⟨fields,hu,hff,hi⟩:=hu
    rw [fields_get hff] at hf
    cases hfi:fields[f]? with
    |none=>simp [hfi] at hf
    |some fl=>
     simp only [hfi,Option.map_some,Option.some.injEq,Prod.mk.injEq] at hf
     obtain ⟨rfl,rfl⟩:=hf
     obtain ⟨ds,rfl,hds⟩:=hx.agg_inv
     obtain ⟨y,hy,hvy⟩:=run_part tabOk hds hv
     refine ⟨rfl,y,?_,hvy⟩
     simp only [Instr.field,Sem.run_bind,run_under hu,Result.andThen_ok,hfi,asAgg,Sem.run_pure,hy]
   ·cases h
  ·cases h
 ·cases h
theorem pt_shift {n g i fo:Nat} {v:Value} (h:VR σ (.pt n g i fo) v) (k:Nat):∃b o,v=.pointer (some ⟨b,o,none⟩)/\VR σ (.pt n g i (fo+k)) (.pointer (some ⟨b,o+k,none⟩)):=by
 cases h with
 |tree h=>cases h
 |pt hn=>exact ⟨_,_,rfl,by rw [Nat.add_assoc];exact .pt hn⟩
 |stale h=>
  obtain ⟨hg,b,o,rfl⟩:=h
  exact ⟨b,o,rfl,.stale ⟨hg,_,_,rfl⟩⟩
theorem ipt_shift {cs:List AV} {v:Value} (h:VR σ (.ipt cs) v) (k:Nat):∃b o,v=.pointer (some ⟨b,o,none⟩)/\VR σ (.ipt (cs.drop k)) (.pointer (some ⟨b,o+k,none⟩)):=by
 obtain ⟨⟨b,o,sp⟩,vs,rfl,ht,rfl,hr⟩:=h.ipt_inv
 refine ⟨b,o,rfl,.tree (.ipt (ht.drop k) ⟨rfl,λj v hv=>?_⟩)⟩
 rw [List.getElem?_drop] at hv
 have:=hr _ v hv
 rwa [<-Nat.add_assoc] at this
theorem run_fieldPlace (tabOk:TabOK P tab) {b o:Nat} {fl:Field} {dt:TyD} (ht:tab fl.type=some dt) (hz:dt.size≠0) (w:World) :
 (fieldPlace ⟨b,o,none⟩ fl).run P w=.ok ⟨b,o+fl.offset,none⟩ w:=by
 simp only [fieldPlace,Sem.run_bind,(tabOk _ _ ht).run_sizeOf,Result.andThen_ok,if_neg hz,Sem.run_pure,Addr.add_mid]
theorem fieldAt_ok (tabOk:TabOK P tab) {t:TypeId} {d:TyD} (hd:tab t=some d) {x:AV} {xv:Value} (hx:VR σ x xv) {f:Nat} {r:Res} (h:fieldAtA tab d x f=some r) :
 r.e=.loc [] [] 0/\Qt P (Instr.fieldAt t xv f) σ r.v:=by
 have D:=tabOk t d hd
 have hu:=D.under
 unfold fieldAtA at h
 split at h
 ·rename_i fs hk
  split at h
  ·rename_i off ft hf
   split at h
   ·rename_i dt hdt
    split at h
    ·cases h
    ·rename_i hz
     simp only [KOK,hk] at hu
     obtain ⟨fields,hu,hff,hi⟩:=hu
     rw [fields_get hff] at hf
     cases hfi:fields[f]? with
     |none=>simp [hfi] at hf
     |some fl=>
      simp only [hfi,Option.map_some,Option.some.injEq,Prod.mk.injEq] at hf
      obtain ⟨rfl,rfl⟩:=hf
      have key:∀b o,(Instr.fieldAt t (.pointer (some ⟨b,o,none⟩)) f).run P σ.w=.ok (.pointer (some ⟨b,o+fl.offset,none⟩)) σ.w:=λb o=>by
       simp only [Instr.fieldAt,Sem.run_bind,run_under hu,Result.andThen_ok,hfi,Instr.sureAddr,Sem.run_pure,run_fieldPlace tabOk hdt hz]
      split at h
      ·split at h
       ·cases h
        obtain ⟨b,o,rfl,hv⟩:=ipt_shift hx fl.offset
        exact ⟨rfl,_,key b o,hv⟩
       ·cases h
      ·cases h
       obtain ⟨b,o,rfl,hv⟩:=pt_shift hx fl.offset
       exact ⟨rfl,_,key b o,hv⟩
      ·cases h
   ·cases h
  ·cases h
 ·cases h
end Go.Abs
end
