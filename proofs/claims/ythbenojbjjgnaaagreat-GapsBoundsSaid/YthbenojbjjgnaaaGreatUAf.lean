/- Of GapsBounds: lemmas. -/
import Derived.Test.YthbenojbjjgnaaaGreatUAe
set_option linter.all false
section
namespace Go.Abs
noncomputable section
inductive WV where
 |sc (x:Value)
 |agg (cs:List WV)
 |tup (vs:List WV)
 |lst (es:List (List WV))
 |row (n:Nat)
 |box (n fo:Nat)
 |elt (n i fo:Nat)
 |ipt (cs:List WV)
 |win (n lo len:Nat) (cp:Bool)
 |fn (f:FuncId) (first caps:List WV)
 |fnp (f:FuncId) (first caps:List WV)
 |mp (n:Nat)
 |imb (G:Value→AV→Prop)
 |yld (n:Nat)
 |ifc (t:TypeId) (v:WV)
 |lsc (es:List (List WV))
 deriving Inhabited
structure LoopD where
 b:Nat
 Tc:TL
 N:Nat
 ps:List Tmp
 asg:Code
 body:Code
inductive WO where
 |box (cs:List WV) (fz:Bool)
 |row (es:List (List WV)) (s:Nat) (fz:Bool) (rt:Nat)
 |set (ks:List Value) (V:Value→Prop)
 |bag (G:Value→AV→Prop) (fz:Bool) (pe:List (Nat×Value))
 |loop (D:LoopD) (T:List (Nat×WV)) (st:LoopState) (pend:Option Code)
 |frm (T:List (Nat×WV)) (Tc:TL)
 deriving Inhabited
abbrev WT:=List (Nat×WV)
structure WH where
 objs:List (Nat×WO)
 nx:Nat
 deriving Inhabited
def lk {α:Type} (l:List (Nat×α)) (n:Nat):Option α:=List.rec none (fun p _ ih=>match p with | (m,a)=>bif Nat.beq m n then some a else ih) l
def rmv {α:Type} (l:List (Nat×α)) (n:Nat):List (Nat×α):=List.rec [] (fun p _ ih=>match p with | (m,a)=>bif Nat.beq m n then ih else (m,a)::ih) l
def forceN (n:Nat) (K:Nat→Prop):Prop:=Nat.rec (motive:=fun _=>Prop) (K 0) (fun m _=>K m) (Nat.add n 1)
def forceC {α:Type} (cs:List α):(List α→Prop)→Prop:=List.rec (motive:=fun _=>(List α→Prop)→Prop) (fun K=>K []) (fun x _ ih K=>ih fun ys=>K (x::ys)) cs
def undefW:WV:=.sc (.tuple #[])
def ofConstW:Value→Option WV
 |.agg cs=>bif cs.all scalarB then some (.agg (cs.toList.map .sc)) else none
 |v=>bif scalarB v then some (.sc v) else none
def evW (T:WT):Operand→Option WV
 |.tmp t=>lk T t
 |.const v=>ofConstW v
 |.func f=>some (.fnp f [] [])
 |_=>none
def cellW:WV→WV
 |.sc (.slice none 0 0)=>.lst []
 |v=>v
def cellsW:WV→Option (List WV)
 |.agg cs=>some cs
 |.tup _=>none
 |.win _ _ _ _=>none
 |.yld _=>none
 |.ifc _ _=>none
 |.lsc _=>none
 |.sc (.tuple _)=>none
 |.sc (.agg _)=>none
 |v=>some [cellW v]
def zeroW (d:TyD):List WV:=d.zero.map fun v=>cellW (.sc v)
def zeroN (d:TyD) (k:Nat):List WV:=d.zero.zipIdx.map fun p=>bif Nat.beq p.2 k then .sc p.1 else cellW (.sc p.1)
def takeW (n:Nat) (cs:List WV):List WV:=bif Nat.beq n cs.length then cs else cs.take n
def dropW (n:Nat) (cs:List WV):List WV:=match n with
 |0=>cs
 |n+1=>cs.drop (n+1)
def ofCellsW (d:TyD) (cs:List WV):Option WV:=
 bif Nat.beq cs.length d.size then (match d.isAgg with | true=>some (.agg cs) | false=>match cs with | [v]=>some v | _=>none) else none
def spliceW (cs:List WV) (at_:Nat) (new:List WV):List WV:=bif Nat.beq new.length cs.length&&Nat.beq at_ 0 then new else cs.take at_++(new++cs.drop (at_+new.length))
def storableW:WV→Bool
 |.sc (.tuple _) | .agg _ | .tup _ | .win _ _ _ _ | .yld _ | .ifc _ _ | .lsc _=>false
 |_=>true
def fillW (place:Nat→Option (Nat×Nat)):List (Nat×WV)→List WV→Option (List WV)
 |[],cells=>some cells
 |(i,v)::rest,cells=>
  match place i,cellsW v with
  |some (off,size),some cs=>bif Nat.beq cs.length size&&Nat.ble (off+size) cells.length then fillW place rest (spliceW cells off cs) else none
  |_,_=>none
def fillC (place:Nat→Option (Nat×Nat)):List (Nat×WV)→List WV→(List WV→Prop)→Prop
 |[],cells,K=>K cells
 |(i,v)::rest,cells,K=>
  match place i,cellsW v with
  |some (off,size),some cs=>bif Nat.beq cs.length size&&Nat.ble (off+size) cells.length then forceC (spliceW cells off cs) fun ys=>fillC place rest ys K else False
  |_,_=>False
def setW (s:Nat):List (Nat×WV)→List (List WV)→Option (List (List WV))
 |[],es=>some es
 |(i,v)::rest,es=>
  match cellsW v with
  |some cs=>bif Nat.beq cs.length s&&Nat.blt i es.length then setW s rest (es.set i cs) else none
  |none=>none
structure WE where
 rd:List Nat
 wr:List Nat
abbrev WK:=WV→WH→WE→Prop
def both (b:Bool) (X Y:Prop):Prop:=Bool.rec (motive:=fun _=>Prop) Y X b
theorem bothT {X Y:Prop} (h:both true X Y):X:=h
theorem bothF {X Y:Prop} (h:both false X Y):Y:=h
theorem br {b:Bool} {X Y:Prop} (h1:b=true→X) (h2:b=false→Y):Bool.rec (motive:=fun _=>Prop) Y X b:=by
 cases b
 ·exact h2 rfl
 ·exact h1 rfl
def leafB:WV→Bool
 |.sc (.tuple _)=>false
 |.sc _ | .lst _ | .ipt _ | .imb _ | .fnp _ [] []=>true
 |_=>false
def leafs (es:List (List WV)):Prop:=∀e∈es,e.all leafB=true
mutual
inductive PR:WV→AV→Prop
 |sc {x:Value}:PR (.sc x) (.sc x)
 |agg {cs:List WV} {xs:List AV} (h:PRs cs xs):PR (.agg cs) (.agg xs)
 |tup {cs:List WV} {xs:List AV} (h:PRs cs xs):PR (.tup cs) (.tup xs)
 |emp:PR (.lst []) (.sc (.slice none 0 0))
 |lst {es:List (List WV)} {xs:List (List AV)} {c:Bool} (h:PRss es xs):PR (.lst es) (.isl xs c)
 |ipt {cs:List WV} {xs:List AV} (h:PRs cs xs):PR (.ipt cs) (.ipt xs)
 |imb {G:Value→AV→Prop} {ks:List Value} {vs:List AV} (hl:vs.length=ks.length) (h:∀(i:Nat) k x,ks[i]?=some k→vs[i]?=some x→G k x):PR (.imb G) (.imp ks vs)
 |fnp {f:FuncId} {a b:List WV} {xs ys:List AV} (ha:PRs a xs) (hb:PRs b ys) (hl:a.all leafB=true) (hm:b.all leafB=true):PR (.fnp f a b) (.fn (.func f) xs ys)
 |ifc {t:TypeId} {v:WV} {x:AV} (h:PR v x):PR (.ifc t v) (.ifc t x)
 |lsc {es:List (List WV)} {xs:List (List AV)} (h:PRss es xs):PR (.lsc es) (.isl xs true)
 |lsc0:PR (.lsc []) (.sc (.slice none 0 0))
inductive PRs:List WV→List AV→Prop
 |nil:PRs [] []
 |cons {c:WV} {cs:List WV} {x:AV} {xs:List AV} (h:PR c x) (hs:PRs cs xs):PRs (c::cs) (x::xs)
inductive PRss:List (List WV)→List (List AV)→Prop
 |nil:PRss [] []
 |cons {c:List WV} {cs:List (List WV)} {x:List AV} {xs:List (List AV)} (h:PRs c x) (hs:PRss cs xs):PRss (c::cs) (x::xs)
end
def WValidP (P:Program) (f:FuncId) (args:List WV) (G:WV→Prop) (Gp:AV→Prop):Prop:=∀xs,PRs args xs→(∃r x,PR r x∧G r∧Valid P f xs (.ret x))∨∃v,Gp v∧Valid P f xs (.pan v)
def WValid (P:Program) (f:FuncId) (args:List WV) (G:WV→Prop):Prop:=∀xs,PRs args xs→∃r x,PR r x∧G r∧Valid P f xs (.ret x)
def WOwn (P:Program) (f:FuncId) (args:List WV) (s:Nat) (z:Bool) (G:List (List WV)→Prop):Prop:=
 ∀xs,PRs args xs→(∃es ys fz,PRss es ys∧G es∧(∀e∈es,e.length=s)∧fz≤ys.length∧(z=false→fz=0)∧ValidOwn P f xs ys s fz)∨(G []∧Valid P f xs (.ret (.sc (.slice none 0 0))))
def WOwnS (P:Program) (f:FuncId) (args:List WV) (s:Nat) (G:List (List WV)→Prop):Prop:=
 ∀xs,PRs args xs→(∃es ys,PRss es ys∧G es∧(∀e∈es,e.length=s)∧ValidOwn P f xs ys s 0)∨(G []∧∃x,PR (.lst []) x∧Valid P f xs (.ret x))
def ShowsR (H:Heap) (x:AV) (es:List (List WV)) (s:Nat):Prop:=
 (x=.sc (.slice none 0 0)∧es=[])∨∃b g cap zs,x=.sl b g 0 g cap∧look H.objs b=some (.cells zs s 0)∧zs.length=g∧PRss es zs∧(cap=none∨cap=some g)
def notRow (x:AV) (k:Nat):Prop:=∀b g o l c,x=.sl b g o l c→b≠k
def WUpd (P:Program) (f:FuncId) (post:List WV) (s:Nat) (es:List (List WV)) (G:List (List WV)→Prop):Prop:=
 ∀(H:Heap) (x:AV) (xs:List AV),(∀m,H.next≤m→look H.objs m=none)→ShowsR H x es s→PRs post xs→
  ∃es' y H',G es'∧(∀e∈es',e.length=s)∧leafs es'∧Valid2 P f (x::xs) H (.ret y) H'∧H.next≤H'.next∧(∀m,H'.next≤m→look H'.objs m=none)∧
   (∀k,look H'.objs k≠none→look H.objs k≠none∨H.next≤k)∧(∀k,k<H.next→notRow x k→look H'.objs k=look H.objs k∧notRow y k)∧ShowsR H' y es' s
def WSet (P:Program) (f:FuncId) (post:List WV) (s:Nat) (es:List (List WV)) (G:List (List WV)→Prop):Prop:=
 ∀(H:Heap) (x:AV) (xs:List AV),(∀m,H.next≤m→look H.objs m=none)→ShowsR H x es s→PRs post xs→
  ∃es' H',G es'∧(∀e∈es',e.length=s)∧Valid2 P f (x::xs) H (.ret (.sc (.tuple #[]))) H'∧H.next≤H'.next∧(∀m,H'.next≤m→look H'.objs m=none)∧
   (∀k,look H'.objs k≠none→look H.objs k≠none∨H.next≤k)∧(∀k,k<H.next→notRow x k→look H'.objs k=look H.objs k)∧ShowsR H' x es' s
def GL:Nat:=4294967295
section
variable (P:Program) (tab:Tab)
def plainK (v:WV) (H:WH) (K:WK):Prop:=K v H ⟨[],[]⟩
def newBox (H:WH) (cs:List WV) (K:WK):Prop:=match H with | ⟨objs,nx⟩=>forceN nx fun n=>forceN (n+1) fun m=>K (.box n 0) ⟨(n,.box cs false)::objs,m⟩ ⟨[],[n]⟩
def newRow (H:WH) (es:List (List WV)) (s:Nat) (fz:Bool) (rd:List Nat) (K:WK):Prop:=match H with | ⟨objs,nx⟩=>forceN nx fun n=>forceN (n+1) fun m=>K (.row n) ⟨(n,.row es s fz n)::objs,m⟩ ⟨rd,[n]⟩
def showW (H:WH) (s:Nat):WV→Option (List (List WV)×List Nat)
 |.sc (.slice none 0 0)=>some ([],[])
 |.lst es=>some (es,[])
 |.row n=>match lk H.objs n with
  |some (.row es s' _ rt)=>bif Nat.beq s' s then some (es,[rt]) else none
  |_=>none
 |.win n lo len _=>match lk H.objs n with
  |some (.row es s' _ rt)=>bif Nat.beq s' s then some ((es.drop lo).take len,[rt]) else none
  |_=>none
 |_=>none
def bytesW (x:ByteArray):List (List WV):=x.data.toList.map fun b=>[.sc (.int .u8 b.toNat)]
def roomP (bytes need:Nat):Prop:=(2*need+192)*bytes≤2 ^ 48∧need≤2 ^ 60
def cellP (s:Nat) (ys:List (List WV)):Prop:=∀y∈ys,y.length=s∧y.all storableW=true
def newName (H:WH) (m:Nat) (o:WO) (e:WE) (K:WK):Prop:=match H with | ⟨objs,nx⟩=>forceN nx fun n=>forceN (n+1) fun m'=>K (.row n) ⟨(n,o)::rmv objs m,m'⟩ e
def appendW (H:WH) (de:TyD) (s:WV) (ys:List (List WV)) (rd:List Nat) (K:WK):Prop:=
 match s with
 |.sc (.slice none 0 0)=>roomP de.bytes ys.length∧cellP de.size ys∧newRow H ys de.size false rd K
 |.row m=>match lk H.objs m with
  |some (.row es sz fz rt)=>bif Nat.beq sz de.size then roomP de.bytes (es.length+ys.length)∧cellP de.size ys∧∃zs,es++ys=zs∧newName H m (.row zs sz fz rt) ⟨rd,[rt]⟩ K else False
  |_=>False
 |.win m lo len true=>match lk H.objs m with
  |some (.row es sz _ rt)=>bif Nat.beq sz de.size then (ys≠[]→roomP de.bytes (len+ys.length)∧cellP de.size ys∧∃zs,(es.drop lo).take len++ys=zs∧newRow H zs de.size false (rt::rd) K)∧(ys=[]→K (.win m lo len true) H ⟨rd,[]⟩) else False
  |_=>False
 |.lsc es=>(∀e∈es,e.length=de.size)∧(ys≠[]→roomP de.bytes (es.length+ys.length)∧cellP de.size ys∧∃zs,es++ys=zs∧newRow H zs de.size false rd K)∧(ys=[]→K (.lst es) H ⟨rd,[]⟩)
 |_=>False
def boundsW (len:Nat) (lo hi:Option WV) (K:Nat→Nat→Prop):Prop:=
 match lo,hi with
 |none,none=>K 0 len
 |some (.sc (.int _ l)),none=>0≤l∧l≤len∧K l.toNat len
 |none,some (.sc (.int _ h))=>0≤h∧h≤len∧K 0 h.toNat
 |some (.sc (.int _ l)),some (.sc (.int _ h))=>0≤l∧l≤h∧h≤len∧K l.toNat h.toNat
 |_,_=>False
def optW (T:WT):Option Operand→Option (Option WV)
 |none=>some none
 |some x=>(evW T x).map some
def isBool (d:TyD):Bool:=match d.k with | .bool=>true | _=>false
def scBin (op:BinOp) (t:TypeId) (x y:WV):Option WV:=
 match x,y with
 |.sc (.int k a),.sc (.int j b)=>(pureVal (Go.binOp op t (.int k a) (.int j b))).map .sc
 |.sc (.bool a),.sc (.bool b)=>match op,(tab t).map isBool with
  |.eql,some true=>some (.sc (.bool (a==b)))
  |.neq,some true=>some (.sc (.bool (!(a==b))))
  |_,_=>none
 |_,_=>none
def mapO {α β:Type} (f:α→Option β):List α→Option (List β)
 |[]=>some []
 |a::r=>match f a with | none=>none | some b=>match mapO f r with | none=>none | some bs=>some (b::bs)
inductive BoxesC (H:WH):List WV→List WV→List Nat→Prop
 |nil:BoxesC H [] [] []
 |box {n:Nat} {c b d:List WV} {fz:Bool} {ns:List Nat} (h:lk H.objs n=some (.box c fz)) (hl:c.all leafB=true) (hs:BoxesC H b d ns):BoxesC H (.box n 0::b) (.ipt c::d) (n::ns)
inductive DeepC (H:WH):List WV→List WV→List Nat→Prop
 |nil:DeepC H [] [] []
 |leaf {v:WV} {cs ds:List WV} {ns:List Nat} (h:leafB v=true) (hs:DeepC H cs ds ns):DeepC H (v::cs) (v::ds) ns
 |fn {f:FuncId} {b d cs ds:List WV} {ns ms:List Nat} (h:BoxesC H b d ns) (hs:DeepC H cs ds ms):DeepC H (.fn f [] b::cs) (.fnp f [] d::ds) (ns++ms)
 |row {m s rt:Nat} {fz:Bool} {es:List (List WV)} {cs ds:List WV} {ns:List Nat} (h:lk H.objs m=some (.row es s fz rt)) (hl:leafs es) (hs:DeepC H cs ds ns):DeepC H (.row m::cs) (.lst es::ds) (m::ns)
inductive Deep (H:WH):List (List WV)→List (List WV)→List Nat→Prop
 |nil:Deep H [] [] []
 |leaf {e:List WV} {r r':List (List WV)} {ns:List Nat} (h:e.all leafB=true) (hs:Deep H r r' ns):Deep H (e::r) (e::r') ns
 |deep {c d:List WV} {r r':List (List WV)} {ns ms:List Nat} (h:DeepC H c d ns) (hs:Deep H r r' ms):Deep H (c::r) (d::r') (ns++ms)
theorem deep0 {H:WH} {es:List (List WV)} (h:leafs es):Deep H es es []:=by
 induction es with
 |nil=>exact .nil
 |cons e r ih=>exact .leaf (h e (by simp)) (ih fun x hx=>h x (by simp [hx]))
def viewM (H:WH) (v:WV) (K:WV→List Nat→Prop):Prop:=match v with
 |.mp n=>match lk H.objs n with
  |some (.bag G _ _)=>K (.imb G) [n]
  |_=>False
 |v=>bif leafB v then K v [] else False
def viewMs (H:WH):List WV→(List WV→List Nat→Prop)→Prop
 |[],K=>K [] []
 |c::cs,K=>viewM H c fun d ns=>viewMs H cs fun ds ms=>K (d::ds) (ns++ms)
def viewC (H:WH) (v:WV) (K:WV→List Nat→Prop):Prop:=match v with
 |.sc (.slice none 0 0)=>K (.lst []) []
 |.sc x=>K (.sc x) []
 |.lst es=>K (.lst es) []
 |.ipt cs=>K (.ipt cs) []
 |.imb G=>K (.imb G) []
 |.row n=>match lk H.objs n with
  |some (.row es _ _ _)=>∃zs ns,Deep H es zs ns∧K (.lst zs) (n::ns)
  |_=>False
 |.win n lo len _=>match lk H.objs n with
  |some (.row es _ _ _)=>leafs es∧∃zs,(es.drop lo).take len=zs∧K (.lst zs) [n]
  |_=>False
 |.box n 0=>match lk H.objs n with
  |some (.box cs _)=>bif cs.all leafB then K (.ipt cs) [n] else viewMs H cs fun ds ns=>K (.ipt ds) (n::ns)
  |_=>False
 |.mp n=>match lk H.objs n with
  |some (.bag G _ _)=>K (.imb G) [n]
  |_=>False
 |_=>False
def viewCs (H:WH):List WV→(List WV→List Nat→Prop)→Prop
 |[],K=>K [] []
 |c::cs,K=>viewC H c fun d ns=>viewCs H cs fun ds ms=>K (d::ds) (ns++ms)
def viewI (H:WH) (v:WV) (K:WV→List Nat→Prop):Prop:=match v with
 |.agg cs=>viewCs H cs fun ds ns=>K (.agg ds) ns
 |v=>viewC H v K
def viewV (H:WH) (v:WV) (K:WV→List Nat→Prop):Prop:=match v with
 |.ifc t v=>viewI H v fun d ns=>K (.ifc t d) ns
 |.agg cs=>bif cs.all leafB then K (.agg cs) [] else viewCs H cs fun ds ns=>K (.agg ds) ns
 |.fnp f a b=>K (.fnp f a b) []
 |.fn f a b=>viewCs H a fun as ns=>viewCs H b fun bs ms=>bif as.all leafB&&bs.all leafB then K (.fnp f as bs) (ns++ms) else False
 |v=>viewC H v K
def viewVs (H:WH):List WV→(List WV→List Nat→Prop)→Prop
 |[],K=>K [] []
 |c::cs,K=>viewV H c fun d ns=>viewVs H cs fun ds ms=>K (d::ds) (ns++ms)
def freezeO (ns:List Nat) (n:Nat) (o:WO):WO:=match o with
 |.row es s fz rt=>bif ns.contains n then .row es s true rt else .row es s fz rt
 |.box cs fz=>bif ns.contains n then .box cs true else .box cs fz
 |.set ks V=>.set ks V
 |.bag G fz pe=>bif ns.contains n then .bag G true pe else .bag G fz pe
 |.loop D T st pend=>.loop D T st pend
 |.frm T Tc=>.frm T Tc
def freezeW (objs:List (Nat×WO)) (ns:List Nat):List (Nat×WO):=List.rec [] (fun p _ ih=>match p with | (n,o)=>(n,freezeO ns n o)::ih) objs
def rootW (n:Nat) (o:Option WO):List Nat:=match o with
 |some (.set _ _)=>[n]
 |some (.bag _ _ _)=>[n]
 |some (.row _ _ _ rt)=>[rt]
 |some (.box _ _)=>[n]
 |some (.loop _ _ _ _)=>[n]
 |some (.frm _ _)=>[n]
 |_=>[]
def rootsW (objs:List (Nat×WO)):List Nat→List Nat
 |[]=>[]
 |n::ns=>rootW n (lk objs n)++rootsW objs ns
def freezeH (H:WH) (ns:List Nat):WH:=match ns with
 |[]=>H
 |ns=>⟨freezeW H.objs ns,H.nx⟩
def mvW (T:WT) (H:WH) (K:WK) (x:Operand):Prop:=match evW T x with | some v=>plainK v H K | none=>False
def pickW (T:WT) (H:WH) (K:WK) (c a b:Operand):Prop:=match evW T c with
 |some (.sc (.bool q))=>both q (mvW T H K a) (mvW T H K b)
 |_=>False
def chunksW (s:Nat):Nat→List WV→List (List WV)
 |0,_=>[]
 |k+1,cs=>cs.take s::chunksW s k (cs.drop s)
def newArr (H:WH) (es:List (List WV)) (s:Nat) (K:WK):Prop:=match H with | ⟨objs,nx⟩=>forceN nx fun n=>forceN (n+1) fun m=>K (.elt n 0 0) ⟨(n,.row es s false n)::objs,m⟩ ⟨[],[n]⟩
def allocW (H:WH) (K:WK) (t:TypeId):Prop:=match tab t with
 |some d=>match d.k with
  |.arr m e=>(match tab e with
   |some de=>bif Nat.beq (zeroW d).length (m*de.size) then newArr H (chunksW de.size m (zeroW d)) de.size K else False
   |none=>False)
  |.slice _=>newBox H (zeroN d 0) K
  |_=>newBox H (zeroW d) K
 |none=>False
def boxW (T:WT) (H:WH) (K:WK) (t:TypeId) (x:Operand):Prop:=match tab t,(evW T x).bind cellsW with
 |some d,some cs=>match d.k with
  |.arr _ _=>False
  |_=>bif Nat.beq cs.length d.size then newBox H cs K else False
 |_,_=>False
def partsW (T:WT) (parts:Array (Nat×Operand)):Option (List (Nat×WV)):=mapO (fun p:Nat×Operand=>(evW T p.2).map fun v=>(p.1,v)) parts.toList
def placeW (fs:List (Nat×TypeId)) (i:Nat):Option (Nat×Nat):=(fs[i]?).bind fun f=>(tab f.2).map fun df=>(f.1,df.size)
def rawB (t:TypeId):List (Nat×WV)→Bool
 |[(5,_)]=>Nat.beq t 61
 |_=>false
def buildW (T:WT) (H:WH) (K:WK) (t:TypeId) (parts:Array (Nat×Operand)):Prop:=match tab t,partsW T parts with
 |some d,some ps=>match d.k with
  |.strct fs=>match fillW (placeW tab fs) ps (bif rawB t ps then zeroN d 6 else zeroW d) with
   |some cs=>plainK (.agg cs) H K
   |none=>False
  |.arr _ e=>(match tab e with
   |some de=>fillC (fun i=>some (i*de.size,de.size)) ps (zeroW d) fun cs=>plainK (.agg cs) H K
   |none=>False)
  |_=>False
 |_,_=>False
def arrAll (m:Nat) (iv:Int) (X:Nat→Prop):Prop:=0≤iv∧iv<(m:Int)∧List.rec (motive:=fun _=>Prop) True (fun (k:Nat) _ ih=>(iv=(k:Int)→X k)∧ih) (List.range m)
def elemD (d:TyD):Option TyD:=match d.k with
 |.slice e=>tab e
 |_=>none
def rowsW (T:WT) (H:WH) (K:WK) (t:TypeId) (len:Nat) (parts:Array (Nat×Operand)):Prop:=match (tab t).bind (elemD tab),partsW T parts with
 |some de,some ps=>match setW de.size ps (List.replicate len (zeroW de)) with
  |some es=>bif Nat.beq de.zero.length de.size&&!(Nat.beq de.size 0)&&Nat.ble (len*de.size) 1048576 then newRow H es de.size false [] K else False
  |none=>False
 |_,_=>False
def giveW (H:WH) (K:WK) (e:WE) (v:Option WV):Prop:=match v with | some v=>K v H e | none=>False
def loadBox (H:WH) (K:WK) (d:TyD) (n fo:Nat):Prop:=match lk H.objs n with
 |some (.box cs _)=>bif Nat.ble (fo+d.size) cs.length then giveW H K ⟨[n],[]⟩ (ofCellsW d (takeW d.size (dropW fo cs))) else False
 |_=>False
def loadElt (H:WH) (K:WK) (d:TyD) (n i fo:Nat):Prop:=match lk H.objs n with
 |some (.row es s _ rt)=>∃cs,es[i]?=some cs∧(bif Nat.ble (fo+d.size) s then giveW H K ⟨[rt],[]⟩ (ofCellsW d (takeW d.size (dropW fo cs))) else False)
 |_=>False
def isArr (d:TyD):Bool:=match d.k with | .arr _ _=>true | _=>false
def loadArr (H:WH) (K:WK) (d:TyD) (n i fo:Nat):Prop:=match lk H.objs n with
 |some (.row es s _ rt)=>bif Nat.beq i 0&&Nat.beq fo 0&&Nat.beq d.size (es.length*s)&&Nat.blt s d.size then giveW H K ⟨[rt],[]⟩ (ofCellsW d es.flatten) else False
 |_=>False
def loadW (T:WT) (H:WH) (K:WK) (t:TypeId) (a:Operand):Prop:=match tab t,evW T a with
 |some d,some (.ipt cs)=>giveW H K ⟨[],[]⟩ (ofCellsW d (takeW d.size cs))
 |some d,some (.box n fo)=>loadBox H K d n fo
 |some d,some (.elt n i fo)=>bif isArr d then loadArr H K d n i fo else loadElt H K d n i fo
 |_,_=>False
def setObj (H:WH) (n:Nat) (o:WO) (K:WK):Prop:=match H with | ⟨objs,nx⟩=>K undefW ⟨(n,o)::objs,nx⟩ ⟨[],[n]⟩
def storeBox (H:WH) (K:WK) (d:TyD) (n fo:Nat) (new:List WV):Prop:=match lk H.objs n with
 |some (.box cs false)=>bif Nat.beq new.length d.size&&Nat.ble (fo+d.size) cs.length&&new.all storableW then forceC (spliceW cs fo new) fun cs'=>setObj H n (.box cs' false) K else False
 |_=>False
def storeElt (H:WH) (K:WK) (d:TyD) (n i fo:Nat) (new:List WV):Prop:=match lk H.objs n with
 |some (.row es s false rt)=>∃cs,es[i]?=some cs∧(bif Nat.beq new.length d.size&&Nat.ble (fo+d.size) s&&new.all storableW then ∃zs,es.set i (spliceW cs fo new)=zs∧K undefW ⟨(n,.row zs s false rt)::H.objs,H.nx⟩ ⟨[],[rt]⟩ else False)
 |_=>False
def storeArr (H:WH) (K:WK) (d:TyD) (n i fo:Nat) (new:List WV):Prop:=match lk H.objs n with
 |some (.row es s false rt)=>bif Nat.beq i 0&&Nat.beq fo 0&&Nat.beq new.length d.size&&Nat.beq d.size (es.length*s)&&Nat.blt s d.size&&Nat.blt 0 s&&new.all storableW then forceC (chunksW s es.length new) fun zs=>K undefW ⟨(n,.row zs s false rt)::H.objs,H.nx⟩ ⟨[],[rt]⟩ else False
 |_=>False
def storeW (T:WT) (H:WH) (K:WK) (t:TypeId) (a x:Operand):Prop:=match tab t,evW T a,(evW T x).bind cellsW with
 |some d,some (.box n fo),some new=>storeBox H K d n fo new
 |some d,some (.elt n i fo),some new=>bif isArr d then storeArr H K d n i fo new else storeElt H K d n i fo new
 |_,_,_=>False
def aliveB (H:WH) (n:Nat):Bool:=match lk H.objs n with | some _=>true | none=>false
def nilW' (T:WT) (H:WH) (K:WK) (x:Operand):Prop:=match evW T x with
 |some (.ipt cs)=>plainK (.ipt cs) H K
 |some (.box n fo)=>bif aliveB H n then plainK (.box n fo) H K else False
 |some (.elt n i fo)=>bif aliveB H n then plainK (.elt n i fo) H K else False
 |_=>False
def catW (H:WH) (K:WK) (op:BinOp) (t:TypeId) (a b:WV):Prop:=match a,b with
 |.sc (.string a),.sc (.string b)=>match op with
  |.add=>a.size+b.size≤2 ^ 60∧plainK (.sc (.string (a++b))) H K
  |op=>giveW H K ⟨[],[]⟩ ((pureVal (Op.stringOp op a b)).map .sc)
 |a,b=>giveW H K ⟨[],[]⟩ (scBin tab op t a b)
def isSlK (d:TyD):Bool:=match d.k with | .slice _=>true | _=>false
def nilB (H:WH) (K:WK) (op:BinOp) (t:TypeId) (es:List (List WV)):Prop:=match op,(tab t).map isSlK with
 |.eql,some true=>∀b:Bool,(b=true→es=[])→plainK (.sc (.bool b)) H K
 |_,_=>False
def ptrB (H:WH) (K:WK) (op:BinOp) (t:TypeId) (b:Bool):Prop:=match op,(tab t).map TyD.k with
 |.eql,some TyK.ptr=>plainK (.sc (.bool b)) H K
 |.neq,some TyK.ptr=>plainK (.sc (.bool (!b))) H K
 |_,_=>False
def fitsW:List TyK→List WV→List WV→Bool
 |[],[],[]=>true
 |k::ks,.sc v::cs,.sc w::ds=>fitK k v&&(sameKey v w).isSome&&fitsW ks cs ds
 |_,_,_=>false
def hdSame:List WV→List WV→Prop
 |.sc v::_,.sc w::_=>sameKey v w=some true
 |_,_=>True
def aggB (H:WH) (K:WK) (op:BinOp) (t:TypeId) (cs ds:List WV):Prop:=match op,(tab t).bind TyD.flat with
 |.eql,some ks=>bif fitsW ks cs ds then ∀b:Bool,(b=true→hdSame cs ds)→plainK (.sc (.bool b)) H K else False
 |.neq,some ks=>bif fitsW ks cs ds then ∀b:Bool,plainK (.sc (.bool b)) H K else False
 |_,_=>False
def binW (T:WT) (H:WH) (K:WK) (op:BinOp) (t:TypeId) (x y:Operand):Prop:=match evW T x,evW T y with
 |some (.lst es),some (.sc (.slice none 0 0))=>nilB tab H K op t es
 |some (.ipt _),some (.sc (.pointer none))=>ptrB tab H K op t false
 |some (.sc (.pointer none)),some (.sc (.pointer none))=>ptrB tab H K op t true
 |some (.agg cs),some (.agg ds)=>aggB tab H K op t cs ds
 |some a,some b=>catW tab H K op t a b
 |_,_=>False
def unW (T:WT) (H:WH) (K:WK) (op:UnOp) (x:Operand):Prop:=match evW T x with
 |some (.sc v)=>(match v with
  |.int _ _ | .bool _=>giveW H K ⟨[],[]⟩ ((pureVal (Op.unary op v)).map .sc)
  |_=>False)
 |_=>False
def convV (s d:TyK) (v:Value):Option WV:=match s,d,v with
 |.int _,.int k,.int _ n=>some (.sc (.int k (k.wrap n)))
 |.str,.str,.string s=>some (.sc (.string s))
 |_,_,_=>none
def outW:List (List WV)→Option (List UInt8)
 |[]=>some []
 |[.sc (.int .u8 n)]::r=>(match outW r with | some l=>some (UInt8.ofNat n.toNat::l) | none=>none)
 |_=>none
def isU8 (e:TypeId):Bool:=match tab e with
 |some de=>(match de.k with | .int .u8=>true | _=>false)
 |none=>false
def convX (H:WH) (K:WK) (ds dd:TyD) (v:WV):Prop:=match ds.k,dd.k,v with
 |.str,.slice e,.sc (.string s)=>(bif isU8 tab e then ∃l,bytesW s=l∧plainK (.lst l) H K else False)
 |.slice e,.str,v=>(bif isU8 tab e then (match showW H 1 v with
  |some (es,rd)=>∃bs:List UInt8,outW es=some bs∧K (.sc (.string ⟨bs.toArray⟩)) H ⟨rd,[]⟩
  |none=>False) else False)
 |a,b,.sc v=>giveW H K ⟨[],[]⟩ (convV a b v)
 |_,_,_=>False
def convW (T:WT) (H:WH) (K:WK) (s d:TypeId) (x:Operand):Prop:=match tab s,tab d,evW T x with
 |some ds,some dd,some v=>convX tab H K ds dd v
 |_,_,_=>False
def fieldOf (t:TypeId) (f:Nat):Option (Nat×TyD):=match tab t with
 |some d=>(match d.k with
  |.strct fs=>(match fs[f]? with
   |some (off,t')=>(tab t').map fun dt=>(off,dt)
   |none=>none)
  |_=>none)
 |none=>none
def faddr (H:WH) (K:WK) (off:Nat) (size:Nat) (a:WV):Prop:=match a with
 |.ipt cs=>bif Nat.ble (off+size) cs.length then plainK (.ipt (dropW off cs)) H K else False
 |.box n fo=>bif aliveB H n then forceN (fo+off) fun g=>plainK (.box n g) H K else False
 |.elt n i fo=>bif aliveB H n then forceN (fo+off) fun g=>plainK (.elt n i g) H K else False
 |_=>False
def fieldAddrW (T:WT) (H:WH) (K:WK) (t:TypeId) (x:Operand) (f:Nat):Prop:=match fieldOf tab t f,evW T x with
 |some (off,dt),some a=>bif Nat.beq dt.size 0 then False else faddr H K off dt.size a
 |_,_=>False
def fieldW (T:WT) (H:WH) (K:WK) (t:TypeId) (x:Operand) (f:Nat):Prop:=match fieldOf tab t f,evW T x with
 |some (off,dt),some (.agg cs)=>bif Nat.ble (off+dt.size) cs.length then giveW H K ⟨[],[]⟩ (ofCellsW dt (takeW dt.size (dropW off cs))) else False
 |_,_=>False
def idxRow (H:WH) (K:WK) (de:TyD) (n:Nat) (iv:Int):Prop:=match lk H.objs n with
 |some (.row es s _ rt)=>bif Nat.beq s de.size then 0≤iv∧iv.toNat<es.length∧K (.elt n iv.toNat 0) H ⟨[rt],[]⟩ else False
 |_=>False
def arrD (t:TypeId):Option (Nat×TyD):=match tab t with
 |some d=>(match d.k with
  |.arr m e=>(tab e).map fun de=>(m,de)
  |_=>none)
 |none=>none
def arrElt (H:WH) (K:WK) (t:TypeId) (n i fo:Nat) (iv:Int):Prop:=match arrD tab t,lk H.objs n with
 |some (m,de),some (.row es s _ rt)=>bif Nat.beq i 0&&Nat.beq fo 0&&Nat.beq s de.size&&Nat.ble m es.length then 0≤iv∧iv<(m:Int)∧K (.elt n iv.toNat 0) H ⟨[rt],[]⟩ else False
 |_,_=>False
def indexAddrW (T:WT) (H:WH) (K:WK) (t:TypeId) (x i:Operand):Prop:=match (tab t).bind (elemD tab),evW T x,evW T i with
 |some de,some (.lst es),some (.sc (.int _ iv))=>0≤iv∧∃cs,es[iv.toNat]?=some cs∧cs.length=de.size∧plainK (.ipt cs) H K
 |some de,some (.row n),some (.sc (.int _ iv))=>idxRow H K de n iv
 |none,some (.elt n i fo),some (.sc (.int _ iv))=>arrElt tab H K t n i fo iv
 |_,_,_=>False
def isStr (d:TyD):Bool:=match d.k with | .str=>true | _=>false
def arrVal (H:WH) (K:WK) (t:TypeId) (cs:List WV) (iv:Int):Prop:=match arrD tab t with
 |some (m,de)=>arrAll m iv fun k=>bif Nat.ble (k*de.size+de.size) cs.length then giveW H K ⟨[],[]⟩ (ofCellsW de (takeW de.size (dropW (k*de.size) cs))) else False
 |none=>False
def indexW (T:WT) (H:WH) (K:WK) (t:TypeId) (x i:Operand):Prop:=match tab t,evW T x,evW T i with
 |some d,some (.sc (.string s)),some (.sc (.int _ iv))=>bif isStr d then 0≤iv∧∃b,s[iv.toNat]?=some b∧plainK (.sc (.int .u8 b.toNat)) H K else False
 |some _,some (.agg cs),some (.sc (.int _ iv))=>arrVal tab H K t cs iv
 |_,_,_=>False
def sliceV (H:WH) (K:WK) (d:TyD) (v:WV) (l h:Option WV):Prop:=match d.k,v with
 |.str,.sc (.string s)=>boundsW s.size l h fun l h=>plainK (.sc (.string (s.extract l h))) H K
 |.slice e,.lst es=>(match tab e with
  |some de=>(∀x∈es,x.length=de.size)∧boundsW es.length l h fun l h=>∃zs,(es.drop l).take (h-l)=zs∧plainK (.lst zs) H K
  |none=>False)
 |.slice e,.row n=>(match tab e,lk H.objs n with
  |some de,some (.row es s _ rt)=>(bif Nat.beq s de.size then boundsW es.length l h fun a b=>∃len,b-a=len∧K (.win n a len false) H ⟨[rt],[]⟩ else False)
  |_,_=>False)
 |_,_=>False
def sliceM (H:WH) (K:WK) (d:TyD) (v:WV) (l:Option WV) (hv mv:WV):Prop:=match d.k,v,l,hv,mv with
 |.slice e,.lst es,some (.sc (.int _ lv)),.sc (.int _ h),.sc (.int _ m)=>(match tab e with
  |some de=>(∀x∈es,x.length=de.size)∧0≤lv∧lv≤h∧h≤es.length∧m=h∧∃zs,(es.drop lv.toNat).take (h.toNat-lv.toNat)=zs∧plainK (.lst zs) H K
  |none=>False)
 |.slice e,.lst es,none,.sc (.int _ h),.sc (.int _ m)=>(match tab e with
  |some de=>(∀x∈es,x.length=de.size)∧0≤h∧h≤es.length∧m=h∧∃zs,es.take h.toNat=zs∧plainK (.lsc zs) H K
  |none=>False)
 |.slice e,.win n lo len _,none,.sc (.int _ h),.sc (.int _ m)=>(match tab e,lk H.objs n with
  |some de,some (.row _ s _ rt)=>(bif Nat.beq s de.size then 0≤h∧h≤len∧m=h∧K (.win n lo h.toNat true) H ⟨[rt],[]⟩ else False)
  |_,_=>False)
 |.slice e,.row n,none,.sc (.int _ h),.sc (.int _ m)=>(match tab e,lk H.objs n with
  |some de,some (.row es s _ rt)=>(bif Nat.beq s de.size then 0≤h∧h≤es.length∧m=h∧K (.win n 0 h.toNat true) H ⟨[rt],[]⟩ else False)
  |_,_=>False)
 |_,_,_,_,_=>False
def sliceW (T:WT) (H:WH) (K:WK) (t:TypeId) (x:Operand) (lo hi mx:Option Operand):Prop:=match tab t,evW T x,optW T lo,optW T hi,mx with
 |some d,some v,some l,some h,none=>sliceV tab H K d v l h
 |some d,some v,some l,some (some h),some m=>(match evW T m with
  |some mv=>sliceM tab H K d v l h mv
  |none=>False)
 |_,_,_,_,_=>False
def makeSliceW (T:WT) (H:WH) (K:WK) (t:TypeId) (l c:Operand):Prop:=match (tab t).bind (elemD tab),evW T l,evW T c with
 |some de,some (.sc (.int _ lv)),some (.sc (.int _ cv))=>0≤lv∧lv≤cv∧cv≤2 ^ 40∧de.bytes*cv≤2 ^ 47∧∃zs,List.replicate lv.toNat (zeroW de)=zs∧(bif Nat.beq de.zero.length de.size then newRow H zs de.size false [] K else False)
 |_,_,_=>False
def isMap (d:TyD):Bool:=match d.k with | .map _ _=>true | _=>false
def hasK (kv:Value) (ks:List Value):Option Bool:=(findK kv ks 0).map Option.isSome
def insK (kv:Value) (ks:List Value):Option (List Value):=(hasK kv ks).map fun b=>bif b then ks else ks++[kv]
def newSet (H:WH) (K:WK):Prop:=match H with | ⟨objs,nx⟩=>∃V:Value→Prop,forceN nx fun n=>forceN (n+1) fun m=>K (.mp n) ⟨(n,.set [] V)::objs,m⟩ ⟨[],[n]⟩
def newBag (H:WH) (K:WK):Prop:=match H with | ⟨objs,nx⟩=>∃G:Value→AV→Prop,forceN nx fun n=>forceN (n+1) fun m=>K (.mp n) ⟨(n,.bag G false [])::objs,m⟩ ⟨[],[n]⟩
def setD (d:TyD):Bool:=match d.k with
 |.map _ e=>(match tab e with | some de=>isBool de | none=>false)
 |_=>false
def makeMapW (T:WT) (H:WH) (K:WK) (t:TypeId) (r:Option Operand):Prop:=match tab t,r with
 |some d,none=>bif isMap d then (bif setD tab d then newSet H K else (newBag H K∨newSet H K)) else False
 |some d,some x=>(match evW T x with
  |some (.sc (.int _ _))=>bif isMap d then (bif setD tab d then newSet H K else (newBag H K∨newSet H K)) else False
  |_=>False)
 |_,_=>False
def mapD (d:TyD) (k:Value):Option Value:=match d.k with
 |.map kt et=>(match tab kt,tab et with
  |some dk,some de=>(match keyOf dk.k (.sc k),de.isAgg,de.zero with
   |some k',false,[z]=>(bif Nat.beq de.size 1 then some z else none)
   |_,_,_=>none)
  |_,_=>none)
 |_=>none
def bagK (G:Value→AV→Prop) (kv z:Value) (ok:Bool) (K:WV→Prop):Prop:=match ok with
 |false=>(∀x,G kv x→∃v,PR v x∧K v)∧K (.sc z)
 |true=>(∀x,G kv x→∃v,PR v x∧K (.tup [v,.sc (.bool true)]))∧K (.tup [.sc z,.sc (.bool false)])
def lookupW (T:WT) (H:WH) (K:WK) (t:TypeId) (x k:Operand) (ok:Bool):Prop:=match tab t,evW T x,evW T k with
 |some d,some (.mp n),some (.sc kv)=>(match mapD tab d kv,lk H.objs n,ok with
  |some z,some (.set ks V),false=>∃b,hasK kv ks=some b∧both b (∀v,V v→K (.sc v) H ⟨[n],[]⟩) (K (.sc z) H ⟨[n],[]⟩)
  |some z,some (.bag G _ _),ok=>(∀k x,G k x→∃b,sameKey kv k=some b∧(b=true→k=kv))∧bagK G kv z ok fun v=>K v H ⟨[n],[]⟩
  |_,_,_=>False)
 |some d,some (.sc (.map none)),some (.sc kv)=>(match mapD tab d kv,ok with
  |some z,false=>plainK (.sc z) H K
  |_,_=>False)
 |some d,some (.imb G),some (.sc kv)=>(match mapD tab d kv with
  |some z=>(∀k x,G k x→∃b,sameKey kv k=some b∧(b=true→k=kv))∧bagK G kv z ok fun v=>plainK v H K
  |none=>False)
 |_,_,_=>False
def updMapW (T:WT) (H:WH) (K:WK) (t:TypeId) (m k x:Operand):Prop:=match tab t,evW T m,evW T k,evW T x with
 |some d,some (.mp n),some (.sc kv),some xw=>(match mapD tab d kv,lk H.objs n,xw with
  |some _,some (.set ks V),.sc xv=>V xv∧∃ks',insK kv ks=some ks'∧K undefW ⟨(n,.set ks' V)::H.objs,H.nx⟩ ⟨[],[n]⟩
  |some _,some (.bag G false pe),xw=>leafB xw=true∧(∀k x,G k x→∃b,sameKey kv k=some b∧(b=true→k=kv))∧(∀x,PR xw x→G kv x)∧K undefW ⟨(n,.bag G false pe)::H.objs,H.nx⟩ ⟨[],[n]⟩
  |_,_,_=>False)
 |_,_,_,_=>False
def entryW (T:WT) (H:WH) (K:WK) (t:TypeId) (m k:Operand):Prop:=match tab t,evW T m,evW T k with
 |some d,some (.mp n),some (.sc kv)=>(match mapD tab d kv,lk H.objs n with
  |some z,some (.bag G0 false pe)=>∃G:Value→AV→Prop,(∀k x,G0 k x→G k x)∧(∀k x,G k x→∃b,sameKey kv k=some b∧(b=true→k=kv))∧leafB (.sc z)=true∧G kv (.sc z)∧
   ∀b:Nat,∀v,K (.tup [v,.sc (.int .i64 b)]) ⟨(n,.bag G false ((b,kv)::pe))::H.objs,H.nx⟩ ⟨[],[n]⟩
  |_,_=>False)
 |_,_,_=>False
def entryStoreW (T:WT) (H:WH) (K:WK) (m s x:Operand):Prop:=match evW T m,evW T s,evW T x with
 |some (.mp n),some (.sc sv),some xw=>(match lk H.objs n with
  |some (.bag G false pe)=>leafB xw=true∧∃(b:Nat) (kv:Value),sv=.int .i64 b∧(b,kv)∈pe∧(∀x,PR xw x→G kv x)∧K undefW ⟨(n,.bag G false pe)::H.objs,H.nx⟩ ⟨[],[n]⟩
  |_=>False)
 |_,_,_=>False
def extractW (T:WT) (H:WH) (K:WK) (t:Operand) (i:Nat):Prop:=match evW T t with
 |some (.tup vs)=>giveW H K ⟨[],[]⟩ vs[i]?
 |_=>False
def lenRow (H:WH) (K:WK) (n:Nat):Prop:=match lk H.objs n with
 |some (.row es _ _ rt)=>∃n:Nat,es.length=n∧K (.sc (.int .i64 n)) H ⟨[rt],[]⟩
 |_=>False
def lenWin (H:WH) (K:WK) (n len:Nat):Prop:=match lk H.objs n with
 |some (.row _ _ _ rt)=>K (.sc (.int .i64 len)) H ⟨[rt],[]⟩
 |_=>False
def isSl (d:TyD):Bool:=match d.k with | .slice _=>true | _=>false
def lenV (H:WH) (K:WK) (sl st:Bool) (x:WV):Prop:=match x with
 |.lst es=>bif sl then ∃n:Nat,es.length=n∧plainK (.sc (.int .i64 n)) H K else False
 |.sc (.string s)=>bif st then plainK (.sc (.int .i64 s.size)) H K else False
 |.sc (.slice none 0 0)=>bif sl then plainK (.sc (.int .i64 0)) H K else False
 |.row n=>bif sl then lenRow H K n else False
 |.win n _ len _=>bif sl then lenWin H K n len else False
 |_=>False
def lenW (T:WT) (H:WH) (K:WK) (t:TypeId) (x:Operand):Prop:=match evW T x,tab t with
 |some v,some d=>lenV H K (isSl d) (isStr d) v
 |_,_=>False
def appX (H:WH) (K:WK) (de du:TyD) (sv xv:WV):Prop:=match du.k,xv with
 |.str,.sc (.string str)=>bif Nat.beq de.size 1 then appendW H de sv (bytesW str) [] K else False
 |.slice _,xv=>(match showW H de.size xv with
  |some (ys,rd)=>appendW H de sv ys rd K
  |none=>False)
 |_,_=>False
def appW (T:WT) (H:WH) (K:WK) (t u:TypeId) (s x:Operand):Prop:=match (tab t).bind (elemD tab),tab u,evW T s,evW T x with
 |some de,some du,some sv,some xv=>appX H K de du sv xv
 |_,_,_,_=>False
def clearW (T:WT) (H:WH) (K:WK) (t:TypeId) (x:Operand):Prop:=match evW T x,tab t with
 |some (.mp n),some d=>(match lk H.objs n with
  |some (.bag G false _)=>bif isMap d then K undefW ⟨(n,.bag G false [])::H.objs,H.nx⟩ ⟨[],[n]⟩ else False
  |some (.set _ V)=>bif isMap d then K undefW ⟨(n,.set [] V)::H.objs,H.nx⟩ ⟨[],[n]⟩ else False
  |_=>False)
 |_,_=>False
def extW (T:WT) (H:WH) (K:WK) (mx:Bool) (x y:Operand):Prop:=match evW T x,evW T y,mx with
 |some (.sc (.int k a)),some (.sc (.int _ b)),true=>plainK (.sc (.int k (if b>a then b else a))) H K
 |some (.sc (.int k a)),some (.sc (.int _ b)),false=>plainK (.sc (.int k (if b<a then b else a))) H K
 |_,_,_=>False
def copyW (T:WT) (H:WH) (K:WK) (t:TypeId) (dst src:Operand):Prop:=match (tab t).bind (elemD tab),evW T dst,evW T src with
 |some de,some (.row m),some (.lst ys)=>(match lk H.objs m with
  |some (.row es s false rt)=>bif Nat.beq s de.size then cellP de.size ys∧(ys=[]∨es=[]→∀n:Int,plainK (.sc (.int .i64 n)) H K)∧(ys≠[]→es≠[]→∃zs,ys.take es.length++es.drop ys.length=zs∧∀n:Int,K (.sc (.int .i64 n)) ⟨(m,.row zs s false rt)::H.objs,H.nx⟩ ⟨[],[rt]⟩) else False
  |_=>False)
 |_,_,_=>False
def builtinW (T:WT) (H:WH) (K:WK) (b:Builtin) (ts:List TypeId) (xs:List Operand):Prop:=match b,ts,xs with
 |.len,[t],[x]=>lenW tab T H K t x
 |.append,[t,u],[s,x]=>appW tab T H K t u s x
 |.clear,[t],[x]=>clearW tab T H K t x
 |.copy,t::_,[d,s]=>copyW tab T H K t d s
 |.max,_,[x,y]=>extW T H K true x y
 |.min,_,[x,y]=>extW T H K false x y
 |_,_,_=>False
end
end
end Go.Abs
end
section
namespace Go.Abs
inductive All2 {α β:Type} (r:α→β→Prop):List α→List β→Prop
 |nil:All2 r [] []
 |cons {a:α} {b:β} {as:List α} {bs:List β} (h:r a b) (hs:All2 r as bs):All2 r (a::as) (b::bs)
section
variable {α β:Type} {r q:α→β→Prop}
theorem All2.length:∀{as:List α} {bs:List β},All2 r as bs→as.length=bs.length
 |_,_,.nil=>rfl
 |_,_,.cons _ h=>by simp [h.length]
theorem All2.append:∀{as as':List α} {bs bs':List β},All2 r as bs→All2 r as' bs'→All2 r (as++as') (bs++bs')
 |_,_,_,_,.nil,h=>h
 |_,_,_,_,.cons h hs,h'=>.cons h (hs.append h')
theorem All2.take:∀(n:Nat) {as:List α} {bs:List β},All2 r as bs→All2 r (as.take n) (bs.take n)
 |0,_,_,_=>by simpa using All2.nil
 |_+1,_,_,.nil=>.nil
 |n+1,_,_,.cons h hs=>.cons h (hs.take n)
theorem All2.drop:∀(n:Nat) {as:List α} {bs:List β},All2 r as bs→All2 r (as.drop n) (bs.drop n)
 |0,_,_,h=>h
 |_+1,_,_,.nil=>.nil
 |n+1,_,_,.cons _ hs=>by simpa using hs.drop n
theorem All2.get:∀{as:List α} {bs:List β},All2 r as bs→∀{i:Nat} {a:α},as[i]?=some a→∃b,bs[i]?=some b∧r a b
 |_,_,.nil,i,a,h=>by simp at h
 |_,_,.cons h hs,0,a,e=>by simp at e;subst e;exact ⟨_,rfl,h⟩
 |_,_,.cons h hs,i+1,a,e=>by simp at e;simpa using hs.get e
theorem All2.set:∀{as:List α} {bs:List β},All2 r as bs→∀(i:Nat) {a:α} {b:β},r a b→All2 r (as.set i a) (bs.set i b)
 |_,_,.nil,_,_,_,_=>.nil
 |_,_,.cons _ hs,0,_,_,h'=>.cons h' hs
 |_,_,.cons h hs,i+1,_,_,h'=>.cons h (hs.set i h')
theorem All2.mono (hq:∀a b,r a b→q a b):∀{as:List α} {bs:List β},All2 r as bs→All2 q as bs
 |_,_,.nil=>.nil
 |_,_,.cons h hs=>.cons (hq _ _ h) (hs.mono hq)
theorem All2.monoM:∀{as:List α} {bs:List β},(∀a∈as,∀b,r a b→q a b)→All2 r as bs→All2 q as bs
 |_,_,_,.nil=>.nil
 |_,_,hq,.cons h hs=>.cons (hq _ (by simp) _ h) (hs.monoM fun a ha=>hq a (by simp [ha]))
theorem All2.replicate (n:Nat) {a:α} {b:β} (h:r a b):All2 r (List.replicate n a) (List.replicate n b):=by
 induction n with
 |zero=>exact .nil
 |succ n ih=>exact .cons h ih
theorem All2.map {γ:Type} (f:γ→α) (g:γ→β) (h:∀c,r (f c) (g c)):∀(l:List γ),All2 r (l.map f) (l.map g)
 |[]=>.nil
 |c::l=>.cons (h c) (All2.map f g h l)
end
theorem prs_all2:∀{cs:List WV} {xs:List AV},PRs cs xs↔All2 PR cs xs:=fun {cs xs}=>
 ⟨fun h=>by
  induction cs generalizing xs with
  |nil=>cases h;exact .nil
  |cons c cs ih=>cases h with | cons h hs=>exact .cons h (ih hs),
  fun h=>by
   induction h with
   |nil=>exact .nil
   |cons h _ ih=>exact .cons h ih⟩
theorem prss_all2 {cs:List (List WV)} {xs:List (List AV)}:PRss cs xs↔All2 PRs cs xs:=
 ⟨fun h=>by
  induction cs generalizing xs with
  |nil=>cases h;exact .nil
  |cons c cs ih=>cases h with | cons h hs=>exact .cons h (ih hs),
  fun h=>by
   induction h with
   |nil=>exact .nil
   |cons h _ ih=>exact .cons h ih⟩
structure Rn where
 nx:Nat
 al:Nat→Prop
 ob:Nat→Nat
 av:Nat→AV
def refA:AV→Bool
 |.sl _ _ _ _ _ | .pt _ _ _ _ | .mp _ | .sc (.slice none 0 0)=>true
 |_=>false
theorem refA_cells {x:AV} (h:refA x=true):cellsOf x=some [x]∧x.storable=true:=by
 unfold refA at h
 split at h<;>first | exact ⟨rfl,rfl⟩ | cases h
mutual
inductive WR (R:Rn):WV→AV→Prop
 |pure {v:WV} {x:AV} (h:PR v x):WR R v x
 |agg {cs:List WV} {xs:List AV} (h:WRs R cs xs):WR R (.agg cs) (.agg xs)
 |tup {cs:List WV} {xs:List AV} (h:WRs R cs xs):WR R (.tup cs) (.tup xs)
 |row {n:Nat} {x:AV} (hn:n<R.nx) (hr:refA x=true) (h:R.al n→x=R.av n):WR R (.row n) x
 |box {n fo:Nat} {x:AV} (hn:n<R.nx) (hr:refA x=true) (h:R.al n→x=.pt (R.ob n) 1 0 fo):WR R (.box n fo) x
 |elt {n i fo:Nat} {x:AV} (hn:n<R.nx) (hr:refA x=true) (h:R.al n→∃g cap,R.av n=.sl (R.ob n) g 0 g cap∧x=.pt (R.ob n) g i fo):WR R (.elt n i fo) x
 |fn {f:FuncId} {a b:List WV} {xs ys:List AV} (ha:WRs R a xs) (hb:WRs R b ys):WR R (.fn f a b) (.fn (.func f) xs ys)
 |mp {n:Nat} {x:AV} (hn:n<R.nx) (hr:refA x=true) (h:R.al n→x=.mp (R.ob n)):WR R (.mp n) x
 |yld {n:Nat} {x:AV} (hn:n<R.nx) (h:R.al n→x=.fn (.yield (R.ob n)) [] []):WR R (.yld n) x
 |ifc {t:TypeId} {v:WV} {x:AV} (h:WR R v x):WR R (.ifc t v) (.ifc t x)
 |win {n lo len:Nat} {cp:Bool} {x:AV} (hn:n<R.nx) (h:R.al n→(len=0∧(x=.sc (.slice none 0 0)∨∃b,x=.isl [] b∧(cp=true→b=true)))∨∃g cap c' lo',R.av n=.sl (R.ob n) g 0 g cap∧x=.sl (R.ob n) g lo' len c'∧(len≠0→lo'=lo)∧lo'+len≤g∧(cp=true→c'=some len)∧∀c,c'=some c→len≤c):WR R (.win n lo len cp) x
inductive WRs (R:Rn):List WV→List AV→Prop
 |nil:WRs R [] []
 |cons {c:WV} {cs:List WV} {x:AV} {xs:List AV} (h:WR R c x) (hs:WRs R cs xs):WRs R (c::cs) (x::xs)
end
abbrev WRss (R:Rn):List (List WV)→List (List AV)→Prop:=All2 (WRs R)
theorem wrs_all2 {R:Rn} {cs:List WV} {xs:List AV}:WRs R cs xs↔All2 (WR R) cs xs:=
 ⟨fun h=>by
  induction cs generalizing xs with
  |nil=>cases h;exact .nil
  |cons c cs ih=>cases h with | cons h hs=>exact .cons h (ih hs),
  fun h=>by
   induction h with
   |nil=>exact .nil
   |cons h _ ih=>exact .cons h ih⟩
theorem PRs.wrs {R:Rn} {cs:List WV} {xs:List AV} (h:PRs cs xs):WRs R cs xs:=wrs_all2.2 ((prs_all2.1 h).mono fun _ _=>.pure)
theorem PRss.wrss {R:Rn} {cs:List (List WV)} {xs:List (List AV)} (h:PRss cs xs):WRss R cs xs:=(prss_all2.1 h).mono fun _ _=>PRs.wrs
structure Rn.Le (R R':Rn):Prop where
 nx:R.nx≤R'.nx
 keep:∀n,n<R.nx→R'.al n→R.al n∧R'.ob n=R.ob n∧R'.av n=R.av n
theorem Rn.Le.refl (R:Rn):R.Le R:=⟨Nat.le_refl _,fun _ _ h=>⟨h,rfl,rfl⟩⟩
theorem Rn.Le.trans {R R' R'':Rn} (h:R.Le R') (h':R'.Le R''):R.Le R'':=⟨Nat.le_trans h.nx h'.nx,fun n hn ha=>by
 obtain ⟨a1,a2,a3⟩:=h'.keep n (Nat.lt_of_lt_of_le hn h.nx) ha
 obtain ⟨b1,b2,b3⟩:=h.keep n hn a1
 exact ⟨b1,a2.trans b2,a3.trans b3⟩⟩
variable {R R':Rn}
mutual
theorem WR.mono (l:R.Le R') {v:WV} {x:AV}:WR R v x→WR R' v x
 |.pure h=>.pure h
 |.agg h=>.agg (h.mono l)
 |.tup h=>.tup (h.mono l)
 |.fn ha hb=>.fn (ha.mono l) (hb.mono l)
 |.ifc h=>.ifc (h.mono l)
 |.yld hn h=>.yld (Nat.lt_of_lt_of_le hn l.nx) fun ha=>by obtain ⟨a,b,c⟩:=l.keep _ hn ha;rw [b];exact h a
 |.mp hn hr h=>.mp (Nat.lt_of_lt_of_le hn l.nx) hr fun ha=>by obtain ⟨a,b,c⟩:=l.keep _ hn ha;rw [b];exact h a
 |.row hn hr h=>.row (Nat.lt_of_lt_of_le hn l.nx) hr fun ha=>by obtain ⟨a,_,c⟩:=l.keep _ hn ha;rw [c];exact h a
 |.box hn hr h=>.box (Nat.lt_of_lt_of_le hn l.nx) hr fun ha=>by obtain ⟨a,b,_⟩:=l.keep _ hn ha;rw [b];exact h a
 |.elt hn hr h=>.elt (Nat.lt_of_lt_of_le hn l.nx) hr fun ha=>by obtain ⟨a,b,c⟩:=l.keep _ hn ha;rw [b,c];exact h a
 |.win hn h=>.win (Nat.lt_of_lt_of_le hn l.nx) fun ha=>by obtain ⟨a,b,c⟩:=l.keep _ hn ha;rw [b,c];exact h a
theorem WRs.mono (l:R.Le R') {v:List WV} {x:List AV}:WRs R v x→WRs R' v x
 |.nil=>.nil
 |.cons h hs=>.cons (h.mono l) (hs.mono l)
end
theorem WRss.mono (l:R.Le R') {v:List (List WV)} {x:List (List AV)} (h:WRss R v x):WRss R' v x:=All2.mono (fun _ _ h=>WRs.mono l h) h
theorem PR.sc_inv {v:Value} {x:AV} (h:PR (.sc v) x):x=.sc v:=by cases h;rfl
theorem PR.lst_inv {es:List (List WV)} {x:AV} (h:PR (.lst es) x):(es=[]∧x=.sc (.slice none 0 0))∨∃xs c,x=.isl xs c∧PRss es xs:=by
 cases h with
 |emp=>exact .inl ⟨rfl,rfl⟩
 |lst h=>exact .inr ⟨_,_,rfl,h⟩
theorem PR.ipt_inv {cs:List WV} {x:AV} (h:PR (.ipt cs) x):∃xs,x=.ipt xs∧PRs cs xs:=by cases h with | ipt h=>exact ⟨_,rfl,h⟩
theorem PR.agg_inv {cs:List WV} {x:AV} (h:PR (.agg cs) x):∃xs,x=.agg xs∧PRs cs xs:=by cases h with | agg h=>exact ⟨_,rfl,h⟩
theorem PR.tup_inv {cs:List WV} {x:AV} (h:PR (.tup cs) x):∃xs,x=.tup xs∧PRs cs xs:=by cases h with | tup h=>exact ⟨_,rfl,h⟩
theorem WR.sc_inv {v:Value} {x:AV} (h:WR R (.sc v) x):x=.sc v:=by cases h with | pure h=>exact h.sc_inv
theorem WR.lst_inv {es:List (List WV)} {x:AV} (h:WR R (.lst es) x):(es=[]∧x=.sc (.slice none 0 0))∨∃xs c,x=.isl xs c∧PRss es xs:=by cases h with | pure h=>exact h.lst_inv
theorem WR.ipt_inv {cs:List WV} {x:AV} (h:WR R (.ipt cs) x):∃xs,x=.ipt xs∧PRs cs xs:=by cases h with | pure h=>exact h.ipt_inv
theorem WR.imb_inv {G:Value→AV→Prop} {x:AV} (h:WR R (.imb G) x):∃ks vs,x=.imp ks vs∧vs.length=ks.length∧∀(i:Nat) k x,ks[i]?=some k→vs[i]?=some x→G k x:=by
 cases h with
 |pure h=>cases h with
  |imb hl h=>exact ⟨_,_,rfl,hl,h⟩
theorem WR.agg_inv {cs:List WV} {x:AV} (h:WR R (.agg cs) x):∃xs,x=.agg xs∧WRs R cs xs:=by
 cases h with
 |pure h=>obtain ⟨xs,rfl,q⟩:=h.agg_inv;exact ⟨xs,rfl,PRs.wrs q⟩
 |agg h=>exact ⟨_,rfl,h⟩
theorem WR.tup_inv {cs:List WV} {x:AV} (h:WR R (.tup cs) x):∃xs,x=.tup xs∧WRs R cs xs:=by
 cases h with
 |pure h=>obtain ⟨xs,rfl,q⟩:=h.tup_inv;exact ⟨xs,rfl,PRs.wrs q⟩
 |tup h=>exact ⟨_,rfl,h⟩
theorem WR.row_inv {n:Nat} {x:AV} (h:WR R (.row n) x):n<R.nx∧refA x=true∧(R.al n→x=R.av n):=by
 cases h with
 |pure h=>cases h
 |row a b c=>exact ⟨a,b,c⟩
theorem WR.box_inv {n fo:Nat} {x:AV} (h:WR R (.box n fo) x):n<R.nx∧refA x=true∧(R.al n→x=.pt (R.ob n) 1 0 fo):=by
 cases h with
 |pure h=>cases h
 |box a b c=>exact ⟨a,b,c⟩
theorem WR.elt_inv {n i fo:Nat} {x:AV} (h:WR R (.elt n i fo) x):n<R.nx∧refA x=true∧(R.al n→∃g cap,R.av n=.sl (R.ob n) g 0 g cap∧x=.pt (R.ob n) g i fo):=by
 cases h with
 |pure h=>cases h
 |elt a b c=>exact ⟨a,b,c⟩
theorem WR.win_inv {n lo len:Nat} {cp:Bool} {x:AV} (h:WR R (.win n lo len cp) x):R.al n→(len=0∧(x=.sc (.slice none 0 0)∨∃b,x=.isl [] b∧(cp=true→b=true)))∨∃g cap c' lo',R.av n=.sl (R.ob n) g 0 g cap∧x=.sl (R.ob n) g lo' len c'∧(len≠0→lo'=lo)∧lo'+len≤g∧(cp=true→c'=some len)∧∀c,c'=some c→len≤c:=by
 cases h with
 |pure h=>cases h
 |win _ b=>exact b
theorem WR.mp_inv {n:Nat} {x:AV} (h:WR R (.mp n) x):n<R.nx∧refA x=true∧(R.al n→x=.mp (R.ob n)):=by
 cases h with
 |pure h=>cases h
 |mp a b c=>exact ⟨a,b,c⟩
theorem WR.fn_inv {f:FuncId} {a b:List WV} {x:AV} (h:WR R (.fn f a b) x):∃xs ys,x=.fn (.func f) xs ys∧WRs R a xs∧WRs R b ys:=by
 cases h with
 |pure h=>cases h
 |fn ha hb=>exact ⟨_,_,rfl,ha,hb⟩
theorem WR.fnp_inv {f:FuncId} {a b:List WV} {x:AV} (h:WR R (.fnp f a b) x):∃xs ys,x=.fn (.func f) xs ys∧PRs a xs∧PRs b ys∧a.all leafB=true∧b.all leafB=true:=by
 cases h with
 |pure h=>cases h with | fnp ha hb hl hm=>exact ⟨_,_,rfl,ha,hb,hl,hm⟩
theorem WR.yld_inv {n:Nat} {x:AV} (h:WR R (.yld n) x):n<R.nx∧(R.al n→x=.fn (.yield (R.ob n)) [] []):=by
 cases h with
 |pure h=>cases h
 |yld a b=>exact ⟨a,b⟩
theorem WR.lsc_inv {es:List (List WV)} {x:AV} (h:WR R (.lsc es) x):(es=[]∧x=.sc (.slice none 0 0))∨∃xs,x=.isl xs true∧PRss es xs:=by
 cases h with
 |pure h=>cases h with
  |lsc h=>exact .inr ⟨_,rfl,h⟩
  |lsc0=>exact .inl ⟨rfl,rfl⟩
theorem WR.ifc_inv {t:TypeId} {v:WV} {x:AV} (h:WR R (.ifc t v) x):∃y,x=.ifc t y∧WR R v y:=by
 cases h with
 |pure h=>cases h with | ifc h=>exact ⟨_,rfl,.pure h⟩
 |ifc h=>exact ⟨_,rfl,h⟩
theorem leaf_pr {v:WV} {x:AV} (hl:leafB v=true) (h:WR R v x):PR v x:=by
 cases h with
 |pure h=>exact h
 |agg h=>cases hl
 |tup h=>cases hl
 |fn=>cases hl
 |yld=>cases hl
 |ifc=>cases hl
 |mp=>cases hl
 |row=>cases hl
 |box=>cases hl
 |elt=>cases hl
 |win=>cases hl
theorem leaf_prs {cs:List WV} {xs:List AV} (hl:cs.all leafB=true) (h:WRs R cs xs):PRs cs xs:=
 prs_all2.2 ((wrs_all2.1 h).monoM fun a ha _ h=>leaf_pr ((List.all_eq_true.1 hl) a ha) h)
theorem leafs_prss {es:List (List WV)} {xs:List (List AV)} (hl:leafs es) (h:WRss R es xs):PRss es xs:=
 prss_all2.2 (All2.monoM (fun a ha _ h=>leaf_prs (hl a ha) h) h)
theorem storable_of {v:WV} {x:AV} (hs:storableW v=true) (h:WR R v x):x.storable=true:=by
 cases h with
 |pure h=>cases h with
  |@sc y=>cases y<;>first | rfl | cases hs
  |agg h=>cases hs
  |tup h=>cases hs
  |emp=>rfl
  |lst=>rfl
  |ipt=>rfl
  |imb=>rfl
  |fnp=>rfl
  |ifc=>cases hs
  |lsc=>cases hs
  |lsc0=>cases hs
 |agg=>cases hs
 |tup=>cases hs
 |fn=>rfl
 |yld=>cases hs
 |ifc=>cases hs
 |mp _ hr _=>exact (refA_cells hr).2
 |row _ hr _=>exact (refA_cells hr).2
 |box _ hr _=>exact (refA_cells hr).2
 |elt _ hr _=>exact (refA_cells hr).2
 |win=>cases hs
theorem storables_of:∀{cs:List WV} {xs:List AV},cs.all storableW=true→WRs R cs xs→xs.all AV.storable=true
 |_,_,_,.nil=>rfl
 |_,_,hs,.cons h hr=>by
  simp only [List.all_cons,Bool.and_eq_true] at hs ⊢
  exact ⟨storable_of hs.1 h,storables_of hs.2 hr⟩
theorem lk_look {α:Type}:∀(l:List (Nat×α)) (n:Nat),lk l n=look l n
 |[],_=>rfl
 |(m,a)::r,n=>by
  show (bif Nat.beq m n then some a else lk r n)=_
  simp only [look]
  cases h:Nat.beq m n with
  |true=>rw [if_pos (Nat.eq_of_beq_eq_true h)];rfl
  |false=>rw [if_neg (Nat.ne_of_beq_eq_false h)];exact lk_look r n
theorem lk_cons {α:Type} (m:Nat) (a:α) (r:List (Nat×α)) (n:Nat):lk ((m,a)::r) n=if m=n then some a else lk r n:=by
 rw [lk_look,lk_look];rfl
theorem lk_rmv {α:Type}:∀(l:List (Nat×α)) (n m:Nat),lk (rmv l n) m=if n=m then none else lk l m
 |[],n,m=>by simp [rmv,lk]
 |(k,a)::r,n,m=>by
  show lk (bif Nat.beq k n then rmv r n else (k,a)::rmv r n) m=_
  cases h:Nat.beq k n with
  |true=>
   have:=Nat.eq_of_beq_eq_true h
   subst this
   show lk (rmv r k) m=_
   rw [lk_rmv r k m,lk_cons]
   split
   ·rfl
   ·rfl
  |false=>
   have:=Nat.ne_of_beq_eq_false h
   show lk ((k,a)::rmv r n) m=_
   rw [lk_cons,lk_rmv r n m,lk_cons]
   by_cases hm:k=m
   ·subst hm
    rw [if_pos rfl,if_neg (fun e=>this e.symm),if_pos rfl]
   ·rw [if_neg hm,if_neg hm]
theorem forceC_eq {α:Type} (cs:List α):∀K:List α→Prop,forceC cs K=K cs:=by
 induction cs with
 |nil=>intro K;rfl
 |cons x xs ih=>intro K;exact ih _
theorem takeW_eq (n:Nat) (cs:List WV):takeW n cs=cs.take n:=by
 unfold takeW
 cases h:Nat.beq n cs.length with
 |true=>rw [Nat.eq_of_beq_eq_true h];simp
 |false=>rfl
theorem dropW_eq (n:Nat) (cs:List WV):dropW n cs=cs.drop n:=by cases n<;>rfl
theorem spliceW_eq (cs:List WV) (a:Nat) (new:List WV):spliceW cs a new=cs.take a++new++cs.drop (a+new.length):=by
 unfold spliceW
 cases h:(Nat.beq new.length cs.length&&Nat.beq a 0) with
 |true=>
  simp only [Bool.and_eq_true] at h
  obtain rfl:a=0:=Nat.eq_of_beq_eq_true h.2
  have:=Nat.eq_of_beq_eq_true h.1
  simp [this]
 |false=>simp
theorem splice_ok {cs:List WV} {xs:List AV} (h:WRs R cs xs) (a:Nat) {new:List WV} {ys:List AV} (hn:WRs R new ys):WRs R (spliceW cs a new) (splice xs a ys):=by
 rw [spliceW_eq]
 have hl:=(wrs_all2.1 hn).length
 unfold splice
 rw [hl]
 exact wrs_all2.2 ((((wrs_all2.1 h).take a).append (wrs_all2.1 hn)).append ((wrs_all2.1 h).drop _))
theorem cells_ok {v:WV} {x:AV} {cs:List WV} (h:WR R v x) (hc:cellsW v=some cs):∃xs,cellsOf x=some xs∧WRs R cs xs:=by
 have one:∀{v:WV} {x:AV},WR R v x→cellsOf x=some [x]→cellW v=v→∃xs,cellsOf x=some xs∧WRs R [cellW v] xs:=fun h1 h2 h3=>⟨_,h2,by rw [h3];exact .cons h1 .nil⟩
 unfold cellsW at hc
 split at hc
 ·obtain ⟨xs,rfl,q⟩:=h.agg_inv
  cases hc
  exact ⟨xs,rfl,q⟩
 ·cases hc
 ·cases hc
 ·cases hc
 ·cases hc
 ·cases hc
 ·cases hc
 ·cases hc
 ·rename_i n1 n2 n5 m1 m2 m3 n3 n4
  cases hc
  cases v with
  |sc y=>
   obtain rfl:=h.sc_inv
   cases y
   case tuple a=>exact absurd rfl (n3 a)
   case slice a b c=>
    cases a with
    |some a=>exact ⟨_,rfl,.cons (.pure .sc) .nil⟩
    |none=>
     cases b with
     |succ b=>exact ⟨_,rfl,.cons (.pure .sc) .nil⟩
     |zero=>cases c with
      |succ c=>exact ⟨_,rfl,.cons (.pure .sc) .nil⟩
      |zero=>exact ⟨_,rfl,.cons (.pure .emp) .nil⟩
   all_goals exact ⟨_,rfl,.cons (.pure .sc) .nil⟩
  |agg cs=>exact absurd rfl (n1 cs)
  |tup cs=>exact absurd rfl (n2 cs)
  |lst es=>
   have h':=h
   rcases h.lst_inv with ⟨rfl,rfl⟩ | ⟨xs,c,rfl,_⟩
   ·exact one h' rfl rfl
   ·exact one h' rfl rfl
  |ipt cs=>
   have h':=h
   obtain ⟨xs,rfl,_⟩:=h.ipt_inv
   exact one h' rfl rfl
  |row n=>exact one h (refA_cells h.row_inv.2.1).1 rfl
  |box n fo=>exact one h (refA_cells h.box_inv.2.1).1 rfl
  |elt n i fo=>exact one h (refA_cells h.elt_inv.2.1).1 rfl
  |win n i fo cp=>exact absurd rfl (n5 _ _ _ _)
  |fn f a b=>
   have h':=h
   obtain ⟨xs,ys,rfl,_⟩:=h.fn_inv
   exact one h' rfl rfl
  |fnp f a b=>
   have h':=h
   obtain ⟨xs,ys,rfl,_⟩:=h.fnp_inv
   exact one h' rfl rfl
  |mp n=>exact one h (refA_cells h.mp_inv.2.1).1 rfl
  |imb G=>
   have h':=h
   obtain ⟨ks,vs,rfl,_⟩:=h.imb_inv
   exact one h' rfl rfl
  |yld n=>exact absurd rfl (m1 _)
  |ifc t v=>exact absurd rfl (m2 _ _)
  |lsc es=>exact absurd rfl (m3 _)
theorem ofCells_ok {d:TyD} {cs:List WV} {xs:List AV} {v:WV} (h:WRs R cs xs) (ho:ofCellsW d cs=some v):∃x,ofCells d xs=some x∧WR R v x:=by
 have hl:=(wrs_all2.1 h).length
 unfold ofCellsW at ho
 cases hb:Nat.beq cs.length d.size with
 |false=>rw [hb] at ho;cases ho
 |true=>
  rw [hb] at ho
  simp only [cond_true] at ho
  unfold ofCells
  rw [if_pos (by rw [←hl];exact Nat.eq_of_beq_eq_true hb)]
  cases ha:d.isAgg with
  |true=>
   rw [ha] at ho
   cases ho
   exact ⟨.agg xs,by simp,.agg h⟩
  |false=>
   rw [ha] at ho
   simp only [] at ho
   split at ho
   ·cases ho
    cases h with
    |cons h1 h2=>cases h2;exact ⟨_,by simp,h1⟩
   ·cases ho
theorem zero_ok (d:TyD):PRs (zeroW d) (d.zero.map .sc):=by
 unfold zeroW
 induction d.zero with
 |nil=>exact .nil
 |cons v l ih=>
  refine .cons ?_ ih
  show PR (cellW (.sc v)) (.sc v)
  unfold cellW
  split
  ·rename_i e
   cases e
   exact .emp
  ·exact .sc
theorem cellW_ok (v:Value):PR (cellW (.sc v)) (.sc v):=by
 unfold cellW
 split
 ·rename_i e
  cases e
  exact .emp
 ·exact .sc
theorem zeroN_ok (d:TyD) (k:Nat):PRs (zeroN d k) (d.zero.map .sc):=by
 unfold zeroN
 have:∀(l:List Value) (i:Nat),PRs ((l.zipIdx i).map fun p=>bif Nat.beq p.2 k then WV.sc p.1 else cellW (.sc p.1)) (l.map .sc):=by
  intro l
  induction l with
  |nil=>intro i;exact .nil
  |cons v l ih=>
   intro i
   refine .cons ?_ (ih (i+1))
   show PR (bif Nat.beq i k then WV.sc v else cellW (.sc v)) (.sc v)
   cases Nat.beq i k
   ·exact cellW_ok v
   ·exact .sc
 exact this d.zero 0
end Go.Abs
end
section
namespace Go.Abs
def nilA:AV:=.sc (.slice none 0 0)
def RelT (R:Rn) (T:WT) (Tc:TL):Prop:=∀t v,lk T t=some v→∃x,look Tc t=some x∧WR R v x
def hasO (R:Rn) (n:Nat):WO→Prop
 |.box _ _=>True
 |.set _ _=>True
 |.bag _ _ _=>True
 |.loop _ _ _ _=>True
 |.frm _ _=>False
 |.row _ _ _ _=>R.av n≠nilA
def rootO (n:Nat):WO→Nat
 |.box _ _=>n
 |.set _ _=>n
 |.bag _ _ _=>n
 |.loop _ _ _ _=>n
 |.frm _ _=>n
 |.row _ _ _ rt=>rt
def RowR (R:Rn) (H:Heap) (n:Nat) (es:List (List WV)) (s:Nat) (fz:Bool):Prop:=
 (R.av n=nilA∧es=[])∨∃g cap xs fz',R.av n=.sl (R.ob n) g 0 g cap∧look H.objs (R.ob n)=some (.cells xs s fz')∧xs.length=g∧WRss R es xs∧(cap=none∨cap=some g)∧fz'≤g∧(fz=false→fz'=0)
def BornK (ks:List Value) (bs:List Nat) (clock:Nat) (pe:List (Nat×Value)):Prop:=bornsOk clock bs=true∧bs.length=ks.length∧∀p∈pe,∃i:Nat,bs[i]?=some p.1∧ks[i]?=some p.2
def ObjR (R:Rn) (H:Heap) (n:Nat):WO→Prop
 |.box cs fz=>∃xs fz',look H.objs (R.ob n)=some (.cells [xs] cs.length fz')∧WRs R cs xs∧fz'≤1∧(fz=false→fz'=0)
 |.row es s fz _=>(∀e∈es,e.length=s)∧RowR R H n es s fz
 |.set ks V=>∃vs bs clock,look H.objs (R.ob n)=some (.map ks vs bs clock false)∧vs.length=ks.length∧(bornsOk clock bs=true∧bs.length=ks.length)∧∀x∈vs,∃v,V v∧x=.sc v
 |.bag G fz pe=>∃ks vs bs clock fz',look H.objs (R.ob n)=some (.map ks vs bs clock fz')∧vs.length=ks.length∧BornK ks bs clock pe∧(∀x∈vs,∃v,leafB v=true∧PR v x)∧(fz=false→fz'=false)∧∀(i:Nat) k x,ks[i]?=some k→vs[i]?=some x→G k x
 |.loop D T st pend=>RelT R T D.Tc∧R.ob n=D.b∧look H.objs D.b=some (.loop D.Tc D.N D.ps D.asg D.body st pend)
 |.frm T Tc=>RelT R T Tc
structure RelH (R:Rn) (W:WH) (H:Heap):Prop where
 nx:W.nx=R.nx
 obj:∀n o,lk W.objs n=some o→n<R.nx∧R.al n∧ObjR R H n o
 inj:∀n m o p,lk W.objs n=some o→lk W.objs m=some p→hasO R n o→hasO R m p→R.ob n=R.ob m→n=m
 fresh:∀m,H.next≤m→look H.objs m=none
theorem RelH.ob_look {R:Rn} {W:WH} {H:Heap} (rh:RelH R W H) {n:Nat} {o:WO} (h:lk W.objs n=some o) (ho:hasO R n o):∃p,look H.objs (R.ob n)=some p:=by
 obtain ⟨_,_,hr⟩:=rh.obj n o h
 cases o with
 |box cs fz=>obtain ⟨xs,fz',hx,_⟩:=hr;exact ⟨_,hx⟩
 |set ks v=>obtain ⟨vs,bs,clock,hx,_⟩:=hr;exact ⟨_,hx⟩
 |bag G fz pe=>obtain ⟨ks,vs,bs,clock,fz',hx,_⟩:=hr;exact ⟨_,hx⟩
 |loop D T st pend=>exact ⟨_,by rw [hr.2.1];exact hr.2.2⟩
 |frm T Tc=>exact ho.elim
 |row es s fz rt=>
  rcases hr.2 with ⟨h1,_⟩ | ⟨g,cap,xs,fz',_,h2,_⟩
  ·exact absurd h1 ho
  ·exact ⟨_,h2⟩
theorem RelH.ob_lt {R:Rn} {W:WH} {H:Heap} (rh:RelH R W H) {n:Nat} {o:WO} (h:lk W.objs n=some o) (ho:hasO R n o):R.ob n<H.next:=by
 obtain ⟨p,hp⟩:=rh.ob_look h ho
 rcases Nat.lt_or_ge (R.ob n) H.next with q | q
 ·exact q
 ·rw [rh.fresh _ q] at hp;cases hp
def Owns (ow:Nat→Nat) (R:Rn) (W:WH):Prop:=∀n o,lk W.objs n=some o→hasO R n o→ow (R.ob n)=rootO n o
def Told (ow:Nat→Nat) (e:WE) (next:Nat):Eff→Prop
 |.loc rd ups _=>(∀m∈rd,m<next∧(ow m∈e.rd∨ow m∈e.wr))∧∀p∈ups,p.1<next∧ow p.1∈e.wr
 |.glob _=>False
def EffR (R:Rn) (W:WH) (H:Heap) (R':Rn) (W':WH) (e:WE) (e':Eff):Prop:=
 ∀ow,Owns ow R W→∃ow',(∀c,c<H.next→ow' c=ow c)∧Owns ow' R' W'∧Told ow' e (H.apply e').next e'
inductive Ans where
 |none
 |call (r:Out)
 |own (es:List (List AV)) (s fz:Nat)
 |inl (r:Out) (H':Heap)
noncomputable def methP (P:Program) (t:TypeId) (m:String):Option FuncId:=open Classical in if h:∃f,MethOK P t m f then some h.choose else none
theorem methP_eq {P:Program} {t:TypeId} {m:String} {f:FuncId} (h:MethOK P t m f):methP P t m=some f:=by
 unfold methP
 have hx:∃f,MethOK P t m f:=⟨f,h⟩
 rw [dif_pos hx]
 have h1:=hx.choose_spec undef default
 have h2:=h undef default
 rw [h1] at h2
 cases h2
 rfl
noncomputable def hdA (P:Program) (A:Nat→Ans):Hd where
 call:=fun i _ _=>match A i with | .call r=>some r | _=>Option.none
 inl:=fun i _ _ _=>match A i with | .inl r H'=>some (r,H') | _=>Option.none
 isInl:=fun i _=>match A i with | .inl _ _=>true | _=>false
 own:=fun i _ _=>match A i with | .own es s fz=>some (es,s,fz) | _=>Option.none
 isOwn:=fun i _=>match A i with | .own _ _ _=>true | _=>false
 round:=fun i _ _ _=>match A i with | .inl r H'=>some (r,H') | _=>Option.none
 meth:=methP P
variable {P:Program} {tab:Tab}
def StepOK (P:Program) (tab:Tab) (Tc:TL) (H:Heap) (o:Oper) (a:Ans) (x:AV) (e':Eff):Prop:=
 ∀A i,A i=a→∃obs,stepA tab (hdA P A) i (look Tc) H o=some ⟨.ret x,e',obs⟩ ∧∀ob∈obs,ob.holds P∧ob.isRound=false
def Stepped (P:Program) (tab:Tab) (R:Rn) (W:WH) (H:Heap) (Tc:TL) (o:Oper) (K:WK):Prop:=
 ∃v W' e,K v W' e∧∃a x e' R',StepOK P tab Tc H o a x e'∧okEff H e'=true∧R.Le R'∧WR R' v x∧RelH R' W' (H.apply e')∧EffR R W H R' W' e e'
def Unown (R:Rn) (W:WH) (k:Nat):Prop:=∀n o,lk W.objs n=some o→hasO R n o→R.ob n≠k
def Kept (R:Rn) (W:WH) (H:Heap) (R':Rn) (W':WH) (H':Heap):Prop:=
 H.next≤H'.next∧(∀k,look H'.objs k≠none→look H.objs k≠none∨H.next≤k)∧∀k,k<H.next→Unown R W k→look H'.objs k=look H.objs k∧Unown R' W' k
theorem Kept.refl (R:Rn) (W:WH) (H:Heap):Kept R W H R W H:=⟨Nat.le_refl _,fun _ h=>.inl h,fun _ _ h=>⟨rfl,h⟩⟩
theorem Kept.trans {R R1 R2:Rn} {W W1 W2:WH} {H H1 H2:Heap} (h:Kept R W H R1 W1 H1) (h':Kept R1 W1 H1 R2 W2 H2):Kept R W H R2 W2 H2:=
 ⟨Nat.le_trans h.1 h'.1,fun k hk=>(h'.2.1 k hk).elim (h.2.1 k) fun q=>.inr (Nat.le_trans h.1 q),fun k hk hu=>by
  obtain ⟨a1,a2⟩:=h.2.2 k hk hu
  obtain ⟨b1,b2⟩:=h'.2.2 k (Nat.lt_of_lt_of_le hk h.1) a2
  exact ⟨b1.trans a1,b2⟩⟩
def SteppedG (P:Program) (tab:Tab) (R:Rn) (W:WH) (H:Heap) (Tc:TL) (o:Oper) (K:WK):Prop:=
 ∃v W' e,K v W' e∧∃a x H' R',StepOK P tab Tc H o a x (.glob H')∧okEff H (.glob H')=true∧GL∈e.wr∧R.Le R'∧WR R' v x∧RelH R' W' H'∧Kept R W H R' W' H'∧
  ∀ow,Owns ow R W→∃ow',(∀c,c<H.next→ow' c=ow c)∧Owns ow' R' W'
variable {R:Rn} {T:WT} {W:WH} {H:Heap} {Tc:TL} {o:Oper} {K:WK}
def isPlain (o:Oper):Prop:=(∀c,o.op=.call c→∃b,c.callee=.builtin b)∧∀x,o.op≠.panic x
theorem stepOK_aop {x:AV} {rd:List Nat} {ups:List (Nat×AO)} {nw:Nat} (hp:isPlain o) (h:aop tab (look Tc) H H.next o=some ⟨x,.loc rd ups nw⟩):StepOK P tab Tc H o .none x (.loc rd ups nw):=by
 intro A i _
 refine ⟨[],?_,fun _ h=>by cases h⟩
 have h1:calleeOf (hdA P A) (look Tc) o=none:=by
  unfold calleeOf
  split
  ·rename_i c hc
   obtain ⟨b,hb⟩:=hp.1 c hc
   rw [hb]
  ·rfl
 have h2:yieldOf (look Tc) o=none:=by
  unfold yieldOf
  split
  ·rename_i c hc
   obtain ⟨b,hb⟩:=hp.1 c hc
   rw [hb]
  ·rfl
 have h3:panicOf (look Tc) o=none:=by
  unfold panicOf
  split
  ·rename_i y hy;exact absurd hy (hp.2 y)
  ·rfl
 unfold stepA
 rw [h1,h2,h3,h]
theorem effR_reads {e:WE} {rd:List Nat} (rh:RelH R W H) (hm:∀m∈rd,∃n o,lk W.objs n=some o∧hasO R n o∧R.ob n=m∧(rootO n o∈e.rd∨rootO n o∈e.wr)):EffR R W H R W e (.loc rd [] 0):=by
 intro ow hw
 refine ⟨ow,fun _ _=>rfl,hw,fun m h=>?_,fun p h=>by cases h⟩
 obtain ⟨n,o,h1,h2,h3,h4⟩:=hm m h
 have:=rh.ob_lt h1 h2
 rw [h3] at this
 refine ⟨by simp [Heap.apply];omega,?_⟩
 rw [←h3,hw n o h1 h2]
 exact h4
theorem relH_apply {rd:List Nat} {k:Nat} (rh:RelH R W H):RelH R W (H.apply (.loc rd [] k)):=
 ⟨rh.nx,rh.obj,rh.inj,fun m hm=>rh.fresh m (by simp [Heap.apply] at hm;omega)⟩
theorem step_read {v:WV} {e:WE} {x:AV} {rd:List Nat} (rh:RelH R W H) (hp:isPlain o) (hk:K v W e) (h:aop tab (look Tc) H H.next o=some ⟨x,.loc rd [] 0⟩) (hv:WR R v x)
 (hm:∀m∈rd,∃n o,lk W.objs n=some o∧hasO R n o∧R.ob n=m∧(rootO n o∈e.rd∨rootO n o∈e.wr)):Stepped P tab R W H Tc o K:=
 ⟨v,W,e,hk,.none,x,_,R,stepOK_aop hp h,rfl,Rn.Le.refl R,hv,relH_apply rh,effR_reads rh hm⟩
theorem step_quiet {v:WV} {x:AV} (rh:RelH R W H) (hp:isPlain o) (hk:plainK v W K) (h:aop tab (look Tc) H H.next o=quiet x) (hv:WR R v x):Stepped P tab R W H Tc o K:=
 step_read rh hp hk h hv (fun _ h=>by cases h)
theorem ev_ok (rt:RelT R T Tc) {z:Operand} {v:WV} (h:evW T z=some v):∃x,aev (look Tc) z=some x∧WR R v x:=by
 unfold evW at h
 split at h
 ·exact rt _ _ h
 ·rename_i y
  unfold ofConstW at h
  split at h
  ·rename_i cs
   cases hq:cs.all scalarB with
   |false=>rw [hq] at h;cases h
   |true=>
    rw [hq] at h
    cases h
    refine ⟨.agg (cs.toList.map .sc),by simp [aev,ofConst,hq],.pure (.agg ?_)⟩
    induction cs.toList with
    |nil=>exact .nil
    |cons a l ih=>exact .cons .sc ih
  ·rename_i hne
   cases hq:scalarB y with
   |false=>rw [hq] at h;cases h
   |true=>
    rw [hq] at h
    cases h
    refine ⟨.sc y,?_,.pure .sc⟩
    simp only [aev]
    unfold ofConst
    split
    ·rename_i cs;exact absurd rfl (hne cs)
    ·rw [hq];rfl
 ·rename_i f
  cases h
  exact ⟨.fn (.func f) [] [],rfl,.pure (.fnp .nil .nil rfl rfl)⟩
 ·cases h
theorem plain_op (h1:∀c,o.op≠.call c) (h2:∀x,o.op≠.panic x):isPlain o:=⟨fun c hc=>absurd hc (h1 c),h2⟩
theorem mv_sound (rt:RelT R T Tc) (rh:RelH R W H) {x:Operand} (ho:o.op=.move x∨o.op=.assign x) (h:mvW T W K x):Stepped P tab R W H Tc o K:=by
 unfold mvW at h
 split at h
 ·rename_i v hv
  obtain ⟨y,hy,hr⟩:=ev_ok rt hv
  rcases ho with ho | ho
  all_goals exact step_quiet rh (plain_op (fun c hc=>by rw [ho] at hc;cases hc) (fun x hc=>by rw [ho] at hc;cases hc)) h (by simp [aop,ho,hy]) hr
 ·exact h.elim
theorem pick_sound (rt:RelT R T Tc) (rh:RelH R W H) {c a b:Operand} (ho:o.op=.pick c a b) (h:pickW T W K c a b):Stepped P tab R W H Tc o K:=by
 have hp:isPlain o:=plain_op (fun c hc=>by rw [ho] at hc;cases hc) (fun x hc=>by rw [ho] at hc;cases hc)
 unfold pickW at h
 split at h
 ·rename_i q hq
  obtain ⟨y,hy,hr⟩:=ev_ok rt hq
  obtain rfl:=hr.sc_inv
  cases q with
  |true=>
   have h:=bothT h
   unfold mvW at h
   split at h
   ·rename_i v hv
    obtain ⟨z,hz,hr⟩:=ev_ok rt hv
    exact step_quiet rh hp h (by simp [aop,ho,hy,hz]) hr
   ·exact h.elim
  |false=>
   have h:=bothF h
   unfold mvW at h
   split at h
   ·rename_i v hv
    obtain ⟨z,hz,hr⟩:=ev_ok rt hv
    exact step_quiet rh hp h (by simp [aop,ho,hy,hz]) hr
   ·exact h.elim
 ·exact h.elim
def Rn.add (R:Rn) (c:Nat) (x:AV):Rn:=⟨R.nx+1,fun m=>R.al m∨m=R.nx,upd R.ob R.nx c,upd R.av R.nx x⟩
theorem Rn.add_le (c:Nat) (x:AV):R.Le (R.add c x):=⟨Nat.le_succ _,fun n hn ha=>by
 have hne:n≠R.nx:=by omega
 refine ⟨ha.resolve_right hne,upd_ne _ _ hne,upd_ne _ _ hne⟩⟩
theorem upd_at {α:Type} (f:Nat→α) (n:Nat) (a:α):upd f n a n=a:=upd_same f n a
theorem RelT.mono {R':Rn} (l:R.Le R') (rt:RelT R T Tc):RelT R' T Tc:=fun t v h=>let ⟨x,h1,h2⟩:=rt t v h;⟨x,h1,h2.mono l⟩
theorem ObjR.move {R':Rn} {H':Heap} (l:R.Le R') {n:Nat} {o:WO} (hb:R'.ob n=R.ob n) (ha:R'.av n=R.av n) (hl:hasO R n o→look H'.objs (R.ob n)=look H.objs (R.ob n)) (h:ObjR R H n o):ObjR R' H' n o:=by
 cases o with
 |box cs fz=>
  obtain ⟨xs,fz',h1,h2,h3⟩:=h
  exact ⟨xs,fz',by rw [hb,hl trivial];exact h1,h2.mono l,h3⟩
 |set ks v=>
  obtain ⟨vs,bs,clock,h1,h2⟩:=h
  exact ⟨vs,bs,clock,by rw [hb,hl trivial];exact h1,h2⟩
 |bag G fz pe=>
  obtain ⟨ks,vs,bs,clock,fz',h1,h2⟩:=h
  exact ⟨ks,vs,bs,clock,fz',by rw [hb,hl trivial];exact h1,h2⟩
 |loop D T st pend=>exact ⟨h.1.mono l,hb.trans h.2.1,by have:=hl trivial;rw [h.2.1] at this;rw [this];exact h.2.2⟩
 |frm T Tc=>exact RelT.mono l h
 |row es s fz rt=>
  refine ⟨h.1,?_⟩
  rcases h.2 with ⟨h1,h2⟩ | ⟨g,cap,xs,fz',h1,h2,h3,h4,h5⟩
  ·exact .inl ⟨by rw [ha];exact h1,h2⟩
  ·have hh:hasO R n (.row es s fz rt):=by intro e;rw [h1] at e;cases e
   exact .inr ⟨g,cap,xs,fz',by rw [ha,hb];exact h1,by rw [hb,hl hh];exact h2,h3,WRss.mono l h4,h5⟩
theorem hasO.move {R':Rn} {n:Nat} {o:WO} (ha:R'.av n=R.av n) (h:hasO R' n o):hasO R n o:=by
 cases o with
 |box cs fz=>trivial
 |set ks v=>trivial
 |bag G fz pe=>trivial
 |loop D T st pend=>trivial
 |frm T Tc=>exact h
 |row es s fz rt=>intro e;exact h (by rw [ha];exact e)
theorem relH_new (rh:RelH R W H) {c:Nat} {x:AV} {wo:WO} {W':WH} {H':Heap} (hw:W'.objs=(R.nx,wo)::W.objs) (hn:W'.nx=R.nx+1)
 (hH:∀m,m≠c∨¬hasO (R.add c x) R.nx wo→look H'.objs m=look H.objs m) (hf:∀m,H'.next≤m→look H'.objs m=none) (hc:hasO (R.add c x) R.nx wo→look H.objs c=none)
 (ho:ObjR (R.add c x) H' R.nx wo):RelH (R.add c x) W' H':=by
 have old:∀{n:Nat} {o:WO},lk W'.objs n=some o→n≠R.nx→lk W.objs n=some o:=fun {n o} h hne=>by
  rw [hw,lk_cons,if_neg (fun e=>hne e.symm)] at h
  exact h
 have new:∀{o:WO},lk W'.objs R.nx=some o→o=wo:=fun {o} h=>by
  rw [hw,lk_cons,if_pos rfl] at h
  cases h
  rfl
 have apart:∀{n:Nat} {o:WO},lk W.objs n=some o→hasO R n o→R.ob n≠c∨¬hasO (R.add c x) R.nx wo:=fun {n o} h ho'=>by
  by_cases hh:hasO (R.add c x) R.nx wo
  ·refine .inl fun e=>?_
   obtain ⟨p,hp⟩:=rh.ob_look h ho'
   rw [e,hc hh] at hp
   cases hp
  ·exact .inr hh
 by_cases hh:hasO (R.add c x) R.nx wo
 ·refine ⟨hn,fun n o h=>?_,fun n m o p h1 h2 h3 h4 e=>?_,hf⟩
  ·by_cases hne:n=R.nx
   ·subst hne
    obtain rfl:=new h
    exact ⟨Nat.lt_succ_self _,.inr rfl,ho⟩
   ·have h':=old h hne
    obtain ⟨q1,q2,q3⟩:=rh.obj n o h'
    exact ⟨Nat.lt_succ_of_lt q1,.inl q2,q3.move (Rn.add_le c x) (upd_ne _ _ hne) (upd_ne _ _ hne) fun ho'=>hH _ (apart h' ho')⟩
  ·by_cases hn1:n=R.nx
   ·by_cases hm1:m=R.nx
    ·rw [hn1,hm1]
    ·exfalso
     have h2':=old h2 hm1
     have e':c=R.ob m:=by
      rw [hn1] at e
      have a1:(R.add c x).ob R.nx=c:=upd_at _ _ _
      have a2:(R.add c x).ob m=R.ob m:=upd_ne _ _ hm1
      rw [a1,a2] at e
      exact e
     exact ((apart h2' (h4.move (upd_ne _ _ hm1))).resolve_right (fun q=>q hh)) e'.symm
   ·by_cases hm1:m=R.nx
    ·exfalso
     have h1':=old h1 hn1
     have e':R.ob n=c:=by
      rw [hm1] at e
      have a1:(R.add c x).ob R.nx=c:=upd_at _ _ _
      have a2:(R.add c x).ob n=R.ob n:=upd_ne _ _ hn1
      rw [a1,a2] at e
      exact e
     exact ((apart h1' (h3.move (upd_ne _ _ hn1))).resolve_right (fun q=>q hh)) e'
    ·have a1:(R.add c x).ob n=R.ob n:=upd_ne _ _ hn1
     have a2:(R.add c x).ob m=R.ob m:=upd_ne _ _ hm1
     rw [a1,a2] at e
     exact rh.inj n m o p (old h1 hn1) (old h2 hm1) (h3.move (upd_ne _ _ hn1)) (h4.move (upd_ne _ _ hm1)) e
 ·-- nothing new in the abstract heap
  refine ⟨hn,fun n o h=>?_,fun n m o p h1 h2 h3 h4 e=>?_,hf⟩
  ·by_cases hne:n=R.nx
   ·subst hne
    obtain rfl:=new h
    exact ⟨Nat.lt_succ_self _,.inr rfl,ho⟩
   ·have h':=old h hne
    obtain ⟨q1,q2,q3⟩:=rh.obj n o h'
    exact ⟨Nat.lt_succ_of_lt q1,.inl q2,q3.move (Rn.add_le c x) (upd_ne _ _ hne) (upd_ne _ _ hne) fun _=>hH _ (.inr hh)⟩
  ·have hn1:n≠R.nx:=fun e1=>by subst e1;rw [new h1] at h3;exact hh h3
   have hm1:m≠R.nx:=fun e1=>by subst e1;rw [new h2] at h4;exact hh h4
   have a1:(R.add c x).ob n=R.ob n:=upd_ne _ _ hn1
   have a2:(R.add c x).ob m=R.ob m:=upd_ne _ _ hm1
   rw [a1,a2] at e
   exact rh.inj n m o p (old h1 hn1) (old h2 hm1) (h3.move (upd_ne _ _ hn1)) (h4.move (upd_ne _ _ hm1)) e
theorem step_newY {W0:WH} {x y:AV} {wo:WO} {ao:AO} {rd:List Nat} {e:WE} {v:WV} (rh0:RelH R W0 H) (sub:∀n o,lk W.objs n=some o→lk W0.objs n=some o) (rh:RelH R W H) (hp:isPlain o) (hk:K v ⟨(W.nx,wo)::W.objs,W.nx+1⟩ e)
 (h:aop tab (look Tc) H H.next o=some ⟨y,.loc rd [(H.next,ao)] 1⟩) (hv:WR (R.add H.next x) v y) (hr:rootO W.nx wo∈e.wr) (hh:hasO (R.add H.next x) R.nx wo)
 (hm:∀m∈rd,∃n o,lk W0.objs n=some o∧hasO R n o∧R.ob n=m∧(rootO n o∈e.rd∨rootO n o∈e.wr))
 (ho:ObjR (R.add H.next x) (H.apply (.loc rd [(H.next,ao)] 1)) R.nx wo):Stepped P tab R W0 H Tc o K:=by
 have hl:∀m,look (H.apply (.loc rd [(H.next,ao)] 1)).objs m=if H.next=m then some ao else look H.objs m:=fun m=>look_put _ _ _ _
 refine ⟨v,_,e,hk,.none,y,_,R.add H.next x,stepOK_aop hp h,?_,Rn.add_le _ _,hv,?_,?_⟩
 ·simp [okEff]
 ·refine relH_new rh (c:=H.next) (x:=x) (wo:=wo) (by rw [rh.nx]) (by show W.nx+1=_;rw [rh.nx]) (fun m hm=>?_) (fun m hm=>?_) (fun _=>rh.fresh _ (Nat.le_refl _)) ho
  ·rw [hl,if_neg]
   intro e
   rcases hm with q | q
   ·exact q e.symm
   ·exact q hh
  ·simp only [Heap.apply] at hm
   rw [hl,if_neg (by omega)]
   exact rh.fresh m (by omega)
 ·intro ow how
  refine ⟨upd ow H.next (rootO W.nx wo),fun c hc=>upd_ne _ _ (by omega),fun n o' h1 h2=>?_,fun m hm'=>?_,fun p hp=>?_⟩
  ·rw [lk_cons] at h1
   by_cases hn:W.nx=n
   ·rw [if_pos hn] at h1
    cases h1
    subst hn
    have:(R.add H.next x).ob W.nx=H.next:=by rw [rh.nx];exact upd_at _ _ _
    rw [this]
    exact upd_at _ _ _
   ·rw [if_neg hn] at h1
    have hne:n≠R.nx:=fun e=>hn (by rw [rh.nx,e])
    have h3:hasO R n o':=h2.move (upd_ne _ _ hne)
    have h4:=rh.ob_lt h1 h3
    have h5:(R.add H.next x).ob n=R.ob n:=upd_ne _ _ hne
    rw [h5,upd_ne _ _ (by omega)]
    exact how n o' (sub _ _ h1) h3
  ·obtain ⟨n,o',h1,h2,h3,h4⟩:=hm m hm'
   have:=rh0.ob_lt h1 h2
   rw [h3] at this
   refine ⟨by simp [Heap.apply];omega,?_⟩
   rw [upd_ne _ _ (by omega),←h3,how n o' h1 h2]
   exact h4
  ·simp only [List.mem_singleton] at hp
   subst hp
   refine ⟨by simp [Heap.apply];omega,?_⟩
   show upd ow H.next (rootO W.nx wo) H.next∈_
   rw [upd_at]
   exact hr
theorem step_new0 {W0:WH} {x:AV} {wo:WO} {ao:AO} {rd:List Nat} {e:WE} {v:WV} (rh0:RelH R W0 H) (sub:∀n o,lk W.objs n=some o→lk W0.objs n=some o) (rh:RelH R W H) (hp:isPlain o) (hk:K v ⟨(W.nx,wo)::W.objs,W.nx+1⟩ e)
 (h:aop tab (look Tc) H H.next o=some ⟨x,.loc rd [(H.next,ao)] 1⟩) (hv:WR (R.add H.next x) v x) (hr:rootO W.nx wo∈e.wr) (hh:hasO (R.add H.next x) R.nx wo)
 (hm:∀m∈rd,∃n o,lk W0.objs n=some o∧hasO R n o∧R.ob n=m∧(rootO n o∈e.rd∨rootO n o∈e.wr))
 (ho:ObjR (R.add H.next x) (H.apply (.loc rd [(H.next,ao)] 1)) R.nx wo):Stepped P tab R W0 H Tc o K:=step_newY rh0 sub rh hp hk h hv hr hh hm ho
theorem step_new {x:AV} {wo:WO} {ao:AO} {rd:List Nat} {e:WE} {v:WV} (rh:RelH R W H) (hp:isPlain o) (hk:K v ⟨(W.nx,wo)::W.objs,W.nx+1⟩ e)
 (h:aop tab (look Tc) H H.next o=some ⟨x,.loc rd [(H.next,ao)] 1⟩) (hv:WR (R.add H.next x) v x) (hr:rootO W.nx wo∈e.wr) (hh:hasO (R.add H.next x) R.nx wo)
 (hm:∀m∈rd,∃n o,lk W.objs n=some o∧hasO R n o∧R.ob n=m∧(rootO n o∈e.rd∨rootO n o∈e.wr))
 (ho:ObjR (R.add H.next x) (H.apply (.loc rd [(H.next,ao)] 1)) R.nx wo):Stepped P tab R W H Tc o K:=step_new0 rh (fun _ _ h=>h) rh hp hk h hv hr hh hm ho
theorem newBox_sound (rh:RelH R W H) (hp:isPlain o) {cs:List WV} {xs:List AV} (hx:WRs R cs xs) (ha:aop tab (look Tc) H H.next o=some ⟨.pt H.next 1 0 0,.loc [] [(H.next,.cells [xs] xs.length 0)] 1⟩) (h:newBox W cs K) :
 Stepped P tab R W H Tc o K:=by
 have hl:=(wrs_all2.1 hx).length
 refine step_new rh hp (h:K _ _ _) ha ?_ (by simp [rootO]) trivial (fun _ h=>by cases h) ?_
 ·refine .box (by rw [rh.nx];exact Nat.lt_succ_self _) rfl fun _=>?_
  rw [rh.nx]
  show _=AV.pt ((R.add H.next _).ob R.nx) 1 0 0
  rw [show (R.add H.next (.pt H.next 1 0 0)).ob R.nx=H.next from upd_at _ _ _]
 ·refine ⟨xs,0,?_,hx.mono (Rn.add_le _ _),Nat.zero_le _,fun _=>rfl⟩
  rw [show (R.add H.next (.pt H.next 1 0 0)).ob R.nx=H.next from upd_at _ _ _,hl]
  exact (look_put _ _ _ _).trans (by rw [if_pos rfl])
theorem beq_of_bif {b:Bool} {X:Prop} (h:bif b then X else False):b=true∧X:=by
 cases b with
 |true=>exact ⟨rfl,h⟩
 |false=>exact h.elim
theorem chunks_ok {cs:List WV} {xs:List AV} (h:WRs R cs xs) (s:Nat):∀k:Nat,WRss R (chunksW s k cs) (chunks s k xs):=by
 intro k
 induction k generalizing cs xs with
 |zero=>exact .nil
 |succ k ih=>exact .cons (wrs_all2.2 ((wrs_all2.1 h).take s)) (ih (wrs_all2.2 ((wrs_all2.1 h).drop s)))
theorem chunks_lens {cs:List WV} {s:Nat}:∀{k:Nat},cs.length=k*s→(∀e∈chunksW s k cs,e.length=s)∧(chunksW s k cs).length=k:=by
 intro k
 induction k generalizing cs with
 |zero=>intro _;exact ⟨fun e he=>(by cases he),rfl⟩
 |succ k ih=>
  intro hl
  rw [Nat.succ_mul] at hl
  obtain ⟨a,b⟩:=ih (cs:=cs.drop s) (by rw [List.length_drop];omega)
  refine ⟨fun e he=>?_,by simp [chunksW,b]⟩
  rcases List.mem_cons.1 he with rfl | he
  ·rw [List.length_take];omega
  ·exact a e he
theorem newArr_sound (rh:RelH R W H) (hp:isPlain o) {cs:List WV} {xs:List AV} {m s:Nat} (hx:WRs R cs xs) (hl:cs.length=m*s)
 (ha:aop tab (look Tc) H H.next o=some ⟨.pt H.next m 0 0,.loc [] [(H.next,.cells (chunks s m xs) s 0)] 1⟩) (h:newArr W (chunksW s m cs) s K):Stepped P tab R W H Tc o K:=by
 obtain ⟨c1,c2⟩:=chunks_lens hl
 have hw:=chunks_ok hx s m
 have hxl:(chunks s m xs).length=m:=by rw [←All2.length hw,c2]
 refine step_newY (x:=.sl H.next m 0 m (some m)) rh (fun _ _ h=>h) rh hp (h:K _ _ _) ha ?_ (by simp [rootO]) ?_ (fun _ h=>by cases h) ?_
 ·refine .elt (by rw [rh.nx];exact Nat.lt_succ_self _) rfl fun _=>⟨m,some m,?_,?_⟩
  ·rw [rh.nx]
   rw [show (R.add H.next (.sl H.next m 0 m (some m))).av R.nx=_ from upd_at _ _ _,show (R.add H.next (.sl H.next m 0 m (some m))).ob R.nx=_ from upd_at _ _ _]
  ·rw [rh.nx]
   rw [show (R.add H.next (.sl H.next m 0 m (some m))).ob R.nx=_ from upd_at _ _ _]
 ·show (R.add _ _).av R.nx≠nilA
  rw [show (R.add H.next (.sl H.next m 0 m (some m))).av R.nx=_ from upd_at _ _ _]
  intro e;cases e
 ·refine ⟨c1,.inr ⟨m,some m,chunks s m xs,0,?_,?_,hxl,WRss.mono (Rn.add_le _ _) hw,.inr rfl,Nat.zero_le _,fun _=>rfl⟩⟩
  ·rw [show (R.add H.next (.sl H.next m 0 m (some m))).av R.nx=_ from upd_at _ _ _,show (R.add H.next (.sl H.next m 0 m (some m))).ob R.nx=_ from upd_at _ _ _]
  ·rw [show (R.add H.next (.sl H.next m 0 m (some m))).ob R.nx=_ from upd_at _ _ _]
   exact (look_put _ _ _ _).trans (by rw [if_pos rfl])
theorem alloc_sound (rh:RelH R W H) {t:TypeId} (ho:o.op=.alloc t) (h:allocW tab W K t):Stepped P tab R W H Tc o K:=by
 have hp:isPlain o:=plain_op (fun c hc=>by rw [ho] at hc;cases hc) (fun x hc=>by rw [ho] at hc;cases hc)
 unfold allocW at h
 split at h
 ·rename_i d hd
  split at h
  ·rename_i m e hk
   split at h
   ·rename_i de hde
    obtain ⟨hb,h⟩:=beq_of_bif h
    refine newArr_sound rh hp (zero_ok d).wrs (Nat.eq_of_beq_eq_true hb) ?_ h
    have hl:=(prs_all2.1 (zero_ok d)).length
    simp only [aop,ho,hd,newVarA,hk,hde]
    rw [if_pos (by rw [←hl];exact Nat.eq_of_beq_eq_true hb)]
   ·exact h.elim
  ·rename_i hk
   refine newBox_sound rh hp (zeroN_ok d 0).wrs ?_ h
   simp only [aop,ho,hd,newVarA,hk]
  ·rename_i hk
   refine newBox_sound rh hp (zero_ok d).wrs ?_ h
   simp only [aop,ho,hd,newVarA]
 ·exact h.elim
theorem bind_some {α β:Type} {x:Option α} {f:α→Option β} {b:β} (h:x.bind f=some b):∃a,x=some a∧f a=some b:=by
 cases x with
 |none=>cases h
 |some a=>exact ⟨a,rfl,h⟩
theorem box_sound (rt:RelT R T Tc) (rh:RelH R W H) {t:TypeId} {x:Operand} (ho:o.op=.box t x) (h:boxW tab T W K t x):Stepped P tab R W H Tc o K:=by
 have hp:isPlain o:=plain_op (fun c hc=>by rw [ho] at hc;cases hc) (fun x hc=>by rw [ho] at hc;cases hc)
 unfold boxW at h
 split at h
 ·rename_i d cs hd hcs
  obtain ⟨v,hv,hc⟩:=bind_some hcs
  obtain ⟨y,hy,hr⟩:=ev_ok rt hv
  obtain ⟨xs,hxs,hrs⟩:=cells_ok hr hc
  split at h
  ·exact h.elim
  ·rename_i hk
   obtain ⟨hb,h⟩:=beq_of_bif h
   have hl:xs.length=d.size:=by rw [←(wrs_all2.1 hrs).length];exact Nat.eq_of_beq_eq_true hb
   refine newBox_sound rh hp hrs ?_ h
   simp only [aop,ho,hd,hy,hxs,if_pos hl,newVarA]
 ·exact h.elim
theorem mapO_ok (rt:RelT R T Tc):∀{l:List (Nat×Operand)} {ps:List (Nat×WV)},mapO (fun p:Nat×Operand=>(evW T p.2).map fun v=>(p.1,v)) l=some ps→
 ∃qs,mapOpt (fun p:Nat×Operand=>(aev (look Tc) p.2).map fun v=>(p.1,v)) l=some qs∧All2 (fun a b=>a.1=b.1∧WR R a.2 b.2) ps qs
 |[],_,h=>by cases h;exact ⟨[],rfl,.nil⟩
 |p::l,ps,h=>by
  simp only [mapO] at h
  split at h
  ·cases h
  ·rename_i a ha
   split at h
   ·cases h
   ·rename_i bs hbs
    cases h
    cases hv:evW T p.2 with
    |none=>rw [hv] at ha;cases ha
    |some v=>
     rw [hv] at ha
     cases ha
     obtain ⟨y,hy,hr⟩:=ev_ok rt hv
     obtain ⟨qs,hq,hqr⟩:=mapO_ok rt hbs
     exact ⟨(p.1,y)::qs,by simp [mapOpt,hy,hq],.cons ⟨rfl,hr⟩ hqr⟩
theorem fill_ok {place:Nat→Option (Nat×Nat)}:∀{ps:List (Nat×WV)} {qs:List (Nat×AV)} {cs cs':List WV} {xs:List AV},All2 (fun a b=>a.1=b.1∧WR R a.2 b.2) ps qs→WRs R cs xs→fillW place ps cs=some cs'→
 ∃xs',fillParts place xs qs=some xs'∧WRs R cs' xs'
 |_,_,cs,cs',xs,.nil,hx,h=>by cases h;exact ⟨xs,rfl,hx⟩
 |(i,v)::ps,(j,y)::qs,cs,cs',xs,.cons hh hs,hx,h=>by
  obtain ⟨rfl,hr⟩:=hh
  simp only [fillW] at h
  split at h
  ·rename_i off size new hpl hc
   obtain ⟨ys,hy,hyr⟩:=cells_ok hr hc
   cases hb:(Nat.beq new.length size&&Nat.ble (off+size) cs.length) with
   |false=>rw [hb] at h;cases h
   |true=>
    rw [hb] at h
    simp only [Bool.and_eq_true] at hb
    have h1:ys.length=size:=by rw [←(wrs_all2.1 hyr).length];exact Nat.eq_of_beq_eq_true hb.1
    have h2:off+size≤xs.length:=by rw [←(wrs_all2.1 hx).length];exact Nat.le_of_ble_eq_true hb.2
    obtain ⟨xs',h3,h4⟩:=fill_ok hs (splice_ok hx off hyr) h
    refine ⟨xs',?_,h4⟩
    simp only [fillParts,hpl,hy]
    rw [if_pos ⟨h1,h2⟩]
    exact h3
  ·cases h
theorem set_ok {s:Nat}:∀{ps:List (Nat×WV)} {qs:List (Nat×AV)} {cs cs':List (List WV)} {xs:List (List AV)},All2 (fun a b=>a.1=b.1∧WR R a.2 b.2) ps qs→WRss R cs xs→(∀e∈cs,e.length=s)→setW s ps cs=some cs'→
 ∃xs',setParts s xs qs=some xs'∧WRss R cs' xs'∧(∀e∈cs',e.length=s)∧cs'.length=cs.length
 |_,_,cs,cs',xs,.nil,hx,hs,h=>by cases h;exact ⟨xs,rfl,hx,hs,rfl⟩
 |(i,v)::ps,(j,y)::qs,cs,cs',xs,.cons hh hss,hx,hs,h=>by
  obtain ⟨rfl,hr⟩:=hh
  simp only [setW] at h
  split at h
  ·rename_i new hc
   obtain ⟨ys,hy,hyr⟩:=cells_ok hr hc
   cases hb:(Nat.beq new.length s&&Nat.blt i cs.length) with
   |false=>rw [hb] at h;cases h
   |true=>
    rw [hb] at h
    simp only [Bool.and_eq_true] at hb
    have h0:new.length=s:=Nat.eq_of_beq_eq_true hb.1
    have h1:ys.length=s:=by rw [←(wrs_all2.1 hyr).length];exact h0
    have h2:i<xs.length:=by rw [←All2.length hx];exact Nat.blt_eq.mp hb.2
    obtain ⟨xs',h3,h4,h5,h6⟩:=set_ok hss (All2.set hx i hyr) (fun e he=>by
     rcases List.mem_or_eq_of_mem_set he with q | rfl
     ·exact hs e q
     ·exact h0) h
    refine ⟨xs',?_,h4,h5,by rw [h6];simp⟩
    simp only [setParts,hy]
    rw [if_pos ⟨h1,h2⟩]
    exact h3
  ·cases h
theorem fillC_ok {place:Nat→Option (Nat×Nat)}:∀{ps:List (Nat×WV)} {cells:List WV} {K:List WV→Prop},fillC place ps cells K→∃cs,fillW place ps cells=some cs∧K cs
 |[],cells,K,h=>⟨cells,rfl,h⟩
 |(i,v)::rest,cells,K,h=>by
  unfold fillC at h
  unfold fillW
  split at h
  ·rename_i off size cs hp hc
   cases hb:(Nat.beq cs.length size&&Nat.ble (off+size) cells.length) with
   |false=>rw [hb] at h;exact h.elim
   |true=>
    rw [hb] at h
    simp only [cond_true] at h
    rw [forceC_eq] at h
    simp only [hb,cond_true]
    exact fillC_ok h
  ·exact h.elim
theorem build_sound (rt:RelT R T Tc) (rh:RelH R W H) {t:TypeId} {parts:Array (Nat×Operand)} (ho:o.op=.build t parts) (h:buildW tab T W K t parts):Stepped P tab R W H Tc o K:=by
 have hp:isPlain o:=plain_op (fun c hc=>by rw [ho] at hc;cases hc) (fun x hc=>by rw [ho] at hc;cases hc)
 unfold buildW at h
 split at h
 ·rename_i d ps hd hps
  obtain ⟨qs,hq,hqr⟩:=mapO_ok rt hps
  split at h
  ·rename_i fs hk
   split at h
   ·rename_i cs hcs
    have hz:PRs (bif rawB t ps then zeroN d 6 else zeroW d) (d.zero.map .sc):=by
     cases rawB t ps
     ·exact zero_ok d
     ·exact zeroN_ok d 6
    obtain ⟨xs,hx,hxr⟩:=fill_ok hqr hz.wrs hcs
    refine step_quiet rh hp h ?_ (.agg hxr)
    unfold placeW at hx
    simp only [aop,ho,hd,hq,hk,hx]
   ·exact h.elim
  ·rename_i m e hk
   split at h
   ·rename_i de hde
    obtain ⟨cs,hcs,h⟩:=fillC_ok h
    obtain ⟨xs,hx,hxr⟩:=fill_ok hqr (zero_ok d).wrs hcs
    refine step_quiet rh hp h ?_ (.agg hxr)
    simp only [aop,ho,hd,hq,hk,hde,hx]
   ·exact h.elim
  ·exact h.elim
 ·exact h.elim
theorem rows_sound (rt:RelT R T Tc) (rh:RelH R W H) {t:TypeId} {len:Nat} {parts:Array (Nat×Operand)} (ho:o.op=.buildSlice t len parts) (h:rowsW tab T W K t len parts):Stepped P tab R W H Tc o K:=by
 have hp:isPlain o:=plain_op (fun c hc=>by rw [ho] at hc;cases hc) (fun x hc=>by rw [ho] at hc;cases hc)
 unfold rowsW at h
 split at h
 ·rename_i de ps hd hps
  obtain ⟨d,hd1,hd2⟩:=bind_some hd
  obtain ⟨qs,hq,hqr⟩:=mapO_ok rt hps
  split at h
  ·rename_i es hes
   obtain ⟨hb,h⟩:=beq_of_bif h
   simp only [Bool.and_eq_true,Bool.not_eq_true'] at hb
   obtain ⟨⟨b1,b2⟩,b3⟩:=hb
   have c1:de.zero.length=de.size:=Nat.eq_of_beq_eq_true b1
   have c2:de.size≠0:=Nat.ne_of_beq_eq_false b2
   have c3:len*de.size≤2 ^ 20:=Nat.le_of_ble_eq_true b3
   obtain ⟨xs,hx,hxr,hxl,hlen⟩:=set_ok hqr (All2.replicate len (zero_ok de).wrs) (fun e he=>by
    rw [(List.mem_replicate.1 he).2]
    simp [zeroW,c1]) hes
   have hlx:xs.length=len:=by rw [←All2.length hxr,hlen];simp
   unfold elemD at hd2
   split at hd2
   ·rename_i te hk
    refine step_new rh hp (h:K _ _ _) (x:=.sl H.next len 0 len (some len)) (ao:=.cells xs de.size 0) (rd:=[]) ?_ ?_ (by simp [rootO]) ?_ (fun _ h=>by cases h) ?_
    ·simp only [aop,ho,hd1,hq,hk,hd2]
     rw [if_pos ⟨c3,c1,c2⟩,hx]
    ·refine .row (by rw [rh.nx];exact Nat.lt_succ_self _) rfl fun _=>?_
     rw [rh.nx]
     exact (upd_at _ _ _).symm
    ·show (R.add _ _).av R.nx≠nilA
     rw [show (R.add H.next (.sl H.next len 0 len (some len))).av R.nx=_ from upd_at _ _ _]
     intro e;cases e
    ·refine ⟨hxl,.inr ⟨len,some len,xs,0,?_,?_,hlx,WRss.mono (Rn.add_le _ _) hxr,.inr rfl,Nat.zero_le _,fun _=>rfl⟩⟩
     ·rw [show (R.add H.next (.sl H.next len 0 len (some len))).av R.nx=_ from upd_at _ _ _,show (R.add H.next (.sl H.next len 0 len (some len))).ob R.nx=_ from upd_at _ _ _]
     ·rw [show (R.add H.next (.sl H.next len 0 len (some len))).ob R.nx=_ from upd_at _ _ _]
      exact (look_put _ _ _ _).trans (by rw [if_pos rfl])
   ·cases hd2
  ·exact h.elim
 ·exact h.elim
end Go.Abs
end
