/- Of GapsBounds: lemmas. -/
import Derived.Test.YthbenojbjjgnaaaGreatUAl
import Derived.Test.YthbenojbjjgnaaaGreatUAk
import Derived.Test.YthbenojbjjgnaaaGreatProg
import Derived.Shelf.Spec.SlicesInsertGrow
import Derived.KernelRfl
import Derived.Test.YthbenojbjjgnaaaGreatUAj
import Derived.Deep.Slices
import Derived.Deep.Fields
import Derived.ChangeOld
import Derived.ShutString
import Derived.Lib.SmallJoins
set_option linter.all false
section
namespace Go.Abs.RM
open Go.Proofs
theorem kn_iff {l:List S65} {x:Int}:Kn l x↔∃e∈l,e.f0=x:=by
 constructor
 ·rintro ⟨e,he⟩
  exact ⟨e,getI_mem he⟩
 ·rintro ⟨e,he,rfl⟩
  unfold Kn getI
  cases h:l.find? (fun z=>z.f0==e.f0) with
  |some z=>exact ⟨z,rfl⟩
  |none=>rw [List.find?_eq_none] at h;have:=h e he;simp at this
theorem with_mem {a:List Int} {n:Int} (h:n∈a):∀x,x∈a↔x∈a∨x=n:=fun x=>⟨.inl,fun q=>q.elim id fun e=>e ▸ h⟩
def SH (a:List Int) (n:Int) (i:Nat) (c:List Int):Prop:=c.length=a.length+1∧(∀j:Nat,j≤i→c[j]?=(a++[n])[j]?)∧∀j:Nat,i<j→j≤a.length→c[j]?=a[j-1]?
theorem sh_zero {a:List Int} {n:Int}:SH a n a.length (a++[n]):=⟨by simp,fun _ _=>rfl,fun j h1 h2=>by omega⟩
theorem sh_next {a c:List Int} {n y:Int} {i:Nat} (h:SH a n i c) (h0:0<i) (hi:i≤a.length) (hy:c[i-1]?=some y):SH a n (i-1) (c.set i y):=by
 obtain ⟨h1,h2,h3⟩:=h
 refine ⟨by rw [List.length_set,h1],fun j hj=>?_,fun j hj hl=>?_⟩
 ·rw [List.getElem?_set_ne (by omega)]
  exact h2 j (by omega)
 ·by_cases q:j=i
  ·subst q
   rw [List.getElem?_set_self (by omega),←hy,h2 _ (by omega),List.getElem?_append_left (by omega)]
  ·rw [List.getElem?_set_ne (by omega)]
   exact h3 j (by omega) hl
theorem sh_end {a c:List Int} {n:Int} {k:Nat} (h:SH a n k c) (hk:k≤a.length):∀x,x∈c.set k n↔x∈a∨x=n:=fun x=>by
 obtain ⟨h1,h2,h3⟩:=h
 constructor
 ·intro hx
  obtain ⟨j,hj,rfl⟩:=List.getElem_of_mem hx
  rw [List.length_set] at hj
  by_cases q:j=k
  ·subst q;simp
  ·rw [List.getElem_set_ne (fun e=>q e.symm)]
   left
   by_cases q2:j<k
   ·have:=h2 j (by omega)
    rw [List.getElem?_append_left (by omega),List.getElem?_eq_getElem hj,List.getElem?_eq_getElem (by omega)] at this
    rw [Option.some.inj this]
    exact List.getElem_mem _
   ·have:=h3 j (by omega) (by omega)
    rw [List.getElem?_eq_getElem hj,List.getElem?_eq_getElem (by omega)] at this
    rw [Option.some.inj this]
    exact List.getElem_mem _
 ·rintro (hx | rfl)
  ·obtain ⟨j,hj,rfl⟩:=List.getElem_of_mem hx
   by_cases q:j<k
   ·refine List.mem_of_getElem? (i:=j) ?_
    rw [List.getElem?_set_ne (by omega),h2 j (by omega),List.getElem?_append_left hj,List.getElem?_eq_getElem hj]
   ·refine List.mem_of_getElem? (i:=j+1) ?_
    rw [List.getElem?_set_ne (by omega),h3 (j+1) (by omega) (by omega)]
    simp [hj]
  ·refine List.mem_of_getElem? (i:=k) ?_
   rw [List.getElem?_set_self (by omega)]
def Ms (l:List S65) (a o:List Int) (p:Int):Prop:=∀x,x∈o↔x∈a.take p.toNat∧¬Kn l x
section
variable {l:List S65} {a o z:List Int} {p y:Int}
theorem ms0:Ms l a [] 0:=fun x=>by simp
theorem take_nx (i0:0≤p) (i1:p≤1000000000) (hx:a[p.toNat]?=some y):∀x,x∈a.take (nx p).toNat↔x∈a.take p.toNat∨x=y:=fun x=>by
 rw [nx_eq (by omega) (by omega),show (p+1).toNat=p.toNat+1 by omega,List.take_add_one,hx]
 simp
theorem ms_add (i0:0≤p) (i1:p≤1000000000) (hx:a[p.toNat]?=some y) (h:Ms l a o p) (hn:∀e∈l,e.f0≠y) (hz:∀x,x∈z↔x∈o∨x=y):Ms l a z (nx p):=fun x=>by
 have hk:¬Kn l y:=fun q=>by obtain ⟨e,he,hy⟩:=kn_iff.1 q;exact hn e he hy
 rw [hz,h x,take_nx i0 i1 hx]
 constructor
 ·rintro (⟨q1,q2⟩ | rfl)
  ·exact ⟨.inl q1,q2⟩
  ·exact ⟨.inr rfl,hk⟩
 ·rintro ⟨q1 | rfl,q2⟩
  ·exact .inl ⟨q1,q2⟩
  ·exact .inr rfl
theorem ms_skip {e:S65} (i0:0≤p) (i1:p≤1000000000) (hx:a[p.toNat]?=some y) (h:Ms l a o p) (hn:e∈l) (he:e.f0=y):Ms l a o (nx p):=fun x=>by
 rw [h x,take_nx i0 i1 hx]
 constructor
 ·rintro ⟨q1,q2⟩
  exact ⟨.inl q1,q2⟩
 ·rintro ⟨q1 | rfl,q2⟩
  ·exact ⟨q1,q2⟩
  ·exact absurd (kn_iff.2 ⟨e,hn,he⟩) q2
theorem ms_end (h:Ms l a o p) (hp:¬p<(a.length:Int)):∀x,x∈o↔x∈a∧¬Kn l x:=fun x=>by rw [h x,List.take_of_length_le (by omega)]
end
theorem reach_kn {l:List S65} {h:List Int} {x:Int} (q:Reach l h x):Kn l x:=by cases q<;>assumption
theorem map_snoc {l:List S65} {o:List Int} {p:Int} {e:S65} (i0:0≤p) (i1:p≤1000000000) (hx:l[p.toNat]?=some e) (h:o=(l.take p.toNat).map S65.f0):o++[e.f0]=(l.take (nx p).toNat).map S65.f0:=by
 subst h
 rw [nx_eq (by omega) (by omega),show (p+1).toNat=p.toNat+1 by omega,List.take_add_one,hx]
 simp
theorem wsub {x:Int} (h0:0≤x) (h1:x≤2000000001):IntKind.wrap .i64 (x-1)=x-1:=by
 simp (disch:=omega) only [ls]
theorem sh_z {a:List Int} {n:Int} (h:a.length≤1000000000):SH a n (IntKind.wrap .i64 (((a++[n]).length:Int)-1)).toNat (a++[n]):=by
 rw [wsub (by omega) (by simp;omega)]
 have e:(((a++[n]).length:Int)-1).toNat=a.length:=by simp
 rw [e]
 exact sh_zero
theorem sh_nw {a c:List Int} {n y q:Int} (h:SH a n q.toNat c) (h0:0<q) (hb:a.length≤1000000000) (hq:q≤(a.length:Int)) (hx:c[(IntKind.wrap .i64 (q-1)).toNat]?=some y):SH a n (IntKind.wrap .i64 (q-1)).toNat (c.set q.toNat y):=by
 rw [wsub (by omega) (by omega)] at hx ⊢
 have e:(q-1).toNat=q.toNat-1:=by omega
 rw [e] at hx ⊢
 exact sh_next h (by omega) (by omega) hx
theorem sh_fin {a c:List Int} {n q k:Int} (h:SH a n q.toNat c) (h0:¬q>k) (h1:k≤q) (hk:0≤k) (h2:k≤(a.length:Int)):∀x,x∈c.set k.toNat n↔x∈a∨x=n:=by
 obtain rfl:q=k:=by omega
 exact sh_end h (by omega)
theorem kn_known {l:List S65} {a m r:List Int} (h1:∀x,x∈m↔x∈a∧¬Kn l x) (h2:∀x,x∈r↔x∈a∧x∉m):∀x∈r,x∈a∧Kn l x:=fun x hx=>by
 obtain ⟨q1,q2⟩:=(h2 x).1 hx
 refine ⟨q1,?_⟩
 by_cases hk:Kn l x
 ·exact hk
 ·exact absurd ((h1 x).2 ⟨q1,hk⟩) q2
theorem getI_nil {l:List S65} {y:Int} (h:∀e∈l,e.f0≠y):getI l y=none:=by
 unfold getI
 rw [List.find?_eq_none]
 intro e he
 have:=h e he
 simp [this]
theorem getI_first {l:List S65} {y p:Int} {x:S65} (i0:0≤p) (hx:l[p.toNat]?=some x) (h:∀(j:Nat) e,l[j]?=some e→(j:Int)<p→e.f0≠y) (he:x.f0=y):getI l y=some x:=by
 unfold getI
 obtain ⟨hl,rfl⟩:=List.getElem?_eq_some_iff.1 hx
 rw [List.find?_eq_some_iff_getElem]
 refine ⟨by simp [he],p.toNat,hl,rfl,fun j hj=>?_⟩
 have:=h j l[j] (by rw [List.getElem?_eq_getElem]) (by omega)
 simp [this]
theorem ofs_eb {l o:List S65} {a:List Int} (h:∀e∈o,∃x∈a,getI l x=some e) (g:∀e∈l,EB e):∀e∈o,EB e:=fun e he=>by
 obtain ⟨x,_,hx⟩:=h e he
 exact g e (getI_mem hx).1
def Ofs (l:List S65) (a:List Int) (o:List S65):Prop:=∀e∈o,∃x∈a,getI l x=some e
theorem ofs_add {l o:List S65} {a:List Int} {x:Int} {e:S65} (h:Ofs l a o) (hx:x∈a) (he:getI l x=some e):Ofs l a (o++[e]):=fun z hz=>by
 rcases List.mem_append.1 hz with hz | hz
 ·exact h z hz
 ·cases List.mem_singleton.1 hz;exact ⟨x,hx,he⟩
def Rfs (l:List S65) (o:List Int):Prop:=∀x∈o,∃e∈l,x∈e.f8++e.f9
theorem rfs8 {l:List S65} {o z:List Int} {e:S65} {y:Int} (h:Rfs l o) (he:e∈l) (hy:y∈e.f8) (hz:∀x,x∈z↔x∈o∨x=y):Rfs l z:=fun x hx=>by
 rcases (hz x).1 hx with hx | rfl
 ·exact h x hx
 ·exact ⟨e,he,List.mem_append.2 (.inl hy)⟩
theorem rfs9 {l:List S65} {o z:List Int} {e:S65} {y:Int} (h:Rfs l o) (he:e∈l) (hy:y∈e.f9) (hz:∀x,x∈z↔x∈o∨x=y):Rfs l z:=fun x hx=>by
 rcases (hz x).1 hx with hx | rfl
 ·exact h x hx
 ·exact ⟨e,he,List.mem_append.2 (.inr hy)⟩
theorem rfs_nil {l:List S65}:Rfs l []:=fun x hx=>by cases hx
theorem ofs_nil {l:List S65} {a:List Int}:Ofs l a []:=fun x hx=>by cases hx
def Rs (l:List S65) (a r:List Int):Prop:=∀x∈r,Kn l x∧∃y∈a,∃e,getI l y=some e∧x∈e.f8++e.f9
theorem rs_of {l o:List S65} {a r f:List Int} (h1:Ofs l a o) (h2:Rfs o f) (h3:∀x∈r,x∈f∧Kn l x):Rs l a r:=fun x hx=>by
 obtain ⟨q1,q2⟩:=h3 x hx
 obtain ⟨e,he,q3⟩:=h2 x q1
 obtain ⟨y,hy,q4⟩:=h1 e he
 exact ⟨q2,y,hy,e,q4,q3⟩
def Bh (l:List S65) (h o:List Int):Prop:=o.Nodup∧∀x∈o,Reach l h x
theorem bh0 {l:List S65} {h z:List Int} (n:z.Nodup) (hz:∀x∈z,x∈h∧Kn l x):Bh l h z:=⟨n,fun x hx=>.base (hz x hx).1 (hz x hx).2⟩
theorem bh_next {l:List S65} {h o r z:List Int} (q:Bh l h o) (hr:Rs l o r) (hz:(∀x,x∈z↔x∈o∨x∈r)∧z.Nodup):Bh l h z:=⟨hz.2,fun x hx=>by
 rcases (hz.1 x).1 hx with hx | hx
 ·exact q.2 x hx
 ·obtain ⟨k,y,hy,e,he,hm⟩:=hr x hx
  exact .step (q.2 y hy) he hm k⟩
theorem bh_len {l:List S65} {h o:List Int} (q:Bh l h o):o.length≤l.length:=ids_le' q.1 fun x hx=>reach_kn (q.2 x hx)
def RawG (r:S30):Prop:=r.f0.size≤9223372036854775807∧(∀e∈r.f1,EM e)∧(∀e∈r.f3,EM e)∧r.f1.length≤9223372036854775807∧r.f2.length≤9223372036854775807∧r.f3.length≤9223372036854775807∧r.f4.length≤9223372036854775807∧r.f5.length≤9223372036854775807∧r.f7.length≤9223372036854775807∧r.f8.length≤9223372036854775807
theorem nd_fresh {l:List Int} {x p:Int} (h:l.Nodup) (i0:0≤p) (hx:l[p.toNat]?=some x):x∉l.take p.toNat:=fun hm=>by
 obtain ⟨hl,rfl⟩:=List.getElem?_eq_some_iff.1 hx
 obtain ⟨j,hj,he⟩:=List.getElem_of_mem hm
 rw [List.length_take] at hj
 rw [List.getElem_take] at he
 have h':(l.map fun x=>x).Nodup:=by simpa using h
 exact nd_adj (f:=fun x=>x) h' (i:=j) (j:=p.toNat) (List.getElem?_eq_getElem (by omega)) (List.getElem?_eq_getElem hl) (by omega) he
theorem slP {α:Type} {f:α→List WV} {l:List α} {s:Nat} {h:Int} {K:List (List WV)→Prop} (hl:∀a,(f a).length=s) (h0:0≤h) (h1:h≤(l.length:Int)) (hx:K ((l.take h.toNat).map f)):(∀x∈l.map f,x.length=s)∧0≤h∧h≤((l.map f).length:Int)∧∃zs,((l.map f).drop 0).take (h.toNat-0)=zs∧K zs:=
 ⟨lens_map hl,h0,by rw [List.length_map];exact h1,_,by rw [List.drop_zero,Nat.sub_zero,List.map_take],hx⟩
theorem len_o {l o:List S65} (h1:(o.map S65.f0).Nodup) (h2:∀x∈o.map S65.f0,Kn l x) (h3:(l.length:Int)≤12):o.length≤12:=by
 have q:=ids_le' h1 h2
 rw [List.length_map] at q
 omega
theorem none_mis {l:List S65} {i r:List Int} (h:∀x,x∈r↔x∈i∧¬Kn l x) (hk:∀x∈i,Kn l x):r.length=0:=by
 cases r with
 |nil=>rfl
 |cons a t=>have:=(h a).1 (List.mem_cons_self ..);exact absurd (hk a this.1) this.2
end Go.Abs.RM
end
section
namespace Go.Abs.RM
open Go.Proofs
abbrev sI (i:Int):WV:=.sc (.int .i64 i)
abbrev sB (b:Bool):WV:=.sc (.bool b)
abbrev sS (s:ByteArray):WV:=.sc (.string s)
abbrev lI (l:List Int):WV:=.lst (l.map c_i64)
abbrev lE (l:List S65):WV:=.lst (l.map S65.c)
abbrev aE (e:S65):WV:=.agg (S65.c e)
theorem lM {α β:Type} {f:α→β} {l:List α} {X:Nat→Prop} (h:X l.length):∃n,(l.map f).length=n∧X n:=⟨_,List.length_map ..,h⟩
theorem gO {f:FuncId} {fn:Func} {args:List WV} {G:WV→Prop} (hf:P.funcs[f]?=some fn) (h:Wk P tabL Y0 (bodyOf fn) (argsT 0 args) ⟨[],0⟩ (endsW tabL (resOf fn) G)) (hc:chk fn args.length=true:=by kernel_rfl):WValid P f args G:=go hf hc h
theorem fN {T:WT} {W:WH} {T1:WT} {vs:List WV} (h1:mapO (fun p:Nat×WV=>backV [] p.2) T1=some vs) (h2:T1.map (fun p=>lk T p.1)=vs.map some):Suits T W T1 ⟨[],0⟩:=ft [] rfl h1 h2 trivial
theorem fB1 {T:WT} {W:WH} {T1:WT} {vs cs:List WV} (h1:mapO (fun p:Nat×WV=>backV [(0,some 0)] p.2) T1=some vs) (h2:T1.map (fun p=>lk T p.1)=vs.map some) (h3:cs.all leafB=true) (h4:lk W.objs 0=some (.box cs false)):Suits T W T1 ⟨[(0,.box cs false)],1⟩:=ft [(0,some 0)] rfl h1 h2 ⟨fB rfl h3 h4,trivial⟩
theorem fR1 (k:Nat) {T:WT} {W:WH} {T1:WT} {vs:List WV} {s rt rt':Nat} {α:Type} {f:α→List WV} {l:List α} (h1:mapO (fun p:Nat×WV=>backV [(0,some k)] p.2) T1=some vs) (h2:T1.map (fun p=>lk T p.1)=vs.map some) (h3:lk W.objs k=some (.row (l.map f) s false rt')) (h:∀a,(f a).all leafB=true):Suits T W T1 ⟨[(0,.row (l.map f) s false rt)],1⟩:=ft [(0,some k)] rfl h1 h2 ⟨fR rfl h3 h,trivial⟩
end Go.Abs.RM
end
section
namespace Go.Proofs.RLP
open Go.Proofs
open Go.Shelf Go.RowKit Go.Lib
theorem mixed29:Tryz.prog.follows .mixedOrders=true:=by kernel_rfl
set_option maxHeartbeats 4000000 in
set_option maxRecDepth 100000 in
theorem insert_shift (b g c i vb vc:Nat) (w w1 w2:World) (hi:i<g) (hroom:g+1≤c) (hc63:g≤1000000)
 (hov:∀o lb cb,(callFunc 282 #[.slice (some ⟨vb,0,none⟩) 1 vc,.slice (some ⟨b,o,none⟩) lb cb]).run Tryz.prog w=.ok (.value (.bool false)) w)
 (hcp1:∀ty dc sc,(Builtin.copy_ #[22,22] ty #[.slice (some ⟨b,(i+1)*29,none⟩) (g-i) dc,.slice (some ⟨b,i*29,none⟩) (g+1-i) sc]).run Tryz.prog w.drew=.ok (goInt ((g:Int)-(i:Int))) w1)
 (hcp2:∀ty dc,(Builtin.copy_ #[22,22] ty #[.slice (some ⟨b,i*29,none⟩) (g+1-i) dc,.slice (some ⟨vb,0,none⟩) 1 vc]).run Tryz.prog w1=.ok (goInt 1) w2) :
 Calls Tryz.prog 211 #[.slice (some ⟨b,0,none⟩) g c,.int .i64 i,.slice (some ⟨vb,0,none⟩) 1 vc] w fun e w'=>
  e=.returned (.slice (some ⟨b,0,none⟩) (g+1) c)∧w'=w2:=by
 have mixed:=mixed29
 have hz2:¬((i:Int)=(g:Int)):=by omega
 have hw1:IntKind.i64.wrap ((i:Int)+1)=(i:Int)+1:=by rw [IntKind.wrap_i64];omega
 have hw2:IntKind.i64.wrap ((g:Int)+1)=(g:Int)+1:=by rw [IntKind.wrap_i64];omega
 have hb1:(0:Int)≤(i:Int)+1:=by omega
 have hin:i≤g:=by omega
 have htn:((i:Int)+1).toNat=i+1:=by omega
 have hb2:¬(c=i+1):=by omega
 have hb3:(i:Int)≤(g:Int)+1:=by omega
 have hb4:¬(c=i):=by omega
 go_enter Tryz.func211,Tryz.ntmps211
 go_wp2_with (simp only [hov])
 go_region_law_o (refine step_copy_runI rfl _ _ 22 22 rfl _ _ (by simp [Act.eval,Act.put]) (by simp [Act.eval,Act.put]) (hcp1 _ _ _) ?_)
 go_wp2_with (at_builtin;refine wpList_copy_runI _ rfl _ _ 22 22 rfl _ _ rfl rfl (hcp2 _ _) ?_)
 go_ret
 exact ⟨rfl,rfl⟩
set_option maxHeartbeats 4000000 in
set_option maxRecDepth 100000 in
theorem insert_end (b g c vb vc:Nat) (w w1:World) (r:Value)
 (hap:(Builtin.append_ #[22,22] 22 #[.slice (some ⟨b,0,none⟩) g c,.slice (some ⟨vb,0,none⟩) 1 vc]).run Tryz.prog w=.ok r w1) :
 Calls Tryz.prog 211 #[.slice (some ⟨b,0,none⟩) g c,.int .i64 g,.slice (some ⟨vb,0,none⟩) 1 vc] w fun e w'=>e=.returned r∧w'=w1:=by
 go_enter Tryz.func211,Tryz.ntmps211
 go_wp2_with (at_builtin;refine Lib.wpList_append_run _ rfl _ _ _ _ rfl _ _ rfl rfl _ _ hap ?_)
 all_goals (go_ret;exact ⟨rfl,rfl⟩)
set_option maxHeartbeats 4000000 in
set_option maxRecDepth 100000 in
theorem insert_grow (b g c i B G vb vc:Nat) (w w1 w2 w3:World) (hi:i<g) (hgc:g≤c) (hroom:c<g+1) (hc63:g≤1000000) (hG:g+1≤G)
 (hrz:(Builtin.append_ #[22,3] 22 #[.slice (some ⟨b,0,none⟩) i c,.int .i64 ((g:Int)+1-(i:Int))]).run Tryz.prog w=.ok (.slice (some ⟨B,0,none⟩) (g+1) G) w1)
 (hcp1:∀ty dc,(Builtin.copy_ #[22,22] ty #[.slice (some ⟨B,i*29,none⟩) (g+1-i) dc,.slice (some ⟨vb,0,none⟩) 1 vc]).run Tryz.prog w1=.ok (goInt 1) w2)
 (hcp2:∀ty dc sc,(Builtin.copy_ #[22,22] ty #[.slice (some ⟨B,(i+1)*29,none⟩) (g-i) dc,.slice (some ⟨b,i*29,none⟩) (g-i) sc]).run Tryz.prog w2.drew=.ok (goInt ((g:Int)-(i:Int))) w3) :
 Calls Tryz.prog 211 #[.slice (some ⟨b,0,none⟩) g c,.int .i64 i,.slice (some ⟨vb,0,none⟩) 1 vc] w fun e w'=>
  e=.returned (.slice (some ⟨B,0,none⟩) (g+1) G)∧w'=w3:=by
 have mixed:=mixed29
 have hz2:¬((i:Int)=(g:Int)):=by omega
 have hz3:(c:Int)<(g:Int)+1:=by omega
 have hw1:IntKind.i64.wrap ((i:Int)+1)=(i:Int)+1:=by rw [IntKind.wrap_i64];omega
 have hw2:IntKind.i64.wrap ((g:Int)+1)=(g:Int)+1:=by rw [IntKind.wrap_i64];omega
 have hw3:IntKind.i64.wrap ((g:Int)+1-i)=(g:Int)+1-i:=by rw [IntKind.wrap_i64];omega
 have hb1:(0:Int)≤(i:Int)+1:=by omega
 have hin:i≤g:=by omega
 have htn:((i:Int)+1).toNat=i+1:=by omega
 have hb2:¬(G=i+1):=by omega
 have hb3:(i:Int)≤(g:Int)+1:=by omega
 have hb4:¬(c=i):=by omega
 have hb5:¬(G=i):=by omega
 have hb6:(i:Int)≤(g:Int):=by omega
 go_enter Tryz.func211,Tryz.ntmps211
 go_wp2_with (first
  |(at_builtin;refine Lib.wpList_append_run _ rfl _ _ _ _ rfl _ _ rfl rfl _ _ hrz ?_)
  |(at_builtin;refine wpList_copy_runI _ rfl _ _ 22 22 rfl _ _ rfl rfl (hcp1 _ _) ?_))
 go_region_law_o (refine step_copy_runI rfl _ _ 22 22 rfl _ _ (by simp [Act.eval,Act.put]) (by simp [Act.eval,Act.put]) (hcp2 _ _ _) ?_)
 go_wp2
 go_ret
 exact ⟨rfl,rfl⟩
end Go.Proofs.RLP
end
section
namespace Go.Abs
open Go.Proofs Go.Proofs.RLP Go.RowKit Go.Lib
section
variable {P:Program} {σ:Sg}
theorem run_copy_raw {t e:TypeId} {s:Nat} (hu:P.underlying t=some (.slice e)) (hz:∀w,(sizeOf e).run P w=.ok s w) (ty:TypeId) {ts:Array TypeId} (hts:ts[0]?=some t) {w:World} {dB dO dl dc sB sO sl sc k:Nat} (hk:min sl dl=k)
 {vs:List Value} (hl:vs.length=k*s) (hsrc:∀j v,vs[j]?=some v→w.cell? ⟨sB,sO+j,none⟩=some v) {arr:Array Value} {tt:TypeId} {rg:Nat×Nat} (hb:w.heap[dB]?=some (.cells arr tt rg))
 (hrg:∀off,off≤arr.size→¬(rg.1≤off∧off<rg.2)) (hroom:dO+vs.length≤arr.size) (hone:∀v∈vs,v.oneCell'=true) :
 (Builtin.copy_ ts ty #[.slice (some ⟨dB,dO,none⟩) dl dc,.slice (some ⟨sB,sO,none⟩) sl sc]).run P w=.ok (goInt k) (w.setCells dB dO vs):=by
 have e0:(#[Value.slice (some ⟨dB,dO,none⟩) dl dc,.slice (some ⟨sB,sO,none⟩) sl sc]:Array Value)[0]?=some (.slice (some ⟨dB,dO,none⟩) dl dc):=rfl
 have e1:(#[Value.slice (some ⟨dB,dO,none⟩) dl dc,.slice (some ⟨sB,sO,none⟩) sl sc]:Array Value)[1]?=some (.slice (some ⟨sB,sO,none⟩) sl sc):=rfl
 have hlen:(Builtin.lenOf (.slice (some ⟨sB,sO,none⟩) sl sc)).run P w=.ok sl w:=rfl
 have hmin:Nat.min sl dl=k:=hk
 have hfc:=run_firstCells_some (P:=P) w s k ⟨sB,sO,none⟩ sl sc vs hl (fun j v hj=>by rw [Addr.add_lit];exact hsrc j v hj)
 have hst:=run_storeCells_cells (P:=P) dB dO vs 0 w (fun j hj=>by
  rw [cell_of_heap hb]
  simp only [Option.isSome_iff_exists]
  exact ⟨_,Array.getElem?_eq_getElem (by omega)⟩) (fun j hj=>by
  have:=hrg (dO+0+j) (by omega)
  simp only [World.frozen?,hb]
  simpa using fun h1=>Nat.le_of_not_lt fun h2=>this ⟨h1,h2⟩) hone
 unfold Builtin.copy_
 simp only [hts,e0,e1,Sem.run_bind,run_under hu,Result.andThen_ok,hlen,hz,hmin,hfc,List.toList_toArray,hst,Sem.run_pure,Nat.add_zero]
theorem write_rows (sr:SR σ) {n:Nat} {es:List (List AV)} {s fz:Nat} (hn:σ.h n=some (.cells es s fz)) (hes:∀e∈es,e.length=s) {arr:Array Value} {t:TypeId} {rg:Nat×Nat} (hw:σ.w.heap[σ.r n]?=some (.cells arr t rg))
 {new:List (List AV)} {vs:List Value} (hv:VRs σ new.flatten vs) (hall:∀e∈new,e.length=s) {at_:Nat} (hat:at_≤es.length) (hfz:fz≤at_) (hroom:(at_+new.length)*s≤arr.size) :
 Le σ (σ.write n (at_*s) vs (.cells (es.take at_++new++es.drop (at_+new.length)) s fz))∧SR (σ.write n (at_*s) vs (.cells (es.take at_++new++es.drop (at_+new.length)) s fz)):=by
 have hfl:=flatten_length hes
 have hnl:=flatten_length hall
 have hvl:=hv.length
 rw [Nat.add_mul] at hroom
 refine write_own sr hn hv ?_ (by rw [hfl];exact Nat.mul_le_mul_right s hat) (Nat.mul_le_mul_right s hfz) (by simp;omega) (fun e he=>?_) hw (by rw [hvl,hnl];exact hroom)
 ·rw [List.flatten_append,List.flatten_append,flatten_take at_ hes,flatten_drop _ hes,hnl,Nat.add_mul]
 ·simp only [List.mem_append] at he
  rcases he with (he | he) | he
  ·exact hes e (List.mem_of_mem_take he)
  ·exact hall e he
  ·exact hes e (List.mem_of_mem_drop he)
theorem size_arrSet:∀(vs:List Value) (arr:Array Value) (o:Nat),(arrSet arr o vs).size=arr.size
 |[],_,_=>rfl
 |v::r,arr,o=>by rw [arrSet,size_arrSet r];simp
theorem upd_upd {α:Type} (f:Nat→α) (n:Nat) (a b:α):upd (upd f n a) n b=upd f n b:=by
 funext m
 unfold upd
 split<;>rfl
theorem desc65:∃de,tabT Tryz.prog 65=some de∧de.size=29∧de.bytes≤1000:=by
 have h:(tabT Tryz.prog 65).map (fun d=>(Nat.beq d.size 29,Nat.ble d.bytes 1000))=some (true,true):=by kernel_rfl
 cases hd:tabT Tryz.prog 65 with
 |none=>rw [hd] at h;cases h
 |some de=>
  rw [hd] at h
  simp only [Option.map_some,Option.some.injEq,Prod.mk.injEq] at h
  exact ⟨de,rfl,Nat.eq_of_beq_eq_true h.1,Nat.le_of_ble_eq_true h.2⟩
theorem under65:∃ux,Tryz.prog.underlying 22=some ux∧notInt ux:=⟨_,Tryz.underlying22,trivial⟩
def InsPost (σ:Sg) (n g:Nat) (new:List (List AV)) (fz:Nat) (e:Ending) (w':World):Prop:=
 ∃σ' x,e=.returned x∧σ'.w=w'∧σ'.h=upd σ.h n (some (.cells new 29 fz))∧σ'.dead=σ.dead∧Le σ σ'∧SR σ'∧VR σ' (.sl n (g+1) 0 (g+1) none) x
section
variable {n m g i fz fzm:Nat} {es ys:List (List AV)} {mc:Option Nat} {sv vv:Value}
theorem ins_end (sr:SR σ) {st:Nat} (hst:Fresh σ st) (hs:VR σ (.sl n g 0 g none) sv) (hv:VR σ (.sl m 1 0 1 mc) vv) (hn:σ.h n=some (.cells es 29 fz)) (hm:σ.h m=some (.cells ys 29 fzm))
 (hg:es.length=g) (hy:ys.length=1) (hfz:fz≤g) (hbig:g≤1000000) (hsy:ys.all (·.all AV.storable)=true) :
 Calls Tryz.prog 211 #[sv,.int .i64 g,vv] σ.w (InsPost σ n g (es++ys) fz):=by
 obtain ⟨de,hde,hsz,hby⟩:=desc65
 obtain ⟨c,arr,t,rg,rfl,hw,_,hr,hle,hcap⟩:=hs.sl_inv sr hn hg
 obtain ⟨vc,varr,vt,vrg,rfl,vw,_,vr,vle,vcap⟩:=hv.sl_inv sr hm hy
 have hroom:roomOk de.bytes (g+1)=true:=by
  simp only [roomOk,Bool.and_eq_true,decide_eq_true_eq]
  have:(2*(g+1)+192)*de.bytes≤(2*(1000000+1)+192)*1000:=Nat.mul_le_mul (by omega) hby
  omega
 let H:Heap:=⟨[(n,.cells es 29 fz),(m,.cells ys 29 fzm)],0⟩
 have hHn:look H.objs n=some (.cells es 29 fz):=by simp [H,look]
 have hHm:look H.objs m=σ.h m:=by
  by_cases e:n=m
  ·subst e;rw [hHn,hn]
  ·rw [hm];simp [H,look,e]
 have hya:∀e∈ys,e.length=29:=by
  obtain ⟨_,_,_,_,_,_,_,_,q4,_⟩:=sr.obj m _ hm
  exact q4
 have hsh:shown H 29 (.sl m 1 0 1 mc)=some (ys,[m]):=by
  unfold shown
  simp only [hHm,hm]
  rw [if_pos ⟨hy,trivial,by omega⟩,List.drop_zero,List.take_of_length_le (by omega)]
 obtain ⟨⟨vs,hS⟩,_⟩:=shown_src (P:=Tryz.prog) sr hv hsh (fun k hk=>by
  rcases List.mem_singleton.1 hk with rfl
  exact hHm)
 have hap:appendA H st de (.sl n g 0 g none) ys [m]=some ⟨.sl n (g+1) 0 (g+1) none,.loc (n::[m]) [(n,.cells (es++ys) 29 fz)] 0⟩:=by
  unfold appendA
  simp only [hHn]
  rw [if_neg (by omega),if_pos ⟨hg,hsz.symm,by omega⟩]
  rw [if_neg (by omega),if_pos ⟨trivial,trivial,hfz,by rw [hy];exact hroom,hsy⟩,hy]
 rw [←hsz] at hS
 obtain ⟨ux,hux,hni⟩:=under65
 obtain ⟨rd',ups,nw,he,hh⟩:=append_ok (tabT_ok Tryz.prog) sr hst hde (t:=22) (xt:=22) (ts:=#[22,22]) rfl rfl Tryz.underlying22 hux hni 22 hs hS hap (fun rd ups news e k hk=>by
  cases e
  rcases List.mem_cons.1 hk with rfl | hk
  ·rw [hHn,hn]
  ·rcases List.mem_singleton.1 hk with rfl
   exact hHm) (fun k hk=>by
  rcases List.mem_singleton.1 hk with rfl
  exact hHm)
 cases he
 rcases hh with ⟨m',o,hup,_,_,σ',x,hrun,w2,w3,l,sr',hx⟩ | ⟨hup,_⟩
 ·cases hup
  simp only [Nat.zero_mul] at hrun ⊢
  refine (insert_end (σ.r n) g c (σ.r m) vc σ.w σ'.w x hrun).mono ?_
  rintro e w' ⟨rfl,rfl⟩
  exact ⟨σ',x,rfl,rfl,w2,w3,l,sr',hx⟩
 ·cases hup
theorem ov29 {w:World} {vb b vc:Nat} (hne:vb≠b) {varr:Array Value} {vt:TypeId} {vrg:Nat×Nat} (vw:w.heap[vb]?=some (.cells varr vt vrg)) (hvrg:∀off,off≤varr.size→¬(vrg.1≤off∧off<vrg.2))
 {arr:Array Value} {t:TypeId} {rg:Nat×Nat} (hw:w.heap[b]?=some (.cells arr t rg)) (hpos:arr.size≠0) (o lb cb:Nat) :
 (callFunc 282 #[.slice (some ⟨vb,0,none⟩) 1 vc,.slice (some ⟨b,o,none⟩) lb cb]).run Tryz.prog w=.ok (.value (.bool false)) w:=by
 obtain ⟨de,hde,hsz,_⟩:=desc65
 have De:=tabT_ok Tryz.prog 65 de hde
 have fz:∀off,off≤varr.size→w.frozen? ⟨vb,off,none⟩=false:=fun off ho=>by
  simp only [World.frozen?,vw]
  simpa using fun h1=>Nat.le_of_not_lt fun h2=>hvrg off ho ⟨h1,h2⟩
 rw [run_callFunc_extern Tryz.func282 (by kernel_rfl) (by kernel_rfl) (by kernel_rfl) (e:=Extern.SlicesOverlaps.overlaps #[22,22] #[4]) (by kernel_rfl),
  Lib.run_overlaps_apart w 22 4 65 Tryz.underlying22 de.size (fun w=>De.run_sizeOf w) ⟨vb,0,none⟩ ⟨b,o,none⟩ 1 vc lb cb hne vt t varr.size arr.size (by simp [World.shape?,vw]) (by simp [World.shape?,hw]) hpos (fz 0 (Nat.zero_le _)) (fz _ (Nat.le_refl _))]
 rfl
theorem rows_drop {α:Type} {es:List α} {i:Nat} (h:i<es.length):(es.take (i+1)++es.drop i).take i=es.take i∧(es.take (i+1)++es.drop i).drop (i+1)=es.drop i:=by
 have hl:(es.take (i+1)).length=i+1:=by rw [List.length_take];omega
 constructor
 ·rw [List.take_append_of_le_length (by omega),List.take_take,Nat.min_eq_left (by omega)]
 ·rw [List.drop_append_of_le_length (by omega),List.drop_of_length_le (by omega),List.nil_append]
theorem ins_shift (sr:SR σ) (hs:VR σ (.sl n g 0 g none) sv) (hv:VR σ (.sl m 1 0 1 mc) vv) (hn:σ.h n=some (.cells es 29 fz)) (hm:σ.h m=some (.cells ys 29 fzm)) (hne:m≠n)
 (hg:es.length=g) (hy:ys.length=1) (hi:i<g) (hfz:fz≤i) (hbig:g≤1000000) (hse:es.all (·.all AV.storable)=true) (hsy:ys.all (·.all AV.storable)=true)
 (hroom:∀b c,sv=.slice b g c→g+1≤c) :
 Calls Tryz.prog 211 #[sv,.int .i64 i,vv] σ.w (InsPost σ n g (es.take i++ys++es.drop i) fz):=by
 obtain ⟨de,hde,hsz,_⟩:=desc65
 have De:=tabT_ok Tryz.prog 65 de hde
 have hz:∀w,(sizeOf 65).run Tryz.prog w=.ok 29 w:=fun w=>by rw [De.run_sizeOf w,hsz]
 obtain ⟨c,arr,t,rg,rfl,hw,_,hr,hle,hcap⟩:=hs.sl_inv sr hn hg
 obtain ⟨vc,varr,vt,vrg,rfl,vw,_,vr,vle,vcap⟩:=hv.sl_inv sr hm hy
 have hc:=hroom _ _ rfl
 simp only [Nat.zero_mul,Nat.zero_add] at hr vr ⊢
 obtain ⟨arr',t',rg',full,q1,qj,q2,q3,q4,q5,q6,q7⟩:=sr.obj n _ hn
 rw [hw] at q1;cases q1
 obtain ⟨varr',vt',vrg',vfull,p1,pj,p2,p3,p4,p5,p6,p7⟩:=sr.obj m _ hm
 rw [vw] at p1;cases p1
 have hbb:σ.r m≠σ.r n:=fun e=>hne (sr.inj m n _ _ hm hn e)
 have hfl:=flatten_length q4
 have hfull:=q3.length
 have hyl:=flatten_length p4
 have hvl:=p3.length
 have hdl:(full.drop (i*29)).length=(g-i)*29:=by rw [List.length_drop,hfull,hfl,hg,Nat.sub_mul]
 have hcs:(g+1)*29≤arr.size:=Nat.le_trans (Nat.mul_le_mul_right 29 hc) hr
 have honeF:∀v∈full.drop (i*29),v.oneCell'=true:=fun v hv=>storables_vr q3 (by
  rw [List.all_eq_true]
  intro x hx
  obtain ⟨e,he,hxe⟩:=List.mem_flatten.1 hx
  exact (List.all_eq_true.1 ((List.all_eq_true.1 hse) e he)) x hxe) v (List.mem_of_mem_drop hv)
 have honeY:∀v∈vfull,v.oneCell'=true:=storables_vr p3 (by
  rw [List.all_eq_true]
  intro x hx
  obtain ⟨e,he,hxe⟩:=List.mem_flatten.1 hx
  exact (List.all_eq_true.1 ((List.all_eq_true.1 hsy) e he)) x hxe)
 have sr0:=sr_drew sr
 have l0:=le_drew σ
 have hvd:VRs σ.drew (es.drop i).flatten (full.drop (i*29)):=by rw [flatten_drop i q4];exact (q3.drop _).mono l0
 obtain ⟨l1,sr1⟩:=write_rows (σ:=σ.drew) sr0 (n:=n) hn q4 hw hvd (fun e he=>q4 e (List.mem_of_mem_drop he)) (at_:=i+1) (by omega) (by omega) (by rw [List.length_drop,hg,show i+1+(g-i)=g+1 by omega];exact hcs)
 have hcp1:∀ty dc sc,(Builtin.copy_ #[22,22] ty #[.slice (some ⟨σ.r n,(i+1)*29,none⟩) (g-i) dc,.slice (some ⟨σ.r n,i*29,none⟩) (g+1-i) sc]).run Tryz.prog σ.w.drew=.ok (goInt ((g:Int)-(i:Int))) (σ.w.drew.setCells (σ.r n) ((i+1)*29) (full.drop (i*29))):=fun ty dc sc=>by
  have:=run_copy_raw (P:=Tryz.prog) Tryz.underlying22 hz ty (ts:=#[22,22]) rfl (w:=σ.w.drew) (dB:=σ.r n) (dO:=(i+1)*29) (dl:=g-i) (dc:=dc) (sB:=σ.r n) (sO:=i*29) (sl:=g+1-i) (sc:=sc) (k:=g-i) (by omega) hdl
   (fun j v hj=>by
     rw [List.getElem?_drop] at hj
     show σ.w.cell? _=_
     rw [cell_of_heap hw]
     exact q6 _ _ hj) hw q2 (by rw [hdl];omega) honeF
  rwa [show ((g-i:Nat):Int)=(g:Int)-(i:Int) by omega] at this
 obtain ⟨σ1,hσ1⟩:∃σ1,σ1=σ.drew.write n ((i+1)*29) (full.drop (i*29)) (.cells (es.take (i+1)++es.drop i++es.drop (i+1+(es.drop i).length)) 29 fz):=⟨_,rfl⟩
 rw [←hσ1] at l1 sr1
 have e1:es.take (i+1)++es.drop i++es.drop (i+1+(es.drop i).length)=es.take (i+1)++es.drop i:=by
  have hz0:es.drop (i+1+(es.drop i).length)=[]:=List.drop_of_length_le (by rw [List.length_drop];omega)
  rw [hz0,List.append_nil]
 have w1:σ1.w=σ.w.drew.setCells (σ.r n) ((i+1)*29) (full.drop (i*29)):=by rw [hσ1];rfl
 have r1:σ1.r=σ.r:=by rw [hσ1];rfl
 have h1:σ1.h=upd σ.h n (some (.cells (es.take (i+1)++es.drop i) 29 fz)):=by rw [hσ1,e1];rfl
 have d1:σ1.dead=σ.dead:=by rw [hσ1];rfl
 have hn1:σ1.h n=some (.cells (es.take (i+1)++es.drop i) 29 fz):=by rw [h1];exact upd_same _ _ _
 have b1:σ1.w.heap[σ1.r n]?=some (.cells (arrSet arr ((i+1)*29) (full.drop (i*29))) t rg):=by rw [w1,r1];exact heap_setCells _ _ σ.w.drew _ _ _ _ hw
 clear hσ1
 have hs1:=size_arrSet (full.drop (i*29)) arr ((i+1)*29)
 have q41:∀e∈es.take (i+1)++es.drop i,e.length=29:=fun e he=>by
  rcases List.mem_append.1 he with he | he
  ·exact q4 e (List.mem_of_mem_take he)
  ·exact q4 e (List.mem_of_mem_drop he)
 have len1:(es.take (i+1)++es.drop i).length=g+1:=by rw [List.length_append,List.length_take,List.length_drop];omega
 have hvy:VRs σ1 ys.flatten vfull:=(p3.mono l0).mono l1
 obtain ⟨l2,sr2⟩:=write_rows (σ:=σ1) sr1 (n:=n) hn1 q41 b1 hvy p4 (at_:=i) (by omega) hfz (by rw [hs1,hy];omega)
 have hcp2:∀ty dc,(Builtin.copy_ #[22,22] ty #[.slice (some ⟨σ.r n,i*29,none⟩) (g+1-i) dc,.slice (some ⟨σ.r m,0,none⟩) 1 vc]).run Tryz.prog σ1.w=.ok (goInt 1) (σ1.w.setCells (σ1.r n) (i*29) vfull):=fun ty dc=>by
  have hb:=b1
  rw [r1] at hb ⊢
  exact run_copy_raw (P:=Tryz.prog) Tryz.underlying22 hz ty (ts:=#[22,22]) rfl (w:=σ1.w) (dB:=σ.r n) (dO:=i*29) (dl:=g+1-i) (dc:=dc) (sB:=σ.r m) (sO:=0) (sl:=1) (sc:=vc) (k:=1) (by omega) (by rw [hvl,hyl,hy])
   (fun j v hj=>by
     rw [w1,cell_same (heap_setCells_ne _ _ _ _ _ hbb)]
     show σ.w.cell? _=_
     rw [cell_of_heap vw,Nat.zero_add]
     exact p6 _ _ hj) hb (by rw [hs1];exact q2) (by rw [hs1,hvl,hyl,hy];omega) honeY
 obtain ⟨tk,dp⟩:=rows_drop (es:=es) (i:=i) (by omega)
 rw [hy,tk,dp] at l2 sr2
 have hpos:arr.size≠0:=by omega
 rw [←w1] at hcp1
 refine (insert_shift (σ.r n) g c i (σ.r m) vc σ.w σ1.w _ hi hc hbig (ov29 hbb vw p2 hw hpos) hcp1 hcp2).mono ?_
 rintro e w' ⟨rfl,rfl⟩
 refine ⟨σ1.write n (i*29) vfull (.cells (es.take i++ys++es.drop i) 29 fz),_,rfl,rfl,?_,d1,(l0.trans sr0 l1 sr1).trans sr1 l2 sr2,sr2,?_⟩
 ·show upd σ1.h n _=_
  rw [h1,upd_upd]
 ·have b2:(σ1.write n (i*29) vfull (.cells (es.take i++ys++es.drop i) 29 fz)).w.heap[(σ1.write n (i*29) vfull (.cells (es.take i++ys++es.drop i) 29 fz)).r n]?=some (.cells (arrSet (arrSet arr ((i+1)*29) (full.drop (i*29))) (i*29) vfull) t rg):=heap_setCells _ _ _ _ _ _ _ b1
  have len2:(es.take i++ys++es.drop i).length=g+1:=by rw [List.length_append,List.length_append,List.length_take,List.length_drop,hy];omega
  have:=VR.sl (σ:=σ1.write n (i*29) vfull (.cells (es.take i++ys++es.drop i) 29 fz)) (n:=n) (off:=0) (len:=g+1) (cap':=c) (cap:=none) (upd_same _ _ _) b2 (by omega) (by rw [size_arrSet,hs1,Nat.zero_add];exact hr) hc ⟨fun _ h=>(by cases h),fun _=>by omega⟩
  rw [len2] at this
  simpa [Sg.write,r1] using this
theorem ins_grow (sr:SR σ) (hs:VR σ (.sl n g 0 g none) sv) (hv:VR σ (.sl m 1 0 1 mc) vv) (hn:σ.h n=some (.cells es 29 fz)) (hm:σ.h m=some (.cells ys 29 fzm)) (hne:m≠n)
 (hg:es.length=g) (hy:ys.length=1) (hi:i<g) (hfz:fz≤i) (hbig:g≤1000000) (hse:es.all (·.all AV.storable)=true) (hsy:ys.all (·.all AV.storable)=true)
 (hroom:∀b c,sv=.slice b g c→c<g+1) :
 Calls Tryz.prog 211 #[sv,.int .i64 i,vv] σ.w (InsPost σ n g (es.take i++ys++es.drop i) fz):=by
 obtain ⟨de,hde,hsz,hby⟩:=desc65
 have De:=tabT_ok Tryz.prog 65 de hde
 have hz:∀w,(sizeOf 65).run Tryz.prog w=.ok 29 w:=fun w=>by rw [De.run_sizeOf w,hsz]
 obtain ⟨c,arr,t,rg,rfl,hw,_,hr,hle,hcap⟩:=hs.sl_inv sr hn hg
 obtain ⟨vc,varr,vt,vrg,rfl,vw,_,vr,vle,vcap⟩:=hv.sl_inv sr hm hy
 have hc:=hroom _ _ rfl
 have hcg:c=g:=by omega
 subst hcg
 simp only [Nat.zero_mul,Nat.zero_add] at hr vr ⊢
 obtain ⟨arr',t',rg',full,q1,qj,q2,q3,q4,q5,q6,q7⟩:=sr.obj n _ hn
 rw [hw] at q1;cases q1
 obtain ⟨varr',vt',vrg',vfull,p1,pj,p2,p3,p4,p5,p6,p7⟩:=sr.obj m _ hm
 rw [vw] at p1;cases p1
 have hfl:=flatten_length q4
 have hfull:=q3.length
 have hyl:=flatten_length p4
 have hvl:=p3.length
 have hdl:(full.drop (i*29)).length=(c-i)*29:=by rw [List.length_drop,hfull,hfl,hg,Nat.sub_mul]
 have honeF:∀v∈full.drop (i*29),v.oneCell'=true:=fun v hv=>storables_vr q3 (by
  rw [List.all_eq_true]
  intro x hx
  obtain ⟨e,he,hxe⟩:=List.mem_flatten.1 hx
  exact (List.all_eq_true.1 ((List.all_eq_true.1 hse) e he)) x hxe) v (List.mem_of_mem_drop hv)
 have honeY:∀v∈vfull,v.oneCell'=true:=storables_vr p3 (by
  rw [List.all_eq_true]
  intro x hx
  obtain ⟨e,he,hxe⟩:=List.mem_flatten.1 hx
  exact (List.all_eq_true.1 ((List.all_eq_true.1 hsy) e he)) x hxe)
 have hbw:σ.r n<σ.w.heap.size:=(Array.getElem?_eq_some_iff.1 hw).1
 have hvw:σ.r m<σ.w.heap.size:=(Array.getElem?_eq_some_iff.1 vw).1
 obtain ⟨i0,z,hi0,hisz,hib,hz0,hzc,_,_⟩:=De.info
 rw [hsz] at hisz
 have zl29:de.zero.length=29:=by rw [De.zlen,hsz]
 have zcl:z.cells.size=29:=by rw [←Array.length_toList,hzc,zl29]
 have hzk:∀k,(Builtin.zeroCells z.cells k)=(List.replicate k de.zero).flatten.toArray:=fun k=>by
  apply Array.ext'
  rw [Builtin.zeroCells,Array.toList_map,Array.toList_range]
  have:=range_repeat (s:=29) z.cells.toList (by rw [hzc,zl29]) k
  rw [show z.cells.toList.toArray=z.cells from Array.toArray_toList,hzc] at this
  rw [zcl,List.toList_toArray]
  rw [zcl] at this
  exact this
 have hb2:(2*(c+1)+192)*i0.bytes≤(2*(1000000+1)+192)*1000:=Nat.mul_le_mul (by omega) (by rw [hib];exact hby)
 have hb3:(c+1-i)*i0.bytes≤(1000000+1)*1000:=Nat.mul_le_mul (by omega) (by rw [hib];exact hby)
 have hold:(Builtin.firstCells i0.size i (.slice (some ⟨σ.r n,0,none⟩) i c)).run Tryz.prog σ.w.drew=.ok (full.take (i*29)).toArray σ.w.drew:=by
  rw [hisz]
  refine run_firstCells_some σ.w.drew 29 i ⟨σ.r n,0,none⟩ i c (full.take (i*29)) (by rw [List.length_take,hfull,hfl,hg];omega) (fun j v hj=>?_)
  rw [Addr.add_lit,Nat.zero_add]
  rw [List.getElem?_take] at hj
  split at hj
  ·show σ.w.cell? _=_
   rw [cell_of_heap hw]
   exact q6 _ _ hj
  ·cases hj
 have happ:=Lib.run_append_grow_zeros (P:=Tryz.prog) σ.w 22 3 22 65 i0 z .i64 .i64 Tryz.underlying22 Tryz.underlying3 hi0 hz0 (some ⟨σ.r n,0,none⟩) i c (full.take (i*29)) hold (c+1-i) (by omega) (by omega) (by omega) (by omega) (by omega)
  (by rw [show i+(c+1-i)=c+1 by omega];exact Nat.le_trans (Nat.mul_le_mul_right _ (nextcap_le (by omega))) (by omega))
 rw [show i+(c+1-i)=c+1 by omega,hzk,hzk,show ((c+1-i:Nat):Int)=(c:Int)+1-(i:Int) by omega] at happ
 obtain ⟨G,hG⟩:∃G,G=grownCap σ.w (c+1) c 65:=⟨_,rfl⟩
 have hGn:c+1≤G:=by rw [hG];exact grownCap_ge _ _ _ _
 rw [←hG] at happ
 obtain ⟨Z,hZ⟩:∃Z:List (List AV),Z=List.replicate (c+1-i) (de.zero.map AV.sc):=⟨_,rfl⟩
 have hZl:Z.length=c+1-i:=by rw [hZ,List.length_replicate]
 have hZa:∀e∈Z,e.length=29:=fun e he=>by rw [hZ] at he;rw [List.eq_of_mem_replicate he,List.length_map,zl29]
 have hZv:VRs σ Z.flatten (List.replicate (c+1-i) de.zero).flatten:=by rw [hZ];exact replicate_vr De.zsc _
 have q41:∀e∈es.take i++Z,e.length=29:=fun e he=>by
  rcases List.mem_append.1 he with he | he
  ·exact q4 e (List.mem_of_mem_take he)
  ·exact hZa e he
 have len1:(es.take i++Z).length=c+1:=by rw [List.length_append,List.length_take,hZl];omega
 have hv1:VRs σ (es.take i++Z).flatten (full.take (i*29)++(List.replicate (c+1-i) de.zero).flatten):=by
  rw [List.flatten_append,flatten_take i q4]
  exact (q3.take _).append hZv
 obtain ⟨σ1,w1,h1,d1,l1,sr1,x1⟩:=grown_ok (σ:=σ) sr (sr.alive n _ hn) (es:=es.take i++Z) (s:=29) (.inr ⟨es,fz,hn,by omega⟩) (fz:=fz) (t:=65) hv1 q41 (tail:=(List.replicate (G-(c+1)) de.zero).flatten.toArray) (cap:=G) (by omega)
  (by rw [len1];simp [zl29])
 rw [List.append_toArray] at w1
 rw [List.append_toArray,List.append_toArray] at happ
 rw [←w1] at happ
 rw [len1] at x1
 have hn1:σ1.h n=some (.cells (es.take i++Z) 29 fz):=by rw [h1];exact upd_same _ _ _
 obtain ⟨G',arr1,t1,rg1,ev,b1,_,hr1,_,_⟩:=x1.sl_inv sr1 hn1 len1
 simp only [Nat.zero_mul,Nat.zero_add,Value.slice.injEq,Option.some.injEq,Addr.mk.injEq,and_true,true_and] at ev
 obtain ⟨r1,rfl⟩:=ev
 obtain ⟨arr1',t1',rg1',full1,s1,_,s2,_⟩:=sr1.obj n _ hn1
 rw [b1] at s1;cases s1
 simp only [Nat.zero_add] at hr1
 have hroom1:(c+1)*29≤arr1.size:=Nat.le_trans (Nat.mul_le_mul_right 29 hGn) hr1
 have keep1:∀b o,b<σ.w.heap.size→σ1.w.cell? ⟨b,o,none⟩=σ.w.cell? ⟨b,o,none⟩:=fun b o hb=>by
  rw [w1,cell_same (heap_alloc_lt σ.w.drew _ hb)]
  rfl
 have hvy:VRs σ1 ys.flatten vfull:=p3.mono l1
 obtain ⟨l2,sr2⟩:=write_rows (σ:=σ1) sr1 (n:=n) hn1 q41 b1 hvy p4 (at_:=i) (by omega) hfz (by rw [hy];omega)
 have tk:(es.take i++Z).take i=es.take i:=by
  rw [List.take_append_of_le_length (by rw [List.length_take];omega),List.take_take,Nat.min_self]
 have hti:(es.take i).length=i:=by rw [List.length_take];omega
 have dp:(es.take i++Z).drop (i+1)=Z.drop 1:=by
  rw [List.drop_append,List.drop_of_length_le (by omega),List.nil_append,hti,show i+1-i=1 by omega]
 rw [hy,tk,dp] at l2 sr2
 have hcp1:∀ty dc,(Builtin.copy_ #[22,22] ty #[.slice (some ⟨σ.w.heap.size,i*29,none⟩) (c+1-i) dc,.slice (some ⟨σ.r m,0,none⟩) 1 vc]).run Tryz.prog σ1.w=.ok (goInt 1) (σ1.w.setCells (σ1.r n) (i*29) vfull):=fun ty dc=>by
  rw [←r1] at b1 ⊢
  exact run_copy_raw (P:=Tryz.prog) Tryz.underlying22 hz ty (ts:=#[22,22]) rfl (w:=σ1.w) (dB:=σ.w.heap.size) (dO:=i*29) (dl:=c+1-i) (dc:=dc) (sB:=σ.r m) (sO:=0) (sl:=1) (sc:=vc) (k:=1) (by omega) (by rw [hvl,hyl,hy])
   (fun j v hj=>by
     rw [keep1 _ _ hvw,cell_of_heap vw,Nat.zero_add]
     exact p6 _ _ hj) b1 s2 (by rw [hvl,hyl,hy];omega) honeY
 obtain ⟨σ2,hσ2⟩:∃σ2,σ2=σ1.write n (i*29) vfull (.cells (es.take i++ys++Z.drop 1) 29 fz):=⟨_,rfl⟩
 rw [←hσ2] at l2 sr2
 have w2:σ2.w=σ1.w.setCells (σ1.r n) (i*29) vfull:=by rw [hσ2];rfl
 have r2:σ2.r=σ1.r:=by rw [hσ2];rfl
 have h2:σ2.h=upd σ.h n (some (.cells (es.take i++ys++Z.drop 1) 29 fz)):=by rw [hσ2];show upd σ1.h n _=_;rw [h1,upd_upd]
 have d2:σ2.dead=σ.dead:=by rw [hσ2];exact d1
 have hn2:σ2.h n=some (.cells (es.take i++ys++Z.drop 1) 29 fz):=by rw [h2];exact upd_same _ _ _
 have b2:σ2.w.heap[σ2.r n]?=some (.cells (arrSet arr1 (i*29) vfull) t1 rg1):=by rw [w2,r2];exact heap_setCells _ _ _ _ _ _ _ b1
 clear hσ2
 have hs2:=size_arrSet vfull arr1 (i*29)
 have q42:∀e∈es.take i++ys++Z.drop 1,e.length=29:=fun e he=>by
  simp only [List.mem_append] at he
  rcases he with (he | he) | he
  ·exact q4 e (List.mem_of_mem_take he)
  ·exact p4 e he
  ·exact hZa e (List.mem_of_mem_drop he)
 have len2:(es.take i++ys++Z.drop 1).length=c+1:=by rw [List.length_append,List.length_append,hti,hy,List.length_drop,hZl];omega
 have sr20:=sr_drew sr2
 have l20:=le_drew σ2
 have hvd:VRs σ2.drew (es.drop i).flatten (full.drop (i*29)):=by rw [flatten_drop i q4];exact (((q3.drop _).mono l1).mono l2).mono l20
 obtain ⟨l3,sr3⟩:=write_rows (σ:=σ2.drew) sr20 (n:=n) hn2 q42 b2 hvd (fun e he=>q4 e (List.mem_of_mem_drop he)) (at_:=i+1) (by omega) (by omega) (by rw [hs2,List.length_drop,hg,show i+1+(c-i)=c+1 by omega];exact hroom1)
 have tk2:(es.take i++ys++Z.drop 1).take (i+1)=es.take i++ys:=by
  rw [List.take_append_of_le_length (by rw [List.length_append];omega),List.take_of_length_le (by rw [List.length_append];omega)]
 have dp2:(es.take i++ys++Z.drop 1).drop (i+1+(es.drop i).length)=[]:=List.drop_of_length_le (by rw [len2,List.length_drop];omega)
 rw [tk2,dp2,List.append_nil] at l3 sr3
 have hcp2:∀ty dc sc,(Builtin.copy_ #[22,22] ty #[.slice (some ⟨σ.w.heap.size,(i+1)*29,none⟩) (c-i) dc,.slice (some ⟨σ.r n,i*29,none⟩) (c-i) sc]).run Tryz.prog σ2.w.drew=.ok (goInt ((c:Int)-(i:Int))) (σ2.w.drew.setCells σ.w.heap.size ((i+1)*29) (full.drop (i*29))):=fun ty dc sc=>by
  have hb:=b2
  rw [r2,←r1] at hb
  have:=run_copy_raw (P:=Tryz.prog) Tryz.underlying22 hz ty (ts:=#[22,22]) rfl (w:=σ2.w.drew) (dB:=σ.w.heap.size) (dO:=(i+1)*29) (dl:=c-i) (dc:=dc) (sB:=σ.r n) (sO:=i*29) (sl:=c-i) (sc:=sc) (k:=c-i) (by omega) hdl
   (fun j v hj=>by
     rw [List.getElem?_drop] at hj
     show σ2.w.cell? _=_
     rw [w2,←r1,cell_same (heap_setCells_ne _ _ _ _ _ (by omega)),keep1 _ _ hbw,cell_of_heap hw]
     exact q6 _ _ hj) hb (by rw [hs2];exact s2) (by rw [hs2,hdl];omega) honeF
  rwa [show ((c-i:Nat):Int)=(c:Int)-(i:Int) by omega] at this
 rw [←w2] at hcp1
 refine (insert_grow (σ.r n) c c i σ.w.heap.size G (σ.r m) vc σ.w σ1.w σ2.w _ hi (Nat.le_refl _) (by omega) hbig hGn happ hcp1 hcp2).mono ?_
 rintro e w' ⟨rfl,rfl⟩
 refine ⟨σ2.drew.write n ((i+1)*29) (full.drop (i*29)) (.cells (es.take i++ys++es.drop i) 29 fz),_,rfl,?_,?_,d2,((l1.trans sr1 l2 sr2).trans sr2 l20 sr20).trans sr20 l3 sr3,sr3,?_⟩
 ·show σ2.w.drew.setCells (σ2.r n) _ _=_
  rw [r2,←r1]
 ·show upd σ2.h n _=_
  rw [h2,upd_upd]
 ·have b3:(σ2.drew.write n ((i+1)*29) (full.drop (i*29)) (.cells (es.take i++ys++es.drop i) 29 fz)).w.heap[(σ2.drew.write n ((i+1)*29) (full.drop (i*29)) (.cells (es.take i++ys++es.drop i) 29 fz)).r n]?=some (.cells (arrSet (arrSet arr1 (i*29) vfull) ((i+1)*29) (full.drop (i*29))) t1 rg1):=heap_setCells _ _ _ _ _ _ _ b2
  have len3:(es.take i++ys++es.drop i).length=c+1:=by rw [List.length_append,List.length_append,hti,List.length_drop,hy];omega
  have:=VR.sl (σ:=σ2.drew.write n ((i+1)*29) (full.drop (i*29)) (.cells (es.take i++ys++es.drop i) 29 fz)) (n:=n) (off:=0) (len:=c+1) (cap':=G) (cap:=none) (upd_same _ _ _) b3 (by omega) (by rw [size_arrSet,hs2,Nat.zero_add];exact hr1) hGn ⟨fun _ h=>(by cases h),fun _=>by omega⟩
  rw [len3] at this
  simpa [Sg.write,Sg.drew,r2,←r1] using this
set_option maxRecDepth 100000 in
theorem valid_insert {H:Heap} (hn:look H.objs n=some (.cells es 29 fz)) (hm:look H.objs m=some (.cells ys 29 fzm)) (hne:m≠n)
 (hg:es.length=g) (hy:ys.length=1) (hi:i≤g) (hfz:fz≤i) (hbig:g≤1000000) (hse:es.all (·.all AV.storable)=true) (hsy:ys.all (·.all AV.storable)=true) :
 Valid2 Tryz.prog 211 [.sl n g 0 g none,.sc (.int .i64 i),.sl m 1 0 1 mc] H (.ret (.sl n (g+1) 0 (g+1) none)) ⟨put H.objs n (.cells (es.take i++ys++es.drop i) 29 fz),H.next⟩:=by
 refine ⟨⟨_,Tryz.func211,rfl,by kernel_rfl⟩,?_⟩
 intro σ vs sr hσ hfr hv
 have hn':σ.h n=some (.cells es 29 fz):=by rw [hσ];exact hn
 have hm':σ.h m=some (.cells ys 29 fzm):=by rw [hσ];exact hm
 cases hv with
 |cons h1 hv=>
 cases hv with
 |cons h2 hv=>
 cases hv with
 |cons h3 hv=>
 cases hv
 rename_i sv iv vv
 obtain ⟨rfl,_⟩:=h2.sc_inv
 have key:Calls Tryz.prog 211 #[sv,.int .i64 i,vv] σ.w (InsPost σ n g (es.take i++ys++es.drop i) fz):=by
  by_cases hig:i=g
  ·subst hig
   rw [List.take_of_length_le (by omega),List.drop_of_length_le (by omega),List.append_nil]
   exact ins_end sr (hfr H.next (Nat.le_refl _)) h1 h3 hn' hm' hg hy hfz hbig hsy
  ·obtain ⟨c,arr,t,rg,rfl,_⟩:=h1.sl_inv sr hn' hg
   by_cases hc:g+1≤c
   ·exact ins_shift sr h1 h3 hn' hm' hne hg hy (by omega) hfz hbig hse hsy (fun b c' e=>by cases e;exact hc)
   ·exact ins_grow sr h1 h3 hn' hm' hne hg hy (by omega) hfz hbig hse hsy (fun b c' e=>by cases e;omega)
 refine key.mono ?_
 rintro e w' ⟨σ',x,rfl,hw,hh,hd,l,sr',hx⟩
 refine ⟨σ',hw,?_,l,sr',Nat.le_refl _,fun k hk=>.inl (.inr (by rw [←hd];exact hk)),fun k hk=>?_,hx⟩
 ·rw [hh,hσ]
  funext k
  simp only [look_put,upd]
  by_cases e:k=n
  ·subst e;simp
  ·rw [if_neg e,if_neg (fun q=>e q.symm)]
 ·obtain ⟨q1,q2⟩:=hfr k hk
  refine ⟨?_,by rw [hd];exact q2⟩
  rw [hh]
  unfold upd
  split
  ·rename_i e;subst e;rw [hn'] at q1;cases q1
  ·exact q1
end
end
end Go.Abs
end
section
namespace Go.Abs.RL
open Go.Proofs Go.Proofs.RLP Go.Proofs.RMH
noncomputable section
noncomputable abbrev P:Program:=Tryz.prog
theorem mixed:P.follows .mixedOrders=true:=by kernel_rfl
theorem names : P.funcs.toList.all (fun fn => !(fn.name == "runtime.NumGoroutine")) = true := by kernel_rfl
noncomputable def intsV:List Value→Option (List Int)
 |[]=>some []
 |.int .i64 n::r=>match intsV r with | some l=>some (n::l) | none=>none
 |_=>none
theorem intsV_eq:∀{vs:List Value} {l:List Int},intsV vs=some l→vs=l.map (Value.int .i64)
 |[],l,h=>by cases h;rfl
 |v::r,l,h=>by
  unfold intsV at h
  split at h
  ·rename_i e;cases e
  ·rename_i n r' e
   cases e
   split at h
   ·rename_i l' hl
    cases h
    rw [intsV_eq hl]
    rfl
   ·cases h
  ·cases h
noncomputable def find1 (args:List AV):Option Out:=match args with
 |[.sc (.string s),.sc (.int .u8 b)]=>some (.ret (.sc (.int .i64 (Lib.indexByte s.data.toList b.toNat.toUInt8))))
 |_=>none
noncomputable def sorted1 (args:List AV):Option Out:=match args with
 |[.imp keys _]=>match intsV keys with
  |some l=>bif Nat.ble l.length 1000000 then some (.ret (.isl (i64s (sortI l)) false)) else none
  |none=>none
 |_=>none
noncomputable def caught1 (c1:FuncId→List AV→Option Out) (args:List AV):Option Out:=match args with
 |[.fn (.func g) first caps]=>match c1 g (first++caps) with
  |some (.ret _)=>some (.ret (.sc (.int .i64 0)))
  |some (.pan (.ifc 354 (.agg [.sc (.int .i64 n)])))=>some (.ret (.sc (.int .i64 n)))
  |_=>none
 |_=>none
noncomputable def insert2 (args:List AV) (H:Heap):Option (Out×Heap):=match args with
 |[.sl n g 0 l none,.sc (.int .i64 i),.sl m 1 0 1 _]=>match look H.objs n,look H.objs m with
  |some (.cells es s fz),some (.cells ys s' _)=>
   if m≠n∧es.length=g∧l=g∧ys.length=1∧0≤i∧i.toNat≤g∧fz≤i.toNat∧g≤1000000∧s=29∧s'=29∧es.all (·.all AV.storable)=true∧ys.all (·.all AV.storable)=true then
    some (.ret (.sl n (g+1) 0 (g+1) none),⟨put H.objs n (.cells (es.take i.toNat++ys++es.drop i.toNat) 29 fz),H.next⟩) else none
  |_,_=>none
 |_=>none
theorem valid_fits {a b:ByteArray} (h:asciiB a=true) (hs:a.size≤1000000):Valid P 193 [.sc (.string a),.sc (.string b)] (.ret (.sc (.bool (fitsL a.data.toList b.data.toList)))):=by
 refine ⟨⟨_,Tryz.func193,rfl,by kernel_rfl⟩,?_⟩
 intro w I J vs hI hJ hv
 cases hv with
 |cons h1 hs'=>
 cases hs' with
 |cons h2 hs'=>
 cases hs'
 cases h1
 cases h2
 refine (fits_walk a b w hs h).mono ?_
 rintro e w' ⟨rfl,hb⟩
 exact ⟨hb,I,J,fun _ _ h=>h,fun _ _ h=>.inl h,fun _ h=>h,fun _ h=>.inl h,.sc rfl⟩
theorem valid_pieces {a:ByteArray} (h:asciiB a=true) (hs:a.size≤1000000):Valid P 192 [.sc (.string a)] (.ret (.isl ((cutS a.data.toList []).map fun s=>[.sc (.string s)]) false)):=by
 refine ⟨⟨_,Tryz.func192,rfl,by kernel_rfl⟩,?_⟩
 intro w I J vs hI hJ hv
 cases hv with
 |cons h1 hs'=>
 cases hs'
 cases h1
 refine (pieces_walk a w hs h).mono ?_
 rintro e w' ⟨v,rfl,hrow,hb⟩
 obtain ⟨I',h1,h2,h3⟩:=RM.strs_show (I:=I) (J:=J) (w:=w) hrow (by omega) (RM.cutS_ne _ _)
 exact ⟨hb,I',J,h1,h2,fun _ h=>h,fun _ h=>.inl h,h3⟩
noncomputable def pieces1 (args:List AV):Option Out:=match args with
 |[.sc (.string s)]=>bif asciiB s&&Nat.ble s.size 1000000 then some (.ret (.isl ((cutS s.data.toList []).map fun s=>[.sc (.string s)]) false)) else none
 |_=>none
noncomputable def fits1 (args:List AV):Option Out:=match args with
 |[.sc (.string s),.sc (.string t)]=>bif asciiB s&&Nat.ble s.size 1000000 then some (.ret (.sc (.bool (fitsL s.data.toList t.data.toList)))) else none
 |_=>none
theorem pieces1_ok {args:List AV} {r:Out} (h:pieces1 args=some r):Valid P 192 args r:=by
 unfold pieces1 at h
 split at h
 ·rename_i s
  cases hb:(asciiB s&&Nat.ble s.size 1000000) with
  |true=>
   rw [hb] at h
   cases h
   rw [Bool.and_eq_true] at hb
   exact valid_pieces hb.1 (Nat.le_of_ble_eq_true hb.2)
  |false=>rw [hb] at h;cases h
 ·cases h
theorem fits1_ok {args:List AV} {r:Out} (h:fits1 args=some r):Valid P 193 args r:=by
 unfold fits1 at h
 split at h
 ·rename_i s t
  cases hb:(asciiB s&&Nat.ble s.size 1000000) with
  |true=>
   rw [hb] at h
   cases h
   rw [Bool.and_eq_true] at hb
   exact valid_fits hb.1 (Nat.le_of_ble_eq_true hb.2)
  |false=>rw [hb] at h;cases h
 ·cases h
noncomputable def sp:Abs.Spec where
 s1:=fun f args c1=>bif Nat.beq f 332 then find1 args else bif Nat.beq f 221 then sorted1 args else bif Nat.beq f 291 then caught1 c1 args else bif Nat.beq f 192 then pieces1 args else bif Nat.beq f 193 then fits1 args else none
 s2:=fun f args H c2=>bif Nat.beq f 211 then insert2 args H else none
theorem specs:SpecOK P sp where
 s1:=fun c1 hc f args r h=>by
  simp only [sp] at h
  cases h1:Nat.beq f 332 with
  |true=>
   rw [h1] at h
   cases Nat.eq_of_beq_eq_true h1
   simp only [cond_true,find1] at h
   split at h
   ·cases h;exact valid_find _ _
   ·cases h
  |false=>
   rw [h1] at h
   cases h2:Nat.beq f 221 with
   |true=>
    rw [h2] at h
    cases Nat.eq_of_beq_eq_true h2
    simp only [cond_true,cond_false,sorted1] at h
    split at h
    ·split at h
     ·rename_i l hl
      cases hb:Nat.ble l.length 1000000 with
      |true=>
       rw [hb] at h
       cases h
       rw [intsV_eq hl]
       exact valid_sorted l _ (Nat.le_of_ble_eq_true hb)
      |false=>rw [hb] at h;cases h
     ·cases h
    ·cases h
   |false=>
    rw [h2] at h
    cases h3:Nat.beq f 291 with
    |true=>
     rw [h3] at h
     cases Nat.eq_of_beq_eq_true h3
     simp only [cond_true,cond_false,caught1] at h
     split at h
     ·split at h
      ·rename_i hq
       cases h
       exact valid_decided_ret (hc _ _ _ hq)
      ·rename_i hq
       cases h
       exact valid_decided_pan (hc _ _ _ hq)
      ·cases h
     ·cases h
    |false=>
     rw [h3] at h
     cases h4:Nat.beq f 192 with
     |true=>
      rw [h4] at h
      cases Nat.eq_of_beq_eq_true h4
      exact pieces1_ok h
     |false=>
      rw [h4] at h
      cases h5:Nat.beq f 193 with
      |true=>
       rw [h5] at h
       cases Nat.eq_of_beq_eq_true h5
       exact fits1_ok h
      |false=>rw [h5] at h;cases h
 s2:=fun c2 hc f args H r H' h=>by
  simp only [sp] at h
  cases h1:Nat.beq f 211 with
  |true=>
   rw [h1] at h
   cases Nat.eq_of_beq_eq_true h1
   simp only [cond_true,insert2] at h
   split at h
   ·split at h
    ·rename_i hn hm
     split at h
     ·rename_i hh
      obtain ⟨q1,q2,rfl,q4,q5,q6,q7,q8,rfl,rfl,q11,q12⟩:=hh
      cases h
      obtain ⟨k,rfl⟩:=Int.eq_ofNat_of_zero_le q5
      exact valid_insert hn hm q1 q2 q4 q6 q7 q8 q11 q12
     ·cases h
    ·cases h
   ·cases h
  |false=>rw [h1] at h;cases h
def inl:List FuncId:=[96,169,170,211,224,248,268,269,270,271,272,273,274,275,276,277,278,279,289,290,300,302,304,379,380,381,382,383,394,446,460]
def own:List FuncId:=[210,216,219,220]
end
end Go.Abs.RL
end
section
namespace Go.Abs.RL
noncomputable section
def d0:List AV:=[(.sc (zi 927558889857140174)),(.sc (zs ⟨#[33,114,58,97]⟩)),(.sc (zs ⟨#[64,97,110,110,58,97]⟩)),(.sc (zi 1)),(.sc (.bool true)),(.sc (zs ⟨#[]⟩)),(.sc (zi 0)),(.sc (zi 1)),(.sc nsl),(.sc nsl),(.sc (zs ⟨#[]⟩)),(.sc (zi 0)),(.sc (zi 0)),(.sc (.bool false)),(.sc (zs ⟨#[]⟩)),(.sc nsl),(.sc nsl),(.sc nsl),(.sc nsl),(.sc (zi 0)),(.sc (zi 0)),(.sc (zi 0)),(.sc (zi 0)),(.sc (zi 0)),(.sc (zi 0)),(.sc (zi 0)),(.sc (zi 585502832614925413)),(.sc (zs ⟨#[97]⟩)),(.sc (zi 927558889857140174))]
def d1:List AV:=[(.sc (zi 317257786691537906)),(.sc (zs ⟨#[33,114,58,97]⟩)),(.sc (zs ⟨#[64,97,110,110,58,97]⟩)),(.sc (zi 2)),(.sc (.bool true)),(.sc (zs ⟨#[64,97,110,110,58,97]⟩)),(.sc (zi 0)),(.sc (zi 2)),(.isl (i64s [927558889857140174]) true),(.isl (i64s [927558889857140174]) true),(.sc (zs ⟨#[]⟩)),(.sc (zi 3)),(.sc (zi 0)),(.sc (.bool false)),(.sc (zs ⟨#[]⟩)),(.sc nsl),(.sc nsl),(.sc nsl),(.sc nsl),(.sc (zi 0)),(.sc (zi 0)),(.sc (zi 0)),(.sc (zi 0)),(.sc (zi 0)),(.sc (zi 0)),(.sc (zi 0)),(.sc (zi 4377712874323737347)),(.sc (zs ⟨#[97]⟩)),(.sc (zi 317257786691537906))]
def d2:List AV:=[(.sc (zi 1657885088475754531)),(.sc (zs ⟨#[33,114,58,97]⟩)),(.sc (zs ⟨#[64,97,110,110,58,97]⟩)),(.sc (zi 11)),(.sc (.bool false)),(.sc (zs ⟨#[]⟩)),(.sc (zi 0)),(.sc (zi 3)),(.isl (i64s [317257786691537906]) true),(.isl (i64s [317257786691537906,927558889857140174]) true),(.sc (zs ⟨#[104,105]⟩)),(.sc (zi 0)),(.sc (zi 0)),(.sc (.bool false)),(.sc (zs ⟨#[]⟩)),(.sc nsl),(.sc nsl),(.sc nsl),(.sc nsl),(.sc (zi 0)),(.sc (zi 0)),(.sc (zi 0)),(.sc (zi 0)),(.sc (zi 0)),(.sc (zi 0)),(.sc (zi 0)),(.sc (zi 548046734185950824)),(.sc (zs ⟨#[97]⟩)),(.sc (zi 1657885088475754531))]
def d3:List AV:=[(.sc (zi 1)),(.sc (zs ⟨#[]⟩)),(.sc (zi 927558889857140174))]
def d4:List AV:=[(.sc (zi 0)),(.sc (zi 927558889857140174)),(.sc (zi 4)),(.sc (.bool false))]
def d5:List AV:=[(.sc (zi 1)),(.sc (zi 317257786691537906)),(.sc (zi 4)),(.sc (.bool false))]
def a0:List AV:=[(.agg [(.sc (zs ⟨#[]⟩)),(.sc (zi 0)),(.sc (zi 0)),(.sc (.bool false)),(.sc (zs ⟨#[]⟩)),(.sc nsl),(.sc nsl),(.sc nsl),(.sc nsl),(.sc (zi 0)),(.sc (zi 0)),(.sc (zi 0)),(.sc (zi 0)),(.sc (zi 0)),(.sc (zi 0)),(.sc (zi 0))])]
def r0:Out:=(.ret (.isl (u8s [0,0,0,0,0,0,0,0,0,0,0,0,0,0,0,0]) false))
def a1:List AV:=[(.agg [(.sc (zi 0)),(.sc (zs ⟨#[33,114,58,97]⟩)),(.sc (zs ⟨#[64,97,110,110,58,97]⟩)),(.sc (zi 1)),(.sc (.bool true)),(.sc (zs ⟨#[]⟩)),(.sc (zi 0)),(.sc (zi 1)),(.sc nsl),(.sc nsl),(.sc (zs ⟨#[]⟩)),(.sc (zi 0)),(.sc (zi 0)),(.sc (.bool false)),(.sc (zs ⟨#[]⟩)),(.sc nsl),(.sc nsl),(.sc nsl),(.sc nsl),(.sc (zi 0)),(.sc (zi 0)),(.sc (zi 0)),(.sc (zi 0)),(.sc (zi 0)),(.sc (zi 0)),(.sc (zi 0)),(.sc (zi 585502832614925413)),(.sc (zs ⟨#[]⟩)),(.sc (zi 0))])]
def r1:Out:=(.ret (.isl (u8s [0,8,33,114,58,97,12,64,97,110,110,58,97,2,1,0,0,2,0,0,32,0,0,0,0,0,0,0,0,0,0,0,0,0,0,0,0,202,145,251,143,172,238,143,160,16,0,0]) false))
def a2:List AV:=[(.agg [(.sc (zs ⟨#[]⟩)),(.sc (zi 3)),(.sc (zi 0)),(.sc (.bool false)),(.sc (zs ⟨#[]⟩)),(.sc nsl),(.sc nsl),(.sc nsl),(.sc nsl),(.sc (zi 0)),(.sc (zi 0)),(.sc (zi 0)),(.sc (zi 0)),(.sc (zi 0)),(.sc (zi 0)),(.sc (zi 0))])]
def r2:Out:=(.ret (.isl (u8s [0,6,0,0,0,0,0,0,0,0,0,0,0,0,0,0]) false))
def a3:List AV:=[(.agg [(.sc (zi 0)),(.sc (zs ⟨#[33,114,58,97]⟩)),(.sc (zs ⟨#[64,97,110,110,58,97]⟩)),(.sc (zi 2)),(.sc (.bool true)),(.sc (zs ⟨#[64,97,110,110,58,97]⟩)),(.sc (zi 0)),(.sc (zi 2)),(.isl (i64s [927558889857140174]) true),(.isl (i64s [927558889857140174]) true),(.sc (zs ⟨#[]⟩)),(.sc (zi 3)),(.sc (zi 0)),(.sc (.bool false)),(.sc (zs ⟨#[]⟩)),(.sc nsl),(.sc nsl),(.sc nsl),(.sc nsl),(.sc (zi 0)),(.sc (zi 0)),(.sc (zi 0)),(.sc (zi 0)),(.sc (zi 0)),(.sc (zi 0)),(.sc (zi 0)),(.sc (zi 4377712874323737347)),(.sc (zs ⟨#[]⟩)),(.sc (zi 0))])]
def r3:Out:=(.ret (.isl (u8s [0,8,33,114,58,97,12,64,97,110,110,58,97,4,1,12,64,97,110,110,58,97,0,4,2,156,151,134,163,171,249,172,223,25,2,156,151,134,163,171,249,172,223,25,32,0,6,0,0,0,0,0,0,0,0,0,0,0,0,0,0,134,236,195,171,200,170,225,192,121,0,0]) false))
def a4:List AV:=[(.agg [(.sc (zi 0)),(.sc (zs ⟨#[33,114,58,97]⟩)),(.sc (zs ⟨#[64,97,110,110,58,97]⟩)),(.sc (zi 11)),(.sc (.bool false)),(.sc (zs ⟨#[]⟩)),(.sc (zi 0)),(.sc (zi 3)),(.isl (i64s [317257786691537906]) true),(.isl (i64s [317257786691537906,927558889857140174]) true),(.sc (zs ⟨#[]⟩)),(.sc (zi 0)),(.sc (zi 0)),(.sc (.bool false)),(.sc (zs ⟨#[]⟩)),(.sc nsl),(.sc nsl),(.sc nsl),(.sc nsl),(.sc (zi 0)),(.sc (zi 0)),(.sc (zi 0)),(.sc (zi 0)),(.sc (zi 0)),(.sc (zi 0)),(.sc (zi 0)),(.sc (zi 548046734185950824)),(.sc (zs ⟨#[]⟩)),(.sc (zi 0))])]
def r4:Out:=(.ret (.isl (u8s [0,8,33,114,58,97,12,64,97,110,110,58,97,22,0,0,0,6,2,228,175,206,223,213,145,144,231,8,4,228,175,206,223,213,145,144,231,8,156,151,134,163,171,249,172,223,25,32,0,0,0,0,0,0,0,0,0,0,0,0,0,0,0,0,208,185,187,247,187,230,134,155,15,0,0]) false))
def a5:List AV:=[]
def r5:Out:=(.ret (.tup [(.agg d0),(.agg d1),(.agg d2)]))
def a6:List AV:=[(.sc (zs ⟨#[64,97,110,110,58,97]⟩))]
def r6:Out:=(.ret (.sc (zs ⟨#[97]⟩)))
def a7:List AV:=[(.agg d0)]
def r7:Out:=(.ret (.sc (zi 0)))
def a8:List AV:=[(.agg d0),(.sc nsl)]
def r8:Out:=(.ret (.sc (zi 0)))
def a9:List AV:=[(.isl [d0] false)]
def r9:Out:=(.ret (.ipt [(.imp [(zi 927558889857140174)] [(.sc nsl)]),(.imp [(zi 927558889857140174)] [(.isl [d3] false)]),(.imp [(zi 927558889857140174)] [(.sc (zi 0))])]))
def a10:List AV:=[(.agg d1)]
def r10:Out:=(.ret (.sc (zi 0)))
def a11:List AV:=[(.agg d1)]
def r11:Out:=(.ret (.isl [[(.sc (zi 1)),(.sc (zs ⟨#[]⟩))],[(.sc (zi 2)),(.sc (zs ⟨#[64,97,110,110,58,97]⟩))],[(.sc (zi 3)),(.sc (zs ⟨#[]⟩))],[(.sc (zi 4)),(.sc (zs ⟨#[]⟩))]] false))
def a12:List AV:=[(.isl [d1,d0] false)]
def r12:Out:=(.ret (.ipt [(.imp [(zi 927558889857140174),(zi 317257786691537906)] [(.sc nsl),(.isl [d3] false)]),(.imp [(zi 927558889857140174),(zi 317257786691537906)] [(.isl [d3] false),(.isl [d3,[(.sc (zi 2)),(.sc (zs ⟨#[64,97,110,110,58,97]⟩)),(.sc (zi 317257786691537906))]] false)]),(.imp [(zi 927558889857140174),(zi 317257786691537906)] [(.sc (zi 0)),(.sc (zi 0))])]))
def a13:List AV:=[(.agg d2)]
def r13:Out:=(.ret (.sc (.bool true)))
def a14:List AV:=[(.agg d2)]
def r14:Out:=(.ret (.sc (zi 0)))
def a15:List AV:=[(.isl [d1,d0,d2] false),(.sc (zi 927558889857140174))]
def r15:Out:=(.ret (.tup [(.agg d0),(.sc (.bool true))]))
def a16:List AV:=[(.isl [d1,d0,d2] false)]
def r16:Out:=(.ret (.ipt [(.imp [(zi 927558889857140174),(zi 317257786691537906),(zi 1657885088475754531)] [(.sc nsl),(.isl [d3] false),(.isl [d3,[(.sc (zi 2)),(.sc (zs ⟨#[64,97,110,110,58,97]⟩)),(.sc (zi 317257786691537906))]] false)]),(.imp [(zi 927558889857140174),(zi 317257786691537906),(zi 1657885088475754531)] [(.isl [d3] false),(.isl [d3,[(.sc (zi 2)),(.sc (zs ⟨#[64,97,110,110,58,97]⟩)),(.sc (zi 317257786691537906))]] false),(.isl [d3,[(.sc (zi 2)),(.sc (zs ⟨#[64,97,110,110,58,97]⟩)),(.sc (zi 317257786691537906))]] false)]),(.imp [(zi 927558889857140174),(zi 317257786691537906),(zi 1657885088475754531)] [(.sc (zi 0)),(.sc (zi 0)),(.sc (zi 0))])]))
def a17:List AV:=[(.agg [(.sc (zs ⟨#[33,114,58,97]⟩)),(.isl [d1,d0] false),(.isl [d4,d5] false),(.sc nsl),(.isl (i64s [317257786691537906]) false),(.isl [d3,[(.sc (zi 2)),(.sc (zs ⟨#[64,97,110,110,58,97]⟩)),(.sc (zi 317257786691537906))]] false),(.sc (zi 2)),(.sc nsl),(.sc nsl)]),(.agg d2)]
def r17:Out:=(.ret (.tup [(.agg [(.sc (zs ⟨#[33,114,58,97]⟩)),(.isl [d1,d0,d2] false),(.isl [d4,d5,[(.sc (zi 2)),(.sc (zi 1657885088475754531)),(.sc (zi 4)),(.sc (.bool false))]] false),(.sc nsl),(.isl (i64s [1657885088475754531]) false),(.isl [d3,[(.sc (zi 2)),(.sc (zs ⟨#[64,97,110,110,58,97]⟩)),(.sc (zi 317257786691537906))]] false),(.sc (zi 3)),(.sc nsl),(.sc nsl)]),(.sc (zi 0))]))
def a18:List AV:=[(.agg [(.sc (zs ⟨#[33,114,58,97]⟩)),(.sc nsl),(.sc nsl),(.sc nsl),(.sc nsl),(.sc nsl),(.sc (zi 0)),(.sc nsl),(.sc nsl)]),(.isl [d0,d1,d2] true)]
def r18:Out:=(.ret (.tup [(.agg [(.sc (zs ⟨#[33,114,58,97]⟩)),(.isl [d1,d0,d2] false),(.isl [d4,d5,[(.sc (zi 2)),(.sc (zi 1657885088475754531)),(.sc (zi 4)),(.sc (.bool false))]] false),(.sc nsl),(.isl (i64s [1657885088475754531]) false),(.isl [d3,[(.sc (zi 2)),(.sc (zs ⟨#[64,97,110,110,58,97]⟩)),(.sc (zi 317257786691537906))]] false),(.sc (zi 3)),(.sc nsl),(.sc nsl)]),(.sc (zi 3))]))
def a19:List AV:=[(.agg [(.sc (zs ⟨#[33,114,58,97]⟩)),(.isl [d1,d0,d2] false),(.isl [d4,d5,[(.sc (zi 2)),(.sc (zi 1657885088475754531)),(.sc (zi 4)),(.sc (.bool false))]] false),(.sc nsl),(.isl (i64s [1657885088475754531]) false),(.isl [d3,[(.sc (zi 2)),(.sc (zs ⟨#[64,97,110,110,58,97]⟩)),(.sc (zi 317257786691537906))]] false),(.sc (zi 3)),(.sc nsl),(.sc nsl)]),(.agg d2),(.sc (zs ⟨#[97]⟩))]
def r19:Out:=(.ret (.agg d2))
def a20:List AV:=[(.agg [(.sc (zs ⟨#[33,114,58,97]⟩)),(.isl [d1,d0,d2] false),(.isl [d4,d5,[(.sc (zi 2)),(.sc (zi 1657885088475754531)),(.sc (zi 4)),(.sc (.bool false))]] false),(.sc nsl),(.isl (i64s [1657885088475754531]) false),(.isl [d3,[(.sc (zi 2)),(.sc (zs ⟨#[64,97,110,110,58,97]⟩)),(.sc (zi 317257786691537906))]] false),(.sc (zi 3)),(.sc nsl),(.sc nsl)]),(.sc (zs ⟨#[97]⟩)),(.isl (i64s [1657885088475754531]) true),(.sc nsl),(.sc (zi 10))]
def r20:Out:=(.ret (.isl [d2,d1,d0] false))
def a21:List AV:=[(.agg [(.sc (zs ⟨#[33,114,58,97]⟩)),(.sc nsl),(.sc nsl),(.sc nsl),(.sc nsl),(.sc nsl),(.sc (zi 0)),(.sc nsl),(.sc nsl)]),(.isl [d2,d1,d0] false)]
def r21:Out:=(.ret (.tup [(.agg [(.sc (zs ⟨#[33,114,58,97]⟩)),(.isl [d1,d0,d2] false),(.isl [d4,d5,[(.sc (zi 2)),(.sc (zi 1657885088475754531)),(.sc (zi 4)),(.sc (.bool false))]] false),(.sc nsl),(.isl (i64s [1657885088475754531]) false),(.isl [d3,[(.sc (zi 2)),(.sc (zs ⟨#[64,97,110,110,58,97]⟩)),(.sc (zi 317257786691537906))]] false),(.sc (zi 3)),(.sc nsl),(.sc nsl)]),(.sc (zi 3))]))
def a22:List AV:=[]
def r22:Out:=(.ret (.sc (.bool true)))
end
end Go.Abs.RL
end
section
namespace Go.Abs.RM
open Go.Proofs Go.Deep Go.ChangeShapes Go.WideShapes Go.ChangeAt Go.RowKit
def Sh (W:World) (vs:List WV) (cs:List Value):Prop:=∃xs,PRs vs xs∧TVs W (fun b _=>b<W.heap.size) (fun _=>False) xs cs
theorem prs_app {a b:List WV} {x y:List AV} (h:PRs a x) (k:PRs b y):PRs (a++b) (x++y):=by
 induction a generalizing x with
 |nil=>cases h;exact k
 |cons c a ih=>cases h with | cons h1 h2=>exact .cons h1 (ih h2)
theorem tvs_app {w:World} {I:Nat→Nat→Prop} {J:Nat→Prop} {a b:List AV} {x y:List Value} (h:TVs w I J a x) (k:TVs w I J b y):TVs w I J (a++b) (x++y):=by
 induction a generalizing x with
 |nil=>cases h;exact k
 |cons c a ih=>cases h with | cons h1 h2=>exact .cons h1 (ih h2)
theorem Sh.nil {W:World}:Sh W [] []:=⟨[],.nil,.nil⟩
theorem Sh.app {W:World} {a b:List WV} {x y:List Value} (h:Sh W a x) (k:Sh W b y):Sh W (a++b) (x++y):=by
 obtain ⟨xs,h1,h2⟩:=h
 obtain ⟨ys,k1,k2⟩:=k
 exact ⟨xs++ys,prs_app h1 k1,tvs_app h2 k2⟩
theorem Sh.sc {W:World} {x:Value} (h:scalarB x=true):Sh W [.sc x] [x]:=⟨[.sc x],.cons .sc .nil,.cons (.sc h) .nil⟩
theorem prs_len {a:List WV} {x:List AV} (h:PRs a x):x.length=a.length:=by
 induction a generalizing x with
 |nil=>cases h;rfl
 |cons c a ih=>cases h with | cons h1 h2=>rw [List.length_cons,ih h2];rfl
section
variable {H:Type} (enc:TypeId×Value→H) (W:World) (base:Nat) (held:Bool)
def Rd (t:TypeId) {α:Type} (c:α→List WV) (B:α→Prop):Prop:=∀fuel cs y,DataW.trod enc P W base (fun _=>true) held fuel t cs=some y→∃a,B a∧Sh W (c a) cs
def RdF (N o:Nat) (fs:List Field) {α:Type} (c:α→List WV) (B:α→Prop):Prop:=
 ∀(fuel:Nat) (cs:List Value),cs.length=N→(∀f∈fs,∃y,DataW.trod enc P W base (fun _=>true) held fuel f.type ((cs.drop f.offset).take (P.cellsOf f.type))=some y)→∃a,B a∧Sh W (c a) (cs.drop o)
variable {enc W base held} {α β:Type} {t e:TypeId} {c:α→List WV} {B:α→Prop}
theorem rd_int (ht:P.underlying t=some (.int .i64)):Rd enc W base held t c_i64 (fun _=>True):=fun fuel cs y h=>by
 obtain ⟨n,rfl,_⟩:=DataW.trod_int ht h
 exact ⟨n,trivial,Sh.sc rfl⟩
theorem rd_bool (ht:P.underlying t=some .bool):Rd enc W base held t (fun b:Bool=>[.sc (.bool b)]) (fun _=>True):=fun fuel cs y h=>by
 obtain ⟨n,rfl,_⟩:=DataW.trod_bool ht h
 exact ⟨n,trivial,Sh.sc rfl⟩
theorem rd_str (ht:P.underlying t=some .string):Rd enc W base held t cStr (fun s:ByteArray=>s.size≤9223372036854775807):=fun fuel cs y h=>by
 obtain ⟨n,rfl,_,h2⟩:=DataW.trod_string ht h
 exact ⟨n,h2,Sh.sc rfl⟩
theorem rdf_nil {N:Nat}:RdF enc W base held N N [] (fun _:Unit=>[]) (fun _=>True):=fun fuel cs h _=>⟨(),trivial,by rw [←h,List.drop_length];exact Sh.nil⟩
theorem rdf_cons {N o k:Nat} {f:Field} {fs:List Field} {d:β→List WV} {D:β→Prop} (h1:Rd enc W base held f.type c B) (ho:f.offset=o) (hk:P.cellsOf f.type=k) (h2:RdF enc W base held N (o+k) fs d D) :
 RdF enc W base held N o (f::fs) (fun a:α×β=>c a.1++d a.2) (fun a=>B a.1∧D a.2):=fun fuel cs hl h=>by
 obtain ⟨y,hy⟩:=h f (List.mem_cons_self ..)
 obtain ⟨a,q1,q2⟩:=h1 _ _ _ hy
 obtain ⟨b,q3,q4⟩:=h2 fuel cs hl fun g hg=>h g (List.mem_cons_of_mem _ hg)
 refine ⟨(a,b),⟨q1,q3⟩,?_⟩
 have:cs.drop o=(cs.drop f.offset).take (P.cellsOf f.type)++cs.drop (o+k):=by rw [ho,hk,←List.drop_drop,List.take_append_drop]
 rw [this]
 exact q2.app q4
theorem rd_struct {N:Nat} {fs:Array Field} (ht:P.underlying t=some (.struct fs)) (hN:P.cellsOf t=N) (h:RdF enc W base held N 0 fs.toList c B) {γ:Type} {d:γ→List WV} {D:γ→Prop} (mk:α→γ) (he:∀a,d (mk a)=c a) (hB:∀a,B a→D (mk a)):Rd enc W base held t d D:=fun fuel cs y hy=>by
 obtain ⟨xs,n,_,_,h3,h4,h5⟩:=DataW.trod_struct ht hy
 obtain ⟨a,q1,q2⟩:=h n cs (h3.trans hN) fun f hf=>by
  obtain ⟨i,hi,rfl⟩:=List.mem_iff_getElem.1 hf
  have hx:i<xs.length:=by rw [h4];simpa using hi
  exact ⟨xs[i],(h5 i _ (by simp at hi ⊢)).trans (List.getElem?_eq_getElem hx)⟩
 exact ⟨mk a,hB a q1,by rw [he];exact q2⟩
theorem flat_at {size:Nat}:∀(es:List (List Value)) (j:Nat) (u:Value),(∀c∈es,c.length=size)→es.flatten[j]?=some u→∃i r c,es[i]?=some c∧r<size∧j=i*size+r∧c[r]?=some u
 |[],j,u,_,h=>by simp at h
 |c::es,j,u,hl,h=>by
  have hc:=hl c (List.mem_cons_self ..)
  rw [List.flatten_cons] at h
  by_cases hj:j<c.length
  ·rw [List.getElem?_append_left hj] at h
   exact ⟨0,j,c,rfl,by omega,by omega,h⟩
  ·rw [List.getElem?_append_right (by omega)] at h
   obtain ⟨i,r,c',h1,h2,h3,h4⟩:=flat_at es (j-c.length) u (fun x hx=>hl x (List.mem_cons_of_mem _ hx)) h
   exact ⟨i+1,r,c',by simpa using h1,h2,by rw [Nat.add_mul];omega,h4⟩
theorem shs {l:List α} {f:List (List Value)} (h:l.length=f.length) (hh:∀(i:Nat) a v,l[i]?=some a→f[i]?=some v→Sh W (c a) v):∃xs:List (List AV),PRss (l.map c) xs∧TVs W (fun b _=>b<W.heap.size) (fun _=>False) xs.flatten f.flatten:=by
 induction l generalizing f with
 |nil=>cases f with
  |nil=>exact ⟨[],.nil,.nil⟩
  |cons=>cases h
 |cons a l ih=>cases f with
  |nil=>cases h
  |cons v f=>
   obtain ⟨xs,h1,h2⟩:=hh 0 a v rfl rfl
   obtain ⟨ys,h3,h4⟩:=ih (Nat.succ.inj h) fun i a v p q=>hh (i+1) a v p q
   exact ⟨xs::ys,.cons h1 h3,tvs_app h2 h4⟩
theorem prss_each {l:List (List WV)} {xs:List (List AV)} (h:PRss l xs) {s:Nat} (hl:∀e∈l,e.length=s):xs.length=l.length∧∀e∈xs,e.length=s:=by
 induction l generalizing xs with
 |nil=>cases h;exact ⟨rfl,fun e he=>by cases he⟩
 |cons c l ih=>cases h with
  |cons h1 h2=>
   obtain ⟨q1,q2⟩:=ih h2 fun e he=>hl e (List.mem_cons_of_mem _ he)
   refine ⟨by rw [List.length_cons,q1];rfl,fun e he=>?_⟩
   rcases List.mem_cons.1 he with rfl | he
   ·rw [prs_len h1];exact hl _ (List.mem_cons_self ..)
   ·exact q2 e he
theorem rd_slice {s:Nat} (ht:P.underlying t=some (.slice e)) (hs:P.cellsOf e=s) (hc:∀a,(c a).length=s) (h:Rd enc W base held e c B) (hpos:0<s:=by decide):Rd enc W base held t (fun l:List α=>[.lst (l.map c)]) (fun l=>(∀x∈l,B x)∧l.length≤9223372036854775807):=fun fuel cs y hy=>by
 rcases open_slice ht hy with ⟨rfl,_⟩ | ⟨a,l,cp,m,n,D,Pl,rfl,hb,hl,hm,hmm,hx,hi⟩
 ·exact ⟨[],⟨fun x hx=>(by cases hx),Nat.zero_le _⟩,[.sc (.slice none 0 0)],.cons .emp .nil,.cons (.sc rfl) .nil⟩
 ·have hlm:l≤m:=by rw [hmm];split<;>omega
  have each:∀i,i<l→∃c':List Value,W.cells? base (a.add (i*s)) s=some c'∧c'.length=s∧∃x,B x∧Sh W (c x) c':=fun i hil=>by
   obtain ⟨c',h1,h2⟩:=hi i (by omega)
   rw [hs] at h1
   obtain ⟨_,h3,_⟩:=World.cells?_some h1
   exact ⟨c',h1,h3,h _ _ _ h2⟩
  obtain ⟨f,hf⟩:=choose_lt each
  obtain ⟨g,hg⟩:∃g:Fin l→α,∀i:Fin l,B (g i)∧Sh W (c (g i)) (f i):=⟨fun i=>((hf i i.2).2.2).choose,fun i=>((hf i i.2).2.2).choose_spec⟩
  have hall:∀c∈(List.range l).map f,c.length=s:=fun c hc=>by
   obtain ⟨i,hi',rfl⟩:=List.mem_map.1 hc
   exact (hf i (List.mem_range.1 hi')).2.1
  obtain ⟨xs,hp,htv⟩:=shs (W:=W) (c:=c) (l:=List.ofFn g) (f:=(List.range l).map f) (by simp) fun i x v p q=>by
   have hil:i<l:=by
    have:=(List.getElem?_eq_some_iff.1 p).1
    simpa using this
   have e1:x=g ⟨i,hil⟩:=by simpa [hil] using p.symm
   have e2:v=f i:=by simpa [hil] using q.symm
   rw [e1,e2]
   exact (hg ⟨i,hil⟩).2
  obtain ⟨k1,k2⟩:=prss_each hp (s:=s) fun e he=>by
   obtain ⟨x,_,rfl⟩:=List.mem_map.1 he
   exact hc x
  have k3:xs.length=l:=by rw [k1];simp
  refine ⟨List.ofFn g,⟨fun x hx=>?_,by simp;exact Nat.le_trans hl hm⟩,[.isl xs false],.cons (.lst hp) .nil,.cons ?_ .nil⟩
  ·obtain ⟨i,rfl⟩:=List.mem_ofFn.1 hx
   exact (hg i).1
  ·have hcell:∀(j:Nat) (u:Value),((List.range l).map f).flatten[j]?=some u→∃b o,a=⟨b,o,none⟩ ∧W.cell? ⟨b,o+j,none⟩=some u:=fun j u hu=>by
    obtain ⟨i,r,c',h1,h2,h3,h4⟩:=flat_at _ j u hall hu
    have hil:i<l:=by
     have:=(List.getElem?_eq_some_iff.1 h1).1
     simpa using this
    have:c'=f i:=by simpa [hil] using h1.symm
    subst this
    obtain ⟨_,hlen',hc'⟩:=World.cells?_some (hf i hil).1
    have h5:=hc' r (by omega)
    have h6:=List.getElem?_eq_getElem (l:=f i) (i:=r) (by omega)
    obtain ⟨_,hlen0,hc0⟩:=World.cells?_some (hf 0 (by omega)).1
    have h7:=hc0 0 (by omega)
    rw [List.getElem?_eq_getElem (by omega)] at h7
    obtain ⟨b,off,spot⟩:=a
    have hspot:spot=none:=by
     have:=World.cell?_spot h7
     simpa [Addr.add] using this
    subst hspot
    rw [add_add,Go.WideShapes.add_plain] at h5
    exact ⟨b,off,rfl,by rw [h3,h5];rw [h6] at h4;simpa [List.getD,h6] using h4⟩
   have:TV W (fun b _=>b<W.heap.size) (fun _=>False) (.isl xs false) (.slice (some a) xs.length cp):=
    .isl htv (fun hne=>by
     have hl0:0<l:=by rw [←k3];exact List.length_pos_iff.2 hne
     have hj:0<((List.range l).map f).flatten.length:=by
      have h0:=hall (f 0) (List.mem_map.2 ⟨0,List.mem_range.2 hl0,rfl⟩)
      obtain ⟨k,rfl⟩:∃k,l=k+1:=⟨l-1,by omega⟩
      rw [List.range_succ_eq_map,List.map_cons,List.flatten_cons,List.length_append]
      omega
     obtain ⟨b,o,rfl,_⟩:=hcell 0 _ (List.getElem?_eq_getElem hj)
     refine ⟨rfl,fun j v hv=>?_⟩
     obtain ⟨b',o',e,hw⟩:=hcell j v hv
     cases e
     have hlt:=block_lt_of_cell (a:=⟨b,o+j,none⟩) hw
     exact ⟨hlt,hw⟩) k2 (by rw [k3];exact hl) (fun h=>by cases h)
   rwa [k3] at this
end
end Go.Abs.RM
end
section
namespace Go.Abs.RM
open Go.Proofs
set_option maxRecDepth 100000
section
variable {H:Type} {enc:TypeId×Value→H} {W:World} {base:Nat} {held:Bool}
theorem rd75:Rd enc W base held 75 S75.c (fun _=>True):=rd_struct (N:=2) Tryz.underlying75 (by kernel_rfl) (rdf_cons (k:=1) (rd_str Tryz.underlying9) rfl (by kernel_rfl) (rdf_cons (k:=1) (rd_int Tryz.underlying3) rfl (by kernel_rfl) rdf_nil)) (fun a=>⟨a.1,a.2.1⟩) (fun _=>rfl) (fun _ _=>trivial)
theorem rd73:Rd enc W base held 73 S73.c (fun _=>True):=rd_struct (N:=4) Tryz.underlying73 (by kernel_rfl) (rdf_cons (k:=1) (rd_str Tryz.underlying9) rfl (by kernel_rfl) (rdf_cons (k:=1) (rd_int Tryz.underlying3) rfl (by kernel_rfl) (rdf_cons (k:=1) (rd_int Tryz.underlying3) rfl (by kernel_rfl) (rdf_cons (k:=1) (rd_int Tryz.underlying3) rfl (by kernel_rfl) rdf_nil)))) (fun a=>⟨a.1,a.2.1,a.2.2.1,a.2.2.2.1⟩) (fun _=>rfl) (fun _ _=>trivial)
theorem rd71:Rd enc W base held 71 S71.c (fun _=>True):=rd_struct (N:=3) Tryz.underlying71 (by kernel_rfl) (rdf_cons (k:=1) (rd_int Tryz.underlying55) rfl (by kernel_rfl) (rdf_cons (k:=1) (rd_str Tryz.underlying9) rfl (by kernel_rfl) (rdf_cons (k:=1) (rd_int Tryz.underlying3) rfl (by kernel_rfl) rdf_nil))) (fun a=>⟨a.1,a.2.1,a.2.2.1⟩) (fun _=>rfl) (fun _ _=>trivial)
theorem rd63:Rd enc W base held 63 S63.c (fun e=>e.f0.size≤9223372036854775807):=rd_struct (N:=2) Tryz.underlying63 (by kernel_rfl) (rdf_cons (k:=1) (rd_str Tryz.underlying9) rfl (by kernel_rfl) (rdf_cons (k:=1) (rd_int Tryz.underlying3) rfl (by kernel_rfl) rdf_nil)) (fun a=>⟨a.1,a.2.1⟩) (fun _=>rfl) (fun _ h=>h.1)
theorem rd215:Rd enc W base held 215 S215.c (fun _=>True):=rd_struct (N:=2) Tryz.underlying215 (by kernel_rfl) (rdf_cons (k:=1) (rd_int Tryz.underlying55) rfl (by kernel_rfl) (rdf_cons (k:=1) (rd_int Tryz.underlying3) rfl (by kernel_rfl) rdf_nil)) (fun a=>⟨a.1,a.2.1⟩) (fun _=>rfl) (fun _ _=>trivial)
theorem rd179:Rd enc W base held 179 S179.c (fun e=>e.f0.size≤9223372036854775807):=rd_struct (N:=2) Tryz.underlying179 (by kernel_rfl) (rdf_cons (k:=1) (rd_str Tryz.underlying9) rfl (by kernel_rfl) (rdf_cons (k:=1) (rd_int Tryz.underlying3) rfl (by kernel_rfl) rdf_nil)) (fun a=>⟨a.1,a.2.1⟩) (fun _=>rfl) (fun _ h=>h.1)
theorem rd59:Rd enc W base held 59 S59.c (fun e=>e.f0.length≤9223372036854775807∧e.f1.length≤9223372036854775807∧∀x∈e.f0,x.f0.size≤9223372036854775807):=rd_struct (N:=9) Tryz.underlying59 (by kernel_rfl) (rdf_cons (k:=1) (rd_slice (s:=2) Tryz.underlying56 (by kernel_rfl) (fun _=>rfl) rd179) rfl (by kernel_rfl) (rdf_cons (k:=1) (rd_slice (s:=2) Tryz.underlying57 (by kernel_rfl) (fun _=>rfl) rd215) rfl (by kernel_rfl) (rdf_cons (k:=1) (rd_int Tryz.underlying3) rfl (by kernel_rfl) (rdf_cons (k:=1) (rd_int Tryz.underlying3) rfl (by kernel_rfl) (rdf_cons (k:=1) (rd_int Tryz.underlying3) rfl (by kernel_rfl) (rdf_cons (k:=1) (rd_int Tryz.underlying3) rfl (by kernel_rfl) (rdf_cons (k:=1) (rd_int Tryz.underlying3) rfl (by kernel_rfl) (rdf_cons (k:=1) (rd_int Tryz.underlying3) rfl (by kernel_rfl) (rdf_cons (k:=1) (rd_int Tryz.underlying3) rfl (by kernel_rfl) rdf_nil))))))))) (fun a=>⟨a.1,a.2.1,a.2.2.1,a.2.2.2.1,a.2.2.2.2.1,a.2.2.2.2.2.1,a.2.2.2.2.2.2.1,a.2.2.2.2.2.2.2.1,a.2.2.2.2.2.2.2.2.1⟩) (fun _=>rfl) (fun _ h=>⟨h.1.2,h.2.1.2,h.1.1⟩)
theorem rd61:Rd enc W base held 61 S61.c (fun e=>CB e 9223372036854775807 9223372036854775807):=rd_struct (N:=16) Tryz.underlying61 (by kernel_rfl) (rdf_cons (k:=1) (rd_str Tryz.underlying9) rfl (by kernel_rfl) (rdf_cons (k:=1) (rd_int Tryz.underlying3) rfl (by kernel_rfl) (rdf_cons (k:=1) (rd_int Tryz.underlying3) rfl (by kernel_rfl) (rdf_cons (k:=1) (rd_bool Tryz.underlying4) rfl (by kernel_rfl) (rdf_cons (k:=1) (rd_str Tryz.underlying9) rfl (by kernel_rfl) (rdf_cons (k:=1) (rd_slice (s:=1) Tryz.underlying49 (by kernel_rfl) (fun _=>rfl) (rd_str Tryz.underlying9)) rfl (by kernel_rfl) (rdf_cons (k:=1) (rd_slice (s:=1) Tryz.underlying49 (by kernel_rfl) (fun _=>rfl) (rd_str Tryz.underlying9)) rfl (by kernel_rfl) (rdf_cons (k:=9) rd59 rfl (by kernel_rfl) rdf_nil)))))))) (fun a=>⟨a.1,a.2.1,a.2.2.1,a.2.2.2.1,a.2.2.2.2.1,a.2.2.2.2.2.1,a.2.2.2.2.2.2.1,a.2.2.2.2.2.2.2.1⟩) (fun _=>rfl) (fun _ ⟨h0,_,_,_,h4,h5,h6,h7,_⟩=>⟨h0,h4,h5.2,h6.2,h7.1,h7.2.1,h5.1,h6.1,h7.2.2⟩)
theorem rd65:Rd enc W base held 65 S65.c EM:=rd_struct (N:=29) Tryz.underlying65 (by kernel_rfl) (rdf_cons (k:=1) (rd_int Tryz.underlying3) rfl (by kernel_rfl) (rdf_cons (k:=1) (rd_str Tryz.underlying9) rfl (by kernel_rfl) (rdf_cons (k:=1) (rd_str Tryz.underlying9) rfl (by kernel_rfl) (rdf_cons (k:=1) (rd_int Tryz.underlying55) rfl (by kernel_rfl) (rdf_cons (k:=1) (rd_bool Tryz.underlying4) rfl (by kernel_rfl) (rdf_cons (k:=1) (rd_str Tryz.underlying9) rfl (by kernel_rfl) (rdf_cons (k:=1) (rd_int Tryz.underlying3) rfl (by kernel_rfl) (rdf_cons (k:=1) (rd_int Tryz.underlying3) rfl (by kernel_rfl) (rdf_cons (k:=1) (rd_slice (s:=1) Tryz.underlying24 (by kernel_rfl) (fun _=>rfl) (rd_int Tryz.underlying3)) rfl (by kernel_rfl) (rdf_cons (k:=1) (rd_slice (s:=1) Tryz.underlying24 (by kernel_rfl) (fun _=>rfl) (rd_int Tryz.underlying3)) rfl (by kernel_rfl) (rdf_cons (k:=16) rd61 rfl (by kernel_rfl) (rdf_cons (k:=1) (rd_int Tryz.underlying3) rfl (by kernel_rfl) (rdf_cons (k:=2) rd63 rfl (by kernel_rfl) rdf_nil))))))))))))) (fun a=>⟨a.1,a.2.1,a.2.2.1,a.2.2.2.1,a.2.2.2.2.1,a.2.2.2.2.2.1,a.2.2.2.2.2.2.1,a.2.2.2.2.2.2.2.1,a.2.2.2.2.2.2.2.2.1,a.2.2.2.2.2.2.2.2.2.1,a.2.2.2.2.2.2.2.2.2.2.1,a.2.2.2.2.2.2.2.2.2.2.2.1,a.2.2.2.2.2.2.2.2.2.2.2.2.1⟩) (fun _=>rfl) (fun _ ⟨_,h1,h2,_,_,h5,_,_,h8,h9,h10,_,h12,_⟩=>⟨h1,h2,h5,h8.2,h9.2,h10,h12⟩)
theorem rd135:Rd enc W base held 135 S135.c (fun _=>True):=rd_struct (N:=4) Tryz.underlying135 (by kernel_rfl) (rdf_cons (k:=1) (rd_int Tryz.underlying3) rfl (by kernel_rfl) (rdf_cons (k:=1) (rd_int Tryz.underlying3) rfl (by kernel_rfl) (rdf_cons (k:=1) (rd_int Tryz.underlying133) rfl (by kernel_rfl) (rdf_cons (k:=1) (rd_bool Tryz.underlying4) rfl (by kernel_rfl) rdf_nil)))) (fun a=>⟨a.1,a.2.1,a.2.2.1,a.2.2.2.1⟩) (fun _=>rfl) (fun _ _=>trivial)
theorem rd30:Rd enc W base held 30 S30.c RawG:=rd_struct (N:=9) Tryz.underlying30 (by kernel_rfl) (rdf_cons (k:=1) (rd_str Tryz.underlying9) rfl (by kernel_rfl) (rdf_cons (k:=1) (rd_slice (s:=29) Tryz.underlying22 (by kernel_rfl) (fun _=>rfl) rd65) rfl (by kernel_rfl) (rdf_cons (k:=1) (rd_slice (s:=4) Tryz.underlying23 (by kernel_rfl) (fun _=>rfl) rd135) rfl (by kernel_rfl) (rdf_cons (k:=1) (rd_slice (s:=29) Tryz.underlying22 (by kernel_rfl) (fun _=>rfl) rd65) rfl (by kernel_rfl) (rdf_cons (k:=1) (rd_slice (s:=1) Tryz.underlying24 (by kernel_rfl) (fun _=>rfl) (rd_int Tryz.underlying3)) rfl (by kernel_rfl) (rdf_cons (k:=1) (rd_slice (s:=3) Tryz.underlying26 (by kernel_rfl) (fun _=>rfl) rd71) rfl (by kernel_rfl) (rdf_cons (k:=1) (rd_int Tryz.underlying3) rfl (by kernel_rfl) (rdf_cons (k:=1) (rd_slice (s:=4) Tryz.underlying27 (by kernel_rfl) (fun _=>rfl) rd73) rfl (by kernel_rfl) (rdf_cons (k:=1) (rd_slice (s:=2) Tryz.underlying28 (by kernel_rfl) (fun _=>rfl) rd75) rfl (by kernel_rfl) rdf_nil))))))))) (fun a=>⟨a.1,a.2.1,a.2.2.1,a.2.2.2.1,a.2.2.2.2.1,a.2.2.2.2.2.1,a.2.2.2.2.2.2.1,a.2.2.2.2.2.2.2.1,a.2.2.2.2.2.2.2.2.1⟩) (fun _=>rfl) (fun _ ⟨h0,h1,h2,h3,h4,h5,_,h7,h8,_⟩=>⟨h0,h1.1,h3.1,h1.2,h2.2,h3.2,h4.2,h5.2,h7.2,h8.2⟩)
theorem rd32:Rd enc W base held 32 S32.c (fun e=>e.f1.length≤9223372036854775807∧e.f2.length≤9223372036854775807):=rd_struct (N:=4) Tryz.underlying32 (by kernel_rfl) (rdf_cons (k:=1) (rd_str Tryz.underlying9) rfl (by kernel_rfl) (rdf_cons (k:=1) (rd_slice (s:=1) Tryz.underlying24 (by kernel_rfl) (fun _=>rfl) (rd_int Tryz.underlying3)) rfl (by kernel_rfl) (rdf_cons (k:=1) (rd_slice (s:=1) Tryz.underlying24 (by kernel_rfl) (fun _=>rfl) (rd_int Tryz.underlying3)) rfl (by kernel_rfl) (rdf_cons (k:=1) (rd_int Tryz.underlying3) rfl (by kernel_rfl) rdf_nil)))) (fun a=>⟨a.1,a.2.1,a.2.2.1,a.2.2.2.1⟩) (fun _=>rfl) (fun _ ⟨_,h1,h2,_⟩=>⟨h1.2,h2.2⟩)
end
end Go.Abs.RM
end
