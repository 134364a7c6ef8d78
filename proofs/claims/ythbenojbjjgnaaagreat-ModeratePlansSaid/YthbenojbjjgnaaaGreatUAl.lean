/- A loop over the entries of a state: its iterator. -/
import Derived.Test.YthbenojbjjgnaaaGreatUAk
import Derived.Test.YthbenojbjjgnaaaGreatUAg
import Derived.Test.YthbenojbjjgnaaaGreatProg
import Derived.KernelRfl
import Derived.Lib.Strings
import Derived.Lib.Bytealg
import Derived.WalkKit
import Derived.Lib.Walk
import Derived.Lib.Hide
import Derived.Lib.IndexBytes
import Derived.Laws.RangeString
import Derived.Deep.LoopGhost
import Derived.WalkSmall
import Derived.LoopTactic
import Derived.Test.YthbenojbjjgnaaaGreatUAn
import Derived.Shelf.Sort.Plain
set_option linter.unusedVariables false
set_option linter.unusedSimpArgs false
set_option linter.unusedSectionVars false
section
namespace Go.Abs.RM
open Go.Proofs
noncomputable section
noncomputable abbrev P : Program := Tryz.prog
theorem mixed : P.follows .mixedOrders = true := by kernel_rfl
abbrev zi64 : Value := .int .i64 0
abbrev zi32 : Value := .int .i32 0
abbrev zu8 : Value := .int .u8 0
abbrev zu64 : Value := .int .u64 0
abbrev zstr : Value := .string ⟨#[]⟩
abbrev zbool : Value := .bool false
abbrev znsl : Value := .slice none 0 0
def tabList : List (Nat × TyD) := [(3,⟨(.int .i64),1,8,[zi64],none⟩),
 (4,⟨.bool,1,1,[zbool],none⟩),
 (5,⟨(.int .u8),1,1,[zu8],none⟩),
 (9,⟨.str,1,16,[zstr],none⟩),
 (21,⟨(.int .i32),1,4,[zi32],none⟩),
 (22,⟨(.slice 65),1,24,[znsl],none⟩),
 (23,⟨(.slice 135),1,24,[znsl],none⟩),
 (24,⟨(.slice 3),1,24,[znsl],none⟩),
 (25,⟨(.slice 71),1,24,[znsl],none⟩),
 (26,⟨(.slice 71),1,24,[znsl],none⟩),
 (27,⟨(.slice 73),1,24,[znsl],none⟩),
 (28,⟨(.slice 75),1,24,[znsl],none⟩),
 (30,⟨(.strct [(0,9),(1,22),(2,23),(3,22),(4,24),(5,26),(6,3),(7,27),(8,28)]),9,192,[zstr,znsl,znsl,znsl,znsl,znsl,zi64,znsl,znsl],none⟩),
 (35,⟨(.int .i64),1,8,[zi64],none⟩),
 (44,⟨(.slice 103),1,24,[znsl],none⟩),
 (49,⟨(.slice 9),1,24,[znsl],none⟩),
 (55,⟨(.int .i64),1,8,[zi64],none⟩),
 (56,⟨(.slice 179),1,24,[znsl],none⟩),
 (57,⟨(.slice 215),1,24,[znsl],none⟩),
 (59,⟨(.strct [(0,56),(1,57),(2,3),(3,3),(4,3),(5,3),(6,3),(7,3),(8,3)]),9,104,[znsl,znsl,zi64,zi64,zi64,zi64,zi64,zi64,zi64],none⟩),
 (61,⟨(.strct [(0,9),(1,3),(2,3),(3,4),(4,9),(5,49),(6,49),(7,59)]),16,208,[zstr,zi64,zi64,zbool,zstr,znsl,znsl,znsl,znsl,zi64,zi64,zi64,zi64,zi64,zi64,zi64],none⟩),
 (63,⟨(.strct [(0,9),(1,3)]),2,24,[zstr,zi64],some [.str,(.int .i64)]⟩),
 (65,⟨(.strct [(0,3),(1,9),(2,9),(3,55),(4,4),(5,9),(6,3),(7,3),(8,24),(9,24),(10,61),(26,3),(27,63)]),29,376,[zi64,zstr,zstr,zi64,zbool,zstr,zi64,zi64,znsl,znsl,zstr,zi64,zi64,zbool,zstr,znsl,znsl,znsl,znsl,zi64,zi64,zi64,zi64,zi64,zi64,zi64,zi64,zstr,zi64],none⟩),
 (71,⟨(.strct [(0,55),(1,9),(2,3)]),3,32,[zi64,zstr,zi64],some [(.int .i64),.str,(.int .i64)]⟩),
 (73,⟨(.strct [(0,9),(1,3),(2,3),(3,3)]),4,40,[zstr,zi64,zi64,zi64],some [.str,(.int .i64),(.int .i64),(.int .i64)]⟩),
 (75,⟨(.strct [(0,9),(1,3)]),2,24,[zstr,zi64],some [.str,(.int .i64)]⟩),
 (103,⟨(.strct [(0,55),(1,9),(2,9)]),3,40,[zi64,zstr,zstr],some [(.int .i64),.str,.str]⟩),
 (110,⟨.ptr,1,8,[.pointer none],none⟩),
 (112,⟨(.strct [(0,30)]),9,192,[zstr,znsl,znsl,znsl,znsl,znsl,zi64,znsl,znsl],none⟩),
 (126,⟨(.slice 4),1,24,[znsl],none⟩),
 (127,⟨.other,1,8,[.nilFunc],none⟩),
 (131,⟨(.slice 139),1,24,[znsl],none⟩),
 (133,⟨(.int .i64),1,8,[zi64],none⟩),
 (135,⟨(.strct [(0,3),(1,3),(2,133),(3,4)]),4,32,[zi64,zi64,zi64,zbool],some [(.int .i64),(.int .i64),(.int .i64),.bool]⟩),
 (139,⟨(.strct [(0,3),(1,26),(2,26),(3,35)]),4,64,[zi64,znsl,znsl,zi64],none⟩),
 (173,⟨(.map 9 4),1,8,[.map none],none⟩),
 (174,⟨.ptr,1,8,[.pointer none],none⟩),
 (179,⟨(.strct [(0,9),(1,3)]),2,24,[zstr,zi64],some [.str,(.int .i64)]⟩),
 (181,⟨(.slice 26),1,24,[znsl],none⟩),
 (215,⟨(.strct [(0,55),(1,3)]),2,16,[zi64,zi64],some [(.int .i64),(.int .i64)]⟩),
 (221,⟨.other,1,8,[.nilFunc],none⟩),
 (223,⟨.other,1,8,[.nilFunc],none⟩),
 (227,⟨(.strct [(0,26),(1,24),(2,26),(3,24),(4,26)]),5,120,[znsl,znsl,znsl,znsl,znsl],none⟩),
 (230,⟨(.slice 5),1,24,[znsl],none⟩),
 (243,⟨(.int .u64),1,8,[zu64],none⟩),
 (318,⟨(.int .u64),1,8,[zu64],none⟩),
 (348,⟨(.slice 24),1,24,[znsl],none⟩)]
def tabL : Tab := lk tabList
def TabAll : List (Nat × TyD) → Prop
 | [] => True
 | (t,d) :: l => tabOf P t = some d ∧ TabAll l
theorem TabAll.mem {t : Nat} {d : TyD} {l : List (Nat × TyD)} (h : TabAll l) (hm : (t,d) ∈ l) : tabOf P t = some d := by
 induction l with
 | nil => cases hm
 | cons p l ih =>
  obtain ⟨t',d'⟩ := p
  obtain ⟨h1,h2⟩ := h
  rcases List.mem_cons.1 hm with e | q
  ·rw [(Prod.mk.inj e).1,(Prod.mk.inj e).2]; exact h1
  ·exact ih h2 q
set_option maxRecDepth 100000 in
theorem tabList_ok : TabAll tabList :=
 ⟨by kernel_rfl,by kernel_rfl,by kernel_rfl,by kernel_rfl,by kernel_rfl,by kernel_rfl,by kernel_rfl,by kernel_rfl,by kernel_rfl,by kernel_rfl,by kernel_rfl,by kernel_rfl,by kernel_rfl,by kernel_rfl,by kernel_rfl,by kernel_rfl,by kernel_rfl,by kernel_rfl,by kernel_rfl,by kernel_rfl,by kernel_rfl,by kernel_rfl,by kernel_rfl,by kernel_rfl,by kernel_rfl,by kernel_rfl,by kernel_rfl,by kernel_rfl,by kernel_rfl,by kernel_rfl,by kernel_rfl,by kernel_rfl,by kernel_rfl,by kernel_rfl,by kernel_rfl,by kernel_rfl,by kernel_rfl,by kernel_rfl,by kernel_rfl,by kernel_rfl,by kernel_rfl,by kernel_rfl,by kernel_rfl,by kernel_rfl,by kernel_rfl,by kernel_rfl,by kernel_rfl,trivial⟩
theorem tabOk : TabOK P tabL := fun t d h => tabOf_ok P t d (TabAll.mem tabList_ok (lk_mem h))
def bodyOf (f : Func) : Code := match f.body with | some c => c | none => .skip
def resOf (f : Func) : List ResultVar := f.results.toList
def chk (fn : Func) (n : Nat) : Bool := fn.body.isSome && !(fn.name == "runtime.NumGoroutine") && Nat.ble n fn.ntmps && codeDst fn.ntmps (bodyOf fn)
theorem go {f : FuncId} {fn : Func} {args : List WV} {G : WV → Prop} (hf : P.funcs[f]? = some fn) (hc : chk fn args.length = true)
  (h : Wk P tabL (bodyOf fn) (argsT 0 args) ⟨[],0⟩ (endsW tabL (resOf fn) G)) : WValid P f args G := by
 simp only [chk,Bool.and_eq_true,Bool.not_eq_true'] at hc
 obtain ⟨⟨⟨h1,h2⟩,h3⟩,h4⟩ := hc
 obtain ⟨c,hb⟩ := Option.isSome_iff_exists.1 h1
 have e : bodyOf fn = c := by unfold bodyOf; rw [hb]
 rw [e] at h h4
 exact wvalid tabOk mixed hf hb h2 (Nat.le_of_ble_eq_true h3) h4 h
theorem goOwn {f : FuncId} {fn : Func} {args : List WV} {s : Nat} {z : Bool} {G : List (List WV) → Prop} (hf : P.funcs[f]? = some fn) (hc : chk fn args.length = true)
  (h : Wk P tabL (bodyOf fn) (argsT 0 args) ⟨[],0⟩ (ownsW (resOf fn) s z G)) : WOwn P f args s z G := by
 simp only [chk,Bool.and_eq_true,Bool.not_eq_true'] at hc
 obtain ⟨⟨⟨h1,h2⟩,h3⟩,h4⟩ := hc
 obtain ⟨c,hb⟩ := Option.isSome_iff_exists.1 h1
 have e : bodyOf fn = c := by unfold bodyOf; rw [hb]
 rw [e] at h h4
 exact wown tabOk mixed hf hb h2 (Nat.le_of_ble_eq_true h3) h4 h
def zS : ByteArray := ⟨#[]⟩
def c_i64 (n : Int) : List WV := [.sc (.int .i64 n)]
def c_u8 (n : Int) : List WV := [.sc (.int .u8 n)]
def cBool (b : Bool) : List WV := [.sc (.bool b)]
def cStr (s : ByteArray) : List WV := [.sc (.string s)]
def roomB (b n : Nat) : Bool := decide ((2 * n + 192) * b ≤ 2 ^ 48) && decide (n ≤ 2 ^ 60)
def iop (op : BinOp) (t : TypeId) (k : IntKind) (a b : Int) : Int := match pureVal (Go.binOp op t (.int k a) (.int k b)) with | some (.int _ n) => n | _ => 0
def uop (op : UnOp) (k : IntKind) (a : Int) : Int := match pureVal (Op.unary op (.int k a)) with | some (.int _ n) => n | _ => 0
def sop (op : BinOp) (a b : ByteArray) : Bool := match pureVal (Op.stringOp op a b) with | some (.bool n) => n | _ => false
def strL (s : ByteArray) : List Int := s.data.toList.map fun b => (b.toNat : Int)
theorem bT {α : Type} {b : Bool} {A B : Option α} {r : α} (h : b = true) (hI : (bif b then A else B) = some r) : A = some r := by subst h; exact hI
theorem bF {α : Type} {b : Bool} {A B : Option α} {r : α} (h : b = false) (hI : (bif b then A else B) = some r) : B = some r := by subst h; exact hI
theorem ckd {α : Type} {b : Bool} {A : Option α} {r : α} (hI : (bif b then A else none) = some r) : b = true ∧ A = some r := by
 cases b
 ·cases hI
 ·exact ⟨rfl,hI⟩
theorem bnd {α β : Type} {x : Option α} {f : α → Option β} {r : β} (h : x.bind f = some r) : ∃ a,x = some a ∧ f a = some r := bind_some h
theorem at_ {α : Type} {l : List α} (f : α → List WV) {i : Nat} {x : α} (h : l[i]? = some x) : (l.map f)[i]? = some (f x) := by simp [h]
theorem lens_map {α : Type} {f : α → List WV} {n : Nat} {l : List α} (h : ∀ a,(f a).length = n) : ∀ x ∈ l.map f,x.length = n := fun x hx => by
 obtain ⟨a,_,rfl⟩ := List.mem_map.1 hx; exact h a
theorem inb1 {i : Int} {b : Bool} (h : (decide (0 ≤ i) && b) = true) : 0 ≤ i := by simp at h; exact h.1
theorem inb2 {α : Type} {f : α → List WV} {l : List α} {i : Int} {a : Bool} (h : (a && decide (i.toNat < l.length)) = true) : i.toNat < (l.map f).length := by simp at h; simpa using h.2
theorem rooms {α β : Type} {f : α → List WV} {l : List α} {m : List β} {ys : List (List WV)} {b : Nat} (h : roomB b (l.length + m.length) = true) (hy : ys.length = m.length) : roomP b ((l.map f).length + ys.length) := by
 simp only [roomB,Bool.and_eq_true,decide_eq_true_eq] at h; rw [List.length_map,hy]; exact h
theorem cellP_map {α : Type} {f : α → List WV} {s : Nat} (h : ∀ a,(f a).length = s ∧ (f a).all storableW = true) (l : List α) : cellP s (l.map f) := fun y hy => by
 obtain ⟨a,_,rfl⟩ := List.mem_map.1 hy; exact h a
theorem cellP_lit {s : Nat} {ys : List (List WV)} (h : (ys.all fun y => Nat.beq y.length s && y.all storableW) = true) : cellP s ys := fun y hy => by
 have := (List.all_eq_true.1 h) y hy
 simp only [Bool.and_eq_true] at this
 exact ⟨Nat.eq_of_beq_eq_true this.1,this.2⟩
theorem leafs_map {α : Type} {f : α → List WV} (h : ∀ a,(f a).all leafB = true) (l : List α) : leafs (l.map f) := fun y hy => by
 obtain ⟨a,_,rfl⟩ := List.mem_map.1 hy; exact h a
theorem leafs_lit {ys : List (List WV)} (h : (ys.all fun y => y.all leafB) = true) : leafs ys := fun y hy => (List.all_eq_true.1 h) y hy
theorem fitO_row {ns : NM} {W : WH} {n m s rt rt' : Nat} {es : List (List WV)} {fz fz' : Bool} (h1 : lk ns n = some (some m)) (h2 : lk W.objs m = some (.row es s fz' rt')) (h3 : leafs es) (h4 : fz = false → fz' = false) : fitO ns W n (.row es s fz rt) := by
 unfold fitO; rw [h1]; exact ⟨fz',rt',h2,h3,h4⟩
theorem fitO_nil {ns : NM} {W : WH} {n s rt : Nat} {es : List (List WV)} {fz : Bool} (h1 : lk ns n = some none) (he : es = []) : fitO ns W n (.row es s fz rt) := by
 unfold fitO; rw [h1]; exact he
theorem mapO_leaf {ns : NM} : ∀ {cs : List WV},cs.all leafB = true → mapO (backC ns) cs = some cs
 | [],_ => rfl
 | c :: cs,h => by
  simp only [List.all_cons,Bool.and_eq_true] at h
  have h1 : backC ns c = some c := by
   cases c <;> first | rfl | cases h.1
  simp only [mapO,h1,mapO_leaf h.2]
theorem fitO_box {ns : NM} {W : WH} {n m : Nat} {cs : List WV} {fz fz' : Bool} (h1 : lk ns n = some (some m)) (h2 : cs.all leafB = true) (h3 : lk W.objs m = some (.box cs fz')) (h4 : fz = false → fz' = false) : fitO ns W n (.box cs fz) := by
 unfold fitO; rw [h1]; exact ⟨cs,fz',mapO_leaf h2,h3,h4⟩
def capB : WV → Bool
 | .sc (.slice none 0 0) => false
 | .sc (.tuple _) => false
 | .sc _ => true
 | .lst _ => true
 | .ipt _ => true
 | _ => false
theorem view_cap {H : WH} {c : WV} {X : WV → List Nat → Prop} (h : capB c = true) (hk : X c []) : viewV H c X := by
 unfold capB at h
 split at h
 ·cases h
 ·cases h
 ·rename_i x h1 h2
  show viewC H (.sc x) X
  unfold viewC
  split
  ·rename_i e; exact absurd (WV.sc.inj e) h1
  ·rename_i e; cases e; exact hk
  ·rename_i e; cases e
  ·rename_i e; cases e
  ·rename_i e; cases e
  ·rename_i e; cases e
  ·rename_i e; cases e
  ·rename_i e _ _ _ _ _; exact (e _ rfl).elim
 ·exact hk
 ·exact hk
 ·cases h
theorem view_caps {H : WH} {g : List WV} {K : List WV → List Nat → Prop} (h : g.all capB = true) (hk : K g []) : viewVs H g K := by
 induction g generalizing K with
 | nil => exact hk
 | cons c cs ih =>
  simp only [List.all_cons,Bool.and_eq_true] at h
  exact view_cap h.1 (ih (K := fun ds ms => K (c :: ds) ([] ++ ms)) h.2 hk)
theorem strL_eq (s : ByteArray) : bytesW s = List.map c_u8 (strL s) := by simp [bytesW,strL,c_u8]
def txt (l : List Int) : ByteArray := ⟨(l.map fun n => UInt8.ofNat n.toNat).toArray⟩
theorem outW_map : ∀ (l : List Int),outW (l.map c_u8) = some (l.map fun n => UInt8.ofNat n.toNat)
 | [] => rfl
 | n :: l => by
  have := outW_map l
  simp only [List.map_cons,c_u8,outW] at this ⊢
  rw [this]
theorem winCat {α : Type} {f : α → List WV} (l m : List α) (lo n : Nat) : ((l.map f).drop lo).take n ++ m.map f = ((l.drop lo).take n ++ m).map f := by simp only [List.map_append,List.map_take,List.map_drop]
theorem winLen {α : Type} {f : α → List WV} (l : List α) (a b : Nat) : (((l.map f).drop a).take b).length = ((l.drop a).take b).length := by simp
theorem winApp {α : Type} {f : α → List WV} (l m : List α) (a b : Nat) : l.map f ++ ((m.map f).drop a).take b = (l ++ (m.drop a).take b).map f := by simp only [List.map_append,List.map_take,List.map_drop]
theorem cellP_win {α : Type} {f : α → List WV} {s : Nat} (h : ∀ a,(f a).length = s ∧ (f a).all storableW = true) (l : List α) (a b : Nat) : cellP s (((l.map f).drop a).take b) := fun y hy => cellP_map h l y (List.mem_of_mem_drop (List.mem_of_mem_take hy))
theorem goUpd {f : FuncId} {fn : Func} {post : List WV} {s : Nat} {es : List (List WV)} {G : List (List WV) → Prop} (hf : P.funcs[f]? = some fn) (hc : chk fn (post.length + 1) = true) (hes : ∀ e ∈ es,e.length = s)
  (h : Wk P tabL (bodyOf fn) (argsT 0 (.row 0 :: post)) ⟨[(0,.row es s false 0)],1⟩ (updsW (resOf fn) s G)) : WUpd P f post s es G := by
 simp only [chk,Bool.and_eq_true,Bool.not_eq_true'] at hc
 obtain ⟨⟨⟨h1,h2⟩,h3⟩,h4⟩ := hc
 obtain ⟨c,hb⟩ := Option.isSome_iff_exists.1 h1
 have e : bodyOf fn = c := by unfold bodyOf; rw [hb]
 rw [e] at h h4
 exact wupd tabOk mixed hf hb h2 (Nat.le_of_ble_eq_true h3) h4 hes h
def memS (l : List ByteArray) (s : ByteArray) : Bool := l.any fun x => s == x
def insS (l : List ByteArray) (s : ByteArray) : List ByteArray := bif memS l s then l else l ++ [s]
theorem hasK_str (l : List ByteArray) (s : ByteArray) : hasK (.string s) (l.map Value.string) = some (memS l s) := by
 have : ∀ (l : List ByteArray) (i : Nat),(findK (.string s) (l.map Value.string) i).map Option.isSome = some (memS l s) := by
  intro l
  induction l with
  | nil => intro i; rfl
  | cons a t ih =>
   intro i
   simp only [List.map_cons,findK,sameKey,memS,List.any_cons]
   cases h : (s == a) with
   | true => simp
   | false => simpa [memS] using ih (i + 1)
 exact this l 0
theorem insK_str (l : List ByteArray) (s : ByteArray) : insK (.string s) (l.map Value.string) = some ((insS l s).map Value.string) := by
 unfold insK
 rw [hasK_str]
 unfold insS
 cases memS l s <;> simp
def mkB (b : Nat) (c : Int) : Bool := decide (0 ≤ c) && decide (c ≤ 2 ^ 40) && decide ((b : Int) * c ≤ 2 ^ 47)
theorem mkb {b : Nat} {c : Int} (h : mkB b c = true) : 0 ≤ c ∧ c ≤ 2 ^ 40 ∧ (b : Int) * c ≤ 2 ^ 47 := by
 unfold mkB at h
 simp only [Bool.and_eq_true,decide_eq_true_eq] at h
 exact ⟨h.1.1,h.1.2,h.2⟩
theorem fitO_set {ns : NM} {W : WH} {n m : Nat} {ks : List Value} {v v0 : Option Value} (h1 : lk ns n = some (some m)) (h2 : lk W.objs m = some (.set ks v0)) (h3 : v0 = none ∨ v0 = v) : fitO ns W n (.set ks v) := by
 unfold fitO; rw [h1]; exact ⟨v0,h2,h3⟩
theorem deep_map {α : Type} {H : WH} {f : α → List WV} {l : List α} {x : α} {c : List WV} {ns : List Nat} (h : ∀ a,(f a).all leafB = true) (hc : DeepC H c (f x) ns) : Deep H (l.map f ++ [c]) ((l ++ [x]).map f) ns := by
 rw [List.map_append]
 exact deep_snoc (leafs_map h l) hc
end
end Go.Abs.RM
end
section
namespace Go.Abs.RM
noncomputable section
structure S179 where
 f0 : ByteArray
 f1 : Int
 deriving Inhabited
def S179.c (e : S179) : List WV := [.sc (.string e.f0),.sc (.int .i64 e.f1)]
structure S215 where
 f0 : Int
 f1 : Int
 deriving Inhabited
def S215.c (e : S215) : List WV := [.sc (.int .i64 e.f0),.sc (.int .i64 e.f1)]
structure S59 where
 f0 : List S179
 f1 : List S215
 f2 : Int
 f3 : Int
 f4 : Int
 f5 : Int
 f6 : Int
 f7 : Int
 f8 : Int
 deriving Inhabited
def S59.c (e : S59) : List WV := [.lst (e.f0.map S179.c),.lst (e.f1.map S215.c),.sc (.int .i64 e.f2),.sc (.int .i64 e.f3),.sc (.int .i64 e.f4),.sc (.int .i64 e.f5),.sc (.int .i64 e.f6),.sc (.int .i64 e.f7),.sc (.int .i64 e.f8)]
structure S61 where
 f0 : ByteArray
 f1 : Int
 f2 : Int
 f3 : Bool
 f4 : ByteArray
 f5 : List ByteArray
 f6 : List ByteArray
 f7 : S59
 deriving Inhabited
def S61.c (e : S61) : List WV := [.sc (.string e.f0),.sc (.int .i64 e.f1),.sc (.int .i64 e.f2),.sc (.bool e.f3),.sc (.string e.f4),.lst (e.f5.map cStr),.lst (e.f6.map cStr),.lst (e.f7.f0.map S179.c),.lst (e.f7.f1.map S215.c),.sc (.int .i64 e.f7.f2),.sc (.int .i64 e.f7.f3),.sc (.int .i64 e.f7.f4),.sc (.int .i64 e.f7.f5),.sc (.int .i64 e.f7.f6),.sc (.int .i64 e.f7.f7),.sc (.int .i64 e.f7.f8)]
structure S63 where
 f0 : ByteArray
 f1 : Int
 deriving Inhabited
def S63.c (e : S63) : List WV := [.sc (.string e.f0),.sc (.int .i64 e.f1)]
structure S65 where
 f0 : Int
 f1 : ByteArray
 f2 : ByteArray
 f3 : Int
 f4 : Bool
 f5 : ByteArray
 f6 : Int
 f7 : Int
 f8 : List Int
 f9 : List Int
 f10 : S61
 f11 : Int
 f12 : S63
 deriving Inhabited
def S65.c (e : S65) : List WV := [.sc (.int .i64 e.f0),.sc (.string e.f1),.sc (.string e.f2),.sc (.int .i64 e.f3),.sc (.bool e.f4),.sc (.string e.f5),.sc (.int .i64 e.f6),.sc (.int .i64 e.f7),.lst (e.f8.map c_i64),.lst (e.f9.map c_i64),.sc (.string e.f10.f0),.sc (.int .i64 e.f10.f1),.sc (.int .i64 e.f10.f2),.sc (.bool e.f10.f3),.sc (.string e.f10.f4),.lst (e.f10.f5.map cStr),.lst (e.f10.f6.map cStr),.lst (e.f10.f7.f0.map S179.c),.lst (e.f10.f7.f1.map S215.c),.sc (.int .i64 e.f10.f7.f2),.sc (.int .i64 e.f10.f7.f3),.sc (.int .i64 e.f10.f7.f4),.sc (.int .i64 e.f10.f7.f5),.sc (.int .i64 e.f10.f7.f6),.sc (.int .i64 e.f10.f7.f7),.sc (.int .i64 e.f10.f7.f8),.sc (.int .i64 e.f11),.sc (.string e.f12.f0),.sc (.int .i64 e.f12.f1)]
structure S135 where
 f0 : Int
 f1 : Int
 f2 : Int
 f3 : Bool
 deriving Inhabited
def S135.c (e : S135) : List WV := [.sc (.int .i64 e.f0),.sc (.int .i64 e.f1),.sc (.int .i64 e.f2),.sc (.bool e.f3)]
structure S71 where
 f0 : Int
 f1 : ByteArray
 f2 : Int
 deriving Inhabited
def S71.c (e : S71) : List WV := [.sc (.int .i64 e.f0),.sc (.string e.f1),.sc (.int .i64 e.f2)]
structure S73 where
 f0 : ByteArray
 f1 : Int
 f2 : Int
 f3 : Int
 deriving Inhabited
def S73.c (e : S73) : List WV := [.sc (.string e.f0),.sc (.int .i64 e.f1),.sc (.int .i64 e.f2),.sc (.int .i64 e.f3)]
structure S75 where
 f0 : ByteArray
 f1 : Int
 deriving Inhabited
def S75.c (e : S75) : List WV := [.sc (.string e.f0),.sc (.int .i64 e.f1)]
structure S30 where
 f0 : ByteArray
 f1 : List S65
 f2 : List S135
 f3 : List S65
 f4 : List Int
 f5 : List S71
 f6 : Int
 f7 : List S73
 f8 : List S75
 deriving Inhabited
def S30.c (e : S30) : List WV := [.sc (.string e.f0),.lst (e.f1.map S65.c),.lst (e.f2.map S135.c),.lst (e.f3.map S65.c),.lst (e.f4.map c_i64),.lst (e.f5.map S71.c),.sc (.int .i64 e.f6),.lst (e.f7.map S73.c),.lst (e.f8.map S75.c)]
structure S139 where
 f0 : Int
 f1 : List S71
 f2 : List S71
 f3 : Int
 deriving Inhabited
def S139.c (e : S139) : List WV := [.sc (.int .i64 e.f0),.lst (e.f1.map S71.c),.lst (e.f2.map S71.c),.sc (.int .i64 e.f3)]
structure S227 where
 f0 : List S71
 f1 : List Int
 f2 : List S71
 f3 : List Int
 f4 : List S71
 deriving Inhabited
def S227.c (e : S227) : List WV := [.lst (e.f0.map S71.c),.lst (e.f1.map c_i64),.lst (e.f2.map S71.c),.lst (e.f3.map c_i64),.lst (e.f4.map S71.c)]
structure S103 where
 f0 : Int
 f1 : ByteArray
 f2 : ByteArray
 deriving Inhabited
def S103.c (e : S103) : List WV := [.sc (.int .i64 e.f0),.sc (.string e.f1),.sc (.string e.f2)]
structure S112 where
 f0 : S30
 deriving Inhabited
def S112.c (e : S112) : List WV := [.sc (.string e.f0.f0),.lst (e.f0.f1.map S65.c),.lst (e.f0.f2.map S135.c),.lst (e.f0.f3.map S65.c),.lst (e.f0.f4.map c_i64),.lst (e.f0.f5.map S71.c),.sc (.int .i64 e.f0.f6),.lst (e.f0.f7.map S73.c),.lst (e.f0.f8.map S75.c)]
def cL24 (l : List Int) : List WV := [.lst (l.map c_i64)]
def cL26 (l : List S71) : List WV := [.lst (l.map S71.c)]
def ze59 : S59 := ⟨[],[],(0 : Int),(0 : Int),(0 : Int),(0 : Int),(0 : Int),(0 : Int),(0 : Int)⟩
def ze61 : S61 := ⟨zS,(0 : Int),(0 : Int),false,zS,[],[],ze59⟩
def ze63 : S63 := ⟨zS,(0 : Int)⟩
def ze65 : S65 := ⟨(0 : Int),zS,zS,(0 : Int),false,zS,(0 : Int),(0 : Int),[],[],ze61,(0 : Int),ze63⟩
def ze135 : S135 := ⟨(0 : Int),(0 : Int),(0 : Int),false⟩
def ze139 : S139 := ⟨(0 : Int),[],[],(0 : Int)⟩
def ze103 : S103 := ⟨(0 : Int),zS,zS⟩
end
end Go.Abs.RM
end
section
namespace Go.Abs.RM
section
variable {α β : Type} {r : β}
def nx (i : Int) : Int := IntKind.wrap .i64 (i + 1)
def at1 (l : List α) (i : Int) (k : α → Option β) : Option β := bif decide (0 ≤ i) then (l[i.toNat]?).bind k else none
def atS (l : ByteArray) (i : Int) (k : UInt8 → Option β) : Option β := bif decide (0 ≤ i) then (l[i.toNat]?).bind k else none
def inB (l : List α) (i : Int) (x : Option β) : Option β := bif decide (0 ≤ i) && decide (i.toNat < l.length) then x else none
def rm {γ : Type} (b : Nat) (l : List α) (m : List γ) (x : Option β) : Option β := bif roomB b (l.length + m.length) then x else none
theorem B {b : Bool} {x y : Option β} {X Y : Prop} (hI : (bif b then x else y) = some r) (h1 : x = some r → X) (h2 : y = some r → Y) : Bool.rec (motive := fun _ => Prop) Y X b := by
 cases b
 ·exact h2 hI
 ·exact h1 hI
theorem cL {l : List α} {f : α → List WV} {i : Int} {k : α → Option β} {s : Nat} {X : List WV → Prop} (hI : at1 l i k = some r) (hl : ∀ a,(f a).length = s) (h : ∀ a,k a = some r → X (f a)) : 0 ≤ i ∧ ∃ cs,(l.map f)[i.toNat]? = some cs ∧ cs.length = s ∧ X cs := by
 obtain ⟨hc,hI⟩ := ckd hI
 obtain ⟨x,hx,hI⟩ := bnd hI
 exact ⟨of_decide_eq_true hc,f x,at_ _ hx,hl x,h x hI⟩
theorem cS {a : ByteArray} {i : Int} {k : UInt8 → Option β} {X : UInt8 → Prop} (hI : atS a i k = some r) (h : ∀ b,k b = some r → X b) : 0 ≤ i ∧ ∃ b,a[i.toNat]? = some b ∧ X b := by
 obtain ⟨hc,hI⟩ := ckd hI
 obtain ⟨x,hx,hI⟩ := bnd hI
 exact ⟨of_decide_eq_true hc,x,hx,h x hI⟩
theorem cR {l : List α} {f : α → List WV} {i : Int} {x : Option β} {X : Prop} (hI : inB l i x = some r) (h : x = some r → X) : 0 ≤ i ∧ i.toNat < (l.map f).length ∧ X := by
 obtain ⟨hc,hI⟩ := ckd hI
 exact ⟨inb1 hc,inb2 hc,h hI⟩
theorem eL {l : List α} {f : α → List WV} {i : Nat} {k : α → Option β} {X : List WV → Prop} (hI : (l[i]?).bind k = some r) (h : ∀ a,k a = some r → X (f a)) : ∃ cs,(l.map f)[i]? = some cs ∧ X cs := by
 obtain ⟨x,hx,hI⟩ := bnd hI
 exact ⟨f x,at_ _ hx,h x hI⟩
theorem aG {l m : List α} {f : α → List WV} {b s : Nat} {ys : List (List WV)} {x : Option β} {X : List (List WV) → Prop} (hI : rm b l m x = some r) (hy : ys.length = m.length) (hc : cellP s ys) (e : l.map f ++ ys = (l ++ m).map f) (h : x = some r → X ((l ++ m).map f)) : roomP b ((l.map f).length + ys.length) ∧ cellP s ys ∧ ∃ zs,l.map f ++ ys = zs ∧ X zs := by
 obtain ⟨hb,hI⟩ := ckd hI
 exact ⟨rooms hb hy,hc,_,e,h hI⟩
theorem aM {l m : List α} {f : α → List WV} {b s : Nat} {ys : List (List WV)} {x : Option β} {X : List (List WV) → Prop} (hI : rm b l m x = some r) (e : ys = m.map f) (hc : ∀ a,(f a).length = s ∧ (f a).all storableW = true) (h : x = some r → X ((l ++ m).map f)) : roomP b ((l.map f).length + ys.length) ∧ cellP s ys ∧ ∃ zs,l.map f ++ ys = zs ∧ X zs := by
 subst e
 exact aG hI (List.length_map ..) (cellP_map hc _) List.map_append.symm h
theorem mk0 {b : Nat} {c : Int} {x : Option β} {zs : List WV} {X : List (List WV) → Prop} (hI : (bif mkB b c then x else none) = some r) (h : x = some r → X []) : (0 : Int) ≤ 0 ∧ 0 ≤ c ∧ c ≤ 2 ^ 40 ∧ (b : Int) * c ≤ 2 ^ 47 ∧ ∃ z,List.replicate (0 : Int).toNat zs = z ∧ X z := by
 obtain ⟨hc,hI⟩ := ckd hI
 exact ⟨Int.le_refl 0,(mkb hc).1,(mkb hc).2.1,(mkb hc).2.2,[],rfl,h hI⟩
theorem mkN {b : Nat} {c : Int} {x : Option β} {f : α → List WV} {z : α} {zs : List WV} {X : List (List WV) → Prop} (hI : (bif mkB b c then x else none) = some r) (e : zs = f z) (h : x = some r → X ((List.replicate c.toNat z).map f)) : 0 ≤ c ∧ c ≤ c ∧ c ≤ 2 ^ 40 ∧ (b : Int) * c ≤ 2 ^ 47 ∧ ∃ y,List.replicate c.toNat zs = y ∧ X y := by
 obtain ⟨hc,hI⟩ := ckd hI
 exact ⟨(mkb hc).1,Int.le_refl _,(mkb hc).2.1,(mkb hc).2.2,_,(by rw [List.map_replicate,e]),h hI⟩
theorem cI {g : FuncId} {args : List WV} {en : α → WV} {o : Option α} {k : α → Option β} {X : WV → Prop} {Y : Prop} (hI : o.bind k = some r) (ok : ∀ z,o = some z → WValid P g args (fun v => v = en z)) (h : ∀ z,k z = some r → X (en z)) : (∃ G,WValid P g args G ∧ ∀ v,G v → X v) ∨ Y := by
 obtain ⟨z,hz,hI⟩ := bnd hI
 exact .inl ⟨_,ok z hz,fun v e => by subst e; exact h z hI⟩
theorem cO {g : FuncId} {args : List WV} {s : Nat} {b : Bool} {f : List α → List (List WV)} {o : Option (List α)} {k : List α → Option β} {X : Nat → Bool → List (List WV) → Prop} {Y Z : Prop} (hI : o.bind k = some r) (ok : ∀ z,o = some z → WOwn P g args s b (fun v => v = f z)) (h : ∀ z,k z = some r → X s b (f z)) : Z ∨ (∃ s b G,WOwn P g args s b G ∧ ∀ v,G v → X s b v) ∨ Y := by
 obtain ⟨z,hz,hI⟩ := bnd hI
 exact .inr (.inl ⟨_,_,_,ok z hz,fun v e => by subst e; exact h z hI⟩)
theorem cT {γ : Type} {g : FuncId} {vs post : List WV} {es : List (List WV)} {objs : List (Nat × WO)} {m s rt : Nat} {f : γ → List (List WV)} {o : Option γ} {k : γ → Option β} {X : Nat → Nat → Nat → List (List WV) → Prop} {Y Z V : Prop} (hI : o.bind k = some r) (hl : leafs es) (ok : ∀ z,o = some z → WSet P g post s es (fun v => v = f z)) (h : ∀ z,k z = some r → X m s rt (f z)) (e1 : vs = .row m :: post) (e2 : lk objs m = some (.row es s false rt)) (e3 : post.all leafB = true) :
  Y ∨ Z ∨ V ∨ (∃ m post es s rt G,vs = .row m :: post ∧ lk objs m = some (.row es s false rt) ∧ leafs es ∧ post.all leafB = true ∧ WSet P g post s es G ∧ ∀ es',G es' → X m s rt es') := by
 obtain ⟨z,hz,hI⟩ := bnd hI
 exact .inr (.inr (.inr ⟨_,_,_,_,_,_,e1,e2,hl,e3,ok z hz,fun v e => by subst e; exact h z hI⟩))
theorem fitT_of {ns : NM} {T : WT} : ∀ {T1 : WT} {vs : List WV},mapO (fun p : Nat × WV => backV ns p.2) T1 = some vs → T1.map (fun p => lk T p.1) = vs.map some → fitT ns T T1
 | [],_,_,_ => trivial
 | (t,v) :: T1,vs,h1,h2 => by
  unfold mapO at h1
  split at h1
  ·cases h1
  ·rename_i b hb
   split at h1
   ·cases h1
   ·rename_i bs hbs
    cases h1
    simp only [List.map_cons,List.cons.injEq] at h2
    exact ⟨⟨h2.1.trans hb.symm,by rw [hb]; rfl⟩,fitT_of hbs h2.2⟩
theorem ft {T : WT} {W : WH} (ns : NM) {T1 : WT} {W1 : WH} {vs : List WV} (hn : nmOk ns W1.nx = true) (h1 : mapO (fun p : Nat × WV => backV ns p.2) T1 = some vs) (h2 : T1.map (fun p => lk T p.1) = vs.map some) (hH : fitH ns W W1.objs) : Suits T W T1 W1 := fit_of ns hn (fitT_of h1 h2) hH
theorem fR {ns : NM} {W : WH} {n m s rt rt' : Nat} {f : α → List WV} {l : List α} (h1 : lk ns n = some (some m)) (h2 : lk W.objs m = some (.row (l.map f) s false rt')) (h : ∀ a,(f a).all leafB = true) : fitO ns W n (.row (l.map f) s false rt) := fitO_row h1 h2 (leafs_map h l) fun _ => rfl
theorem fRZ {ns : NM} {W : WH} {n m s rt rt' : Nat} {f : α → List WV} {l : List α} {fz : Bool} (h1 : lk ns n = some (some m)) (h2 : lk W.objs m = some (.row (l.map f) s fz rt')) (h : ∀ a,(f a).all leafB = true) : fitO ns W n (.row (l.map f) s true rt) := fitO_row h1 h2 (leafs_map h l) fun h => by cases h
theorem fB {ns : NM} {W : WH} {n m : Nat} {cs : List WV} (h1 : lk ns n = some (some m)) (h2 : cs.all leafB = true) (h3 : lk W.objs m = some (.box cs false)) : fitO ns W n (.box cs false) := fitO_box h1 h2 h3 fun _ => rfl
theorem L1 {A0 : Type} {T : WT} {W : WH} {x : Code} {Q : WQ} {D : Nat → A0 → Option β} {n : Nat} {s0 : A0} (sh : A0 → WT) (hp : A0 → WH) (hI : D n s0 = some r) (fit : Suits T W (sh s0) (hp s0)) (z : ∀ s0,D 0 s0 = none)
  (step : ∀ n s0,D (n + 1) s0 = some r → Wk P tabL x (sh s0) (hp s0) (fun e T' W' => match e with | .normal => ∃ q : Nat × A0,D q.1 q.2 = some r ∧ q.1 < n + 1 ∧ Suits T' W' (sh q.2) (hp q.2) | .exit id => Q (.exit id) T' W' | .ret => Q .ret T' W')) : LoopW P x T W Q := by
 refine loopW tabOk mixed (S := Nat × A0) (fun q => sh q.2) (fun q => hp q.2) (fun q => D q.1 q.2 = some r) (fun q => q.1) ⟨n,s0⟩ hI fit ?_
 rintro ⟨n,s0⟩ hI
 cases n with
 | zero => rw [z] at hI; cases hI
 | succ n =>
  exact step n s0 hI
theorem L2 {A0 A1 : Type} {T : WT} {W : WH} {x : Code} {Q : WQ} {D : Nat → A0 → A1 → Option β} {n : Nat} {s0 : A0} {s1 : A1} (sh : A0 → A1 → WT) (hp : A0 → A1 → WH) (hI : D n s0 s1 = some r) (fit : Suits T W (sh s0 s1) (hp s0 s1)) (z : ∀ s0 s1,D 0 s0 s1 = none)
  (step : ∀ n s0 s1,D (n + 1) s0 s1 = some r → Wk P tabL x (sh s0 s1) (hp s0 s1) (fun e T' W' => match e with | .normal => ∃ q : Nat × A0 × A1,D q.1 q.2.1 q.2.2 = some r ∧ q.1 < n + 1 ∧ Suits T' W' (sh q.2.1 q.2.2) (hp q.2.1 q.2.2) | .exit id => Q (.exit id) T' W' | .ret => Q .ret T' W')) : LoopW P x T W Q := by
 refine loopW tabOk mixed (S := Nat × A0 × A1) (fun q => sh q.2.1 q.2.2) (fun q => hp q.2.1 q.2.2) (fun q => D q.1 q.2.1 q.2.2 = some r) (fun q => q.1) ⟨n,s0,s1⟩ hI fit ?_
 rintro ⟨n,s0,s1⟩ hI
 cases n with
 | zero => rw [z] at hI; cases hI
 | succ n =>
  exact step n s0 s1 hI
theorem L3 {A0 A1 A2 : Type} {T : WT} {W : WH} {x : Code} {Q : WQ} {D : Nat → A0 → A1 → A2 → Option β} {n : Nat} {s0 : A0} {s1 : A1} {s2 : A2} (sh : A0 → A1 → A2 → WT) (hp : A0 → A1 → A2 → WH) (hI : D n s0 s1 s2 = some r) (fit : Suits T W (sh s0 s1 s2) (hp s0 s1 s2)) (z : ∀ s0 s1 s2,D 0 s0 s1 s2 = none)
  (step : ∀ n s0 s1 s2,D (n + 1) s0 s1 s2 = some r → Wk P tabL x (sh s0 s1 s2) (hp s0 s1 s2) (fun e T' W' => match e with | .normal => ∃ q : Nat × A0 × A1 × A2,D q.1 q.2.1 q.2.2.1 q.2.2.2 = some r ∧ q.1 < n + 1 ∧ Suits T' W' (sh q.2.1 q.2.2.1 q.2.2.2) (hp q.2.1 q.2.2.1 q.2.2.2) | .exit id => Q (.exit id) T' W' | .ret => Q .ret T' W')) : LoopW P x T W Q := by
 refine loopW tabOk mixed (S := Nat × A0 × A1 × A2) (fun q => sh q.2.1 q.2.2.1 q.2.2.2) (fun q => hp q.2.1 q.2.2.1 q.2.2.2) (fun q => D q.1 q.2.1 q.2.2.1 q.2.2.2 = some r) (fun q => q.1) ⟨n,s0,s1,s2⟩ hI fit ?_
 rintro ⟨n,s0,s1,s2⟩ hI
 cases n with
 | zero => rw [z] at hI; cases hI
 | succ n =>
  exact step n s0 s1 s2 hI
end
end Go.Abs.RM
end
section
namespace Go.Proofs.RMH
open Go.RowKit Go.Lib
def fitsL : List UInt8 → List UInt8 → Bool
  | [],[] => true
  | a :: r,b :: s => (a == 63 || a == b) && fitsL r s
  | _,_ => false
def asciiB (s : ByteArray) : Bool := s.data.toList.all fun b => decide (b.toNat < 128)
theorem fitsL_len : ∀ {a b : List UInt8},a.length ≠ b.length → fitsL a b = false
  | [],[],h => absurd rfl h
  | [],_ :: _,_ => rfl
  | _ :: _,[],_ => rfl
  | a :: r,b :: s,h => by
    have : r.length ≠ s.length := fun e => h (by simp [e])
    simp [fitsL,fitsL_len this]
theorem fits_drop {p s : ByteArray} {i : Nat} (hp : i < p.size) (hs : i < s.size) : fitsL (p.data.toList.drop i) (s.data.toList.drop i) = ((p[i] == 63 || p[i] == s[i]) && fitsL (p.data.toList.drop (i + 1)) (s.data.toList.drop (i + 1))) := by
  rw [List.drop_eq_getElem_cons (l := p.data.toList) (i := i) (by simpa using hp),List.drop_eq_getElem_cons (l := s.data.toList) (i := i) (by simpa using hs)]
  rfl
set_option maxRecDepth 100000 in
set_option maxHeartbeats 1000000 in
theorem fits_walk (p s : ByteArray) (w : World) (hsz : p.size ≤ 1000000) (hascii : asciiB p = true) :
    Calls Tryz.prog 193 #[.string p,.string s] w fun e w' => e = .returned (.bool (fitsL p.data.toList s.data.toList)) ∧ Below w.heap.size w w' := by
  have HA := Lib.hid hascii
  clear hascii
  go_enter Tryz.func193,Tryz.ntmps193
  by_cases hn : p.size = s.size
  · go_wp2
    go_loopg [] p.size (fun g wx => ∃ i : Nat,i + g = p.size ∧ wx = w.iter p i ∧ fitsL (p.data.toList.drop i) (s.data.toList.drop i) = fitsL p.data.toList s.data.toList)
    case atStart => exact ⟨0,by omega,rfl,rfl⟩
    case round =>
      obtain ⟨i,hig,rfl,hrec⟩ := hrel
      have HR := Lib.hid hrec
      clear hrec
      cases gk with
      | zero =>
        obtain rfl : i = s.size := by omega
        have hnx := fun ty => run_next_end (P := Tryz.prog) w p s.size ty (by omega)
        go_wp2
        go_ret
        refine ⟨?_,(Below.refl _ _).alloc (Nat.le_refl _) _⟩
        rw [← (HR : _ = _)]
        rw [List.drop_of_length_le (by simp; omega),List.drop_of_length_le (by simp)]
        rfl
      | succ g =>
        have hi : i < p.size := by omega
        have ha : (p[i]'hi).toNat < 128 := by
          have hA : asciiB p = true := HA
          unfold asciiB at hA
          exact of_decide_eq_true (List.all_eq_true.1 hA _ (List.getElem_mem (l := p.data.toList) (n := i) (by simpa using hi)))
        have hnx := fun ty => run_next_ascii (P := Tryz.prog) w p i ty hi ha
        have hs : i < s.size := by omega
        have hsi : s[i]? = some s[i] := by simp [hs]
        have HF := Lib.hid (fits_drop hi hs)
        go_wp2
        · rename_i h
          go_roundg g
          case measure => omega
          case rel =>
            refine ⟨i + 1,by omega,rfl,?_⟩
            rw [← (HR : _ = _),(HF : _ = _)]
            have : p[i] = 63 := UInt8.toNat_inj.1 (by show p[i].toNat = 63; omega)
            rw [this]; rfl
        · rename_i h h2
          go_ret
          refine ⟨?_,(Below.refl _ _).alloc (Nat.le_refl _) _⟩
          rw [← (HR : _ = _),(HF : _ = _)]
          have h3 : (p[i] == 63) = false := by simp only [beq_eq_false_iff_ne]; intro e; rw [e] at h; exact h rfl
          have h4 : (p[i] == s[i]) = false := by simp only [beq_eq_false_iff_ne]; intro e; have := h2.2; rw [e] at this; simp at this
          rw [h3,h4]; rfl
        · rename_i h h2
          go_roundg g
          case measure => omega
          case rel =>
            refine ⟨i + 1,by omega,rfl,?_⟩
            rw [← (HR : _ = _),(HF : _ = _)]
            have h4 : p[i] = s[i] := UInt8.toNat_inj.1 (by rcases h2 with h2 | h2 <;> simp at h2 <;> omega)
            rw [h4]; simp
  · go_wp2
    go_ret
    rw [fitsL_len (by simpa using hn)]
    exact ⟨rfl,Below.refl _ _⟩
def cutS : List UInt8 → List UInt8 → List ByteArray
  | [],cur => [⟨cur.toArray⟩]
  | b :: r,cur => bif b == 42 then ⟨cur.toArray⟩ :: cutS r [] else cutS r (cur ++ [b])
theorem cutS_step {p : ByteArray} {pos : Nat} (h : pos < p.size) (cur : List UInt8) : cutS (p.data.toList.drop pos) cur = bif p[pos] == 42 then ⟨cur.toArray⟩ :: cutS (p.data.toList.drop (pos + 1)) [] else cutS (p.data.toList.drop (pos + 1)) (cur ++ [p[pos]]) := by
  rw [List.drop_eq_getElem_cons (l := p.data.toList) (i := pos) (by simpa using h)]
  rfl
theorem ext_nil (p : ByteArray) (n : Nat) : (p.extract n n).data.toList = [] := by
  apply List.eq_nil_of_length_eq_zero
  show (p.extract n n).size = 0
  simp
theorem ext_snoc {p : ByteArray} {f n : Nat} (hf : f ≤ n) (hn : n < p.size) : (p.extract f (n + 1)).data.toList = (p.extract f n).data.toList ++ [p[n]] := by
  simp only [ByteArray.data_extract,Array.toList_extract,List.extract_eq_take_drop]
  rw [show n + 1 - f = (n - f) + 1 by omega,List.take_add_one,List.getElem?_drop,show f + (n - f) = n by omega,List.getElem?_eq_getElem (by simpa using hn)]
  rfl
theorem arr_eq (p : ByteArray) : (⟨p.data.toList.toArray⟩ : ByteArray) = p := by cases p; simp
theorem map_str_snoc (l : List ByteArray) (x : ByteArray) : l.map Value.string ++ [.string x] = (l ++ [x]).map Value.string := by simp
theorem cell_one_new (w : World) (a : Value) (t : TypeId) : ∀ j u,[a][j]? = some u → (w.alloc (.cells #[a] t)).cell? ((⟨w.heap.size,0,none⟩ : Addr).add j) = some u := by
  intro j u hj
  match j,hj with
  | 0,hj => simp at hj; subst hj; simp [Addr.add]
  | j + 1,hj => simp at hj
theorem Tryz.info9' : (Tryz.prog.info? 9).map (fun i => (i.zero,i.size,i.bytes)) = some (some (.string ByteArray.empty),1,16) := by kernel_rfl
theorem Tryz.under49 : Tryz.prog.underlying 49 = some (.slice 9) := by kernel_rfl
set_option maxRecDepth 100000 in
set_option maxHeartbeats 1000000 in
theorem pieces_walk (p : ByteArray) (w : World) (hsz : p.size ≤ 1000000) (hascii : asciiB p = true) :
    Calls Tryz.prog 192 #[.string p] w fun e w' => ∃ v,e = .returned v ∧ w'.ownsRow (w.heap.size + 1) 9 1 v (cutS p.data.toList []).length ((cutS p.data.toList []).map Value.string) ∧ Below w.heap.size w w' := by
  have HA := Lib.hid hascii
  clear hascii
  obtain ⟨i0,hi,hz0,hz1,hz2⟩ := info_parts Tryz.info9'
  go_enter Tryz.func192,Tryz.ntmps192
  go_wp2
  go_loopw [3,4] (fun v fr wr => ∃ (pos f : Nat) (acc : List ByteArray),fr = .int .i64 f ∧ wr.heap[w.heap.size]? = some (.stringIter p pos) ∧ wr.ownsRow (w.heap.size + 1) 9 1 v acc.length (acc.map Value.string) ∧ Below w.heap.size w wr ∧ Hid (acc ++ cutS (p.data.toList.drop pos) (p.extract f pos).data.toList = cutS p.data.toList []) ∧ f ≤ pos ∧ pos ≤ p.size ∧ acc.length ≤ pos) (fun _ _ wr => p.size - wr.iterPos w.heap.size)
  case atStart => exact ⟨0,0,[],rfl,World.iter_heap w p 0,World.ownsRow_nil _ _ _ _,(Below.refl _ _).alloc (Nat.le_refl _) _,Lib.hid (by simp),by omega,by omega,by simp⟩
  case round =>
    obtain ⟨pos,f,acc,rfl,hit,hown,hbw,HS,hf,hps,hlen⟩ := hrel
    have hpos0 := iterPos_of hit
    by_cases hp : pos < p.size
    · have ha : (p[pos]'hp).toNat < 128 := by
        have hA : asciiB p = true := HA
        unfold asciiB at hA
        exact of_decide_eq_true (List.all_eq_true.1 hA _ (List.getElem_mem (l := p.data.toList) (n := pos) (by simpa using hp)))
      have hnx : ∀ ty,(Instr.next (.pointer (some ⟨w.heap.size,0,none⟩)) true ty).run Tryz.prog wr = _ := fun ty => Lib.run_next_ascii_at wr w.heap.size p pos ty hit hp ha
      have hit2 := Lib.iterAt_heap wr w.heap.size p pos (pos + 1) hit
      have hbw2 := Lib.below_iterAt hbw (k := w.heap.size) (Nat.le_refl _) p (pos + 1)
      have hown2 := ownsRow_iterAt hown (k := w.heap.size) (by omega) p (pos + 1)
      obtain ⟨W1,hW1⟩ : ∃ W1,W1 = wr.iterAt w.heap.size p (pos + 1) := ⟨_,rfl⟩
      rw [← hW1] at hnx hit2 hbw2 hown2
      have hBlt := lt_of_block hit2
      clear hW1 hit hown hbw
      have HF := Lib.hid (cutS_step hp (p.extract f pos).data.toList)
      go_wp2_with (first
        | (at_builtin; refine wpList_append_own _ rfl _ _ 49 rfl (w.heap.size + 1) 9 i0 (.string ByteArray.empty) 1 16 Tryz.under49 hi hz0 hz1 hz2 rfl (by decide) _ _ _ rfl (hown2.alloc _) ⟨W1.heap.size,0,none⟩ 1 1 [.string (p.extract f pos)] rfl rfl (cell_one_new _ _ _) (fun x hx => by simp at hx; subst hx; rfl) (by unfold maxLen; omega) (by omega) (by simp; omega) ?_; intro v' w3 hown' hgrow3 hnil3
           have hit3 : w3.heap[w.heap.size]? = some (.stringIter p (pos + 1)) := by
             rw [hgrow3.block w.heap.size (by simp; omega) (fun h => by have := (hown2.lt _ h.symm).1; omega),Below.heap_alloc _ _ _ hBlt]; exact hit2
           have hbw3 : Below w.heap.size w w3 := Below.grown (hbw2.alloc (by omega) _) hgrow3 (by simp; omega) (fun j hj => by have := (hown2.lt _ hj).1; omega)
           have X : Aside (w3.ownsRow (w.heap.size + 1) 9 1 v' (acc.length + 1) (acc.map Value.string ++ [.string (p.extract f pos)]) ∧ w3.heap[w.heap.size]? = some (.stringIter p (pos + 1)) ∧ Below w.heap.size w w3) := ⟨hown',hit3,hbw3⟩
           clear hown' hgrow3 hnil3 hit3 hbw3))
      · rename_i h
        have e1 : (p[pos] == 42) = true := by
          have : p[pos].toNat = 42 := by simp at h; omega
          simpa using UInt8.toNat_inj.1 this
        have hX := X.out
        rw [map_str_snoc] at hX
        refine ⟨⟨pos + 1,pos + 1,acc ++ [p.extract f pos],rfl,hX.2.1,by simpa using hX.1,hX.2.2,Lib.hid ?_,by omega,by omega,by simp; omega⟩,by rw [iterPos_of hX.2.1,hpos0]; omega⟩
        rw [← (HS : _ = _),(HF : _ = _),ext_nil,e1,arr_eq]
        simp
      · rename_i h
        have e1 : (p[pos] == 42) = false := by
          simp only [beq_eq_false_iff_ne]; intro e; rw [e] at h; simp at h
        refine ⟨⟨pos + 1,f,acc,rfl,hit2,hown2,hbw2,Lib.hid ?_,by omega,by omega,by omega⟩,by rw [iterPos_of hit2,hpos0]; omega⟩
        rw [← (HS : _ = _),(HF : _ = _),ext_snoc hf hp,e1]
        rfl
    · have hnx : ∀ ty,(Instr.next (.pointer (some ⟨w.heap.size,0,none⟩)) true ty).run Tryz.prog wr = _ := fun ty => Lib.run_next_end_at wr w.heap.size p pos ty hit hp
      obtain rfl : pos = p.size := by omega
      have hBlt := lt_of_block hit
      go_wp2_with (first
        | (at_builtin; refine wpList_append_own _ rfl _ _ 49 rfl (w.heap.size + 1) 9 i0 (.string ByteArray.empty) 1 16 Tryz.under49 hi hz0 hz1 hz2 rfl (by decide) _ _ _ rfl (hown.alloc _) ⟨wr.heap.size,0,none⟩ 1 1 [.string (p.extract f p.size)] rfl rfl (cell_one_new _ _ _) (fun x hx => by simp at hx; subst hx; rfl) (by unfold maxLen; omega) (by omega) (by simp; omega) ?_; intro v' w3 hown' hgrow3 hnil3
           have hbw3 : Below w.heap.size w w3 := Below.grown (hbw.alloc (by omega) _) hgrow3 (by simp; omega) (fun j hj => by have := (hown.lt _ hj).1; omega)
           have X : Aside (w3.ownsRow (w.heap.size + 1) 9 1 v' (acc.length + 1) (acc.map Value.string ++ [.string (p.extract f p.size)]) ∧ Below w.heap.size w w3) := ⟨hown',hbw3⟩
           clear hown' hgrow3 hnil3 hbw3))
      go_ret
      have hX := X.out
      rw [map_str_snoc] at hX
      have e : cutS p.data.toList [] = acc ++ [p.extract f p.size] := by
        rw [← (HS : _ = _),List.drop_of_length_le (by simp)]
        show _ = acc ++ [_]
        rw [cutS,arr_eq]
      rw [e]
      exact ⟨_,rfl,by simpa using hX.1,hX.2⟩
end Go.Proofs.RMH
namespace Go.Abs.RM
open Go.Proofs Go.Proofs.RMH Go.RowKit
noncomputable section
theorem tvs_str {w : World} {I : Nat → Nat → Prop} {J : Nat → Prop} : ∀ l : List ByteArray,TVs w I J (l.map fun s => .sc (.string s)) (l.map Value.string)
  | [] => .nil
  | _ :: l => .cons (.sc rfl) (tvs_str l)
theorem flatten_strs : ∀ l : List ByteArray,(l.map fun s => [AV.sc (.string s)]).flatten = l.map fun s => .sc (.string s)
  | [] => rfl
  | s :: l => by show _ :: (List.map (fun s => [AV.sc (Value.string s)]) l).flatten = _; rw [flatten_strs l]; rfl
theorem strs_show {w w' : World} {I : Nat → Nat → Prop} {J : Nat → Prop} {l : List ByteArray} {v : Value} {base : Nat} (hrow : w'.ownsRow base 9 1 v l.length (l.map Value.string)) (hb : w.heap.size ≤ base) (hne : l ≠ []) :
    ∃ I' : Nat → Nat → Prop,(∀ b off,I b off → I' b off) ∧ (∀ b off,I' b off → I b off ∨ (w.heap.size ≤ b ∧ b < w'.heap.size)) ∧ TV w' I' J (.isl (l.map fun s => [.sc (.string s)]) false) v := by
  rcases hrow.2 with ⟨_,h0⟩ | ⟨g,cap,cur,hv,hbase,hbl,h1,h2,h3,h4⟩
  · exact absurd (List.length_eq_zero_iff.1 h0) hne
  · subst hv
    have hlt := (Array.getElem?_eq_some_iff.1 hbl).1
    refine ⟨fun b off => I b off ∨ (b = g ∧ off < l.length),fun _ _ h => .inl h,fun b off h => ?_,?_⟩
    · rcases h with h | ⟨rfl,_⟩
      · exact .inl h
      · exact .inr ⟨by omega,hlt⟩
    · have := TV.isl (w := w') (I := fun b off => I b off ∨ (b = g ∧ off < l.length)) (J := J) (es := l.map fun s => [AV.sc (.string s)]) (capd := false) (a := ⟨g,0,none⟩) (vs := l.map Value.string) (s := 1) (cap := cap)
        (by rw [flatten_strs]; exact tvs_str _) (fun _ => ⟨rfl,fun j v hv => ?_⟩) (by intro e he; obtain ⟨n,_,rfl⟩ := List.mem_map.1 he; rfl) (by rw [List.length_map]; omega) (by intro h; cases h)
      · rw [List.length_map] at this
        exact this
      · have hj : j < l.length := by
          have := (List.getElem?_eq_some_iff.1 hv).1
          simpa using this
        refine ⟨.inr ⟨rfl,by simpa using hj⟩,?_⟩
        rw [cell_of_heap hbl]
        rw [← h4] at hv
        rw [List.getElem?_take] at hv
        split at hv
        · simpa using hv
        · cases hv
theorem prss_strs (l : List ByteArray) : PRss (l.map cStr) (l.map fun s => [.sc (.string s)]) := by
  induction l with
  | nil => exact .nil
  | cons s l ih => exact .cons (.cons .sc .nil) ih
theorem cutS_ne (l : List UInt8) : ∀ cur,cutS l cur ≠ [] := by
  induction l with
  | nil => intro cur h; cases h
  | cons b l ih =>
    intro cur h
    unfold cutS at h
    cases hb : b == 42 <;> rw [hb] at h
    · exact ih _ h
    · cases h
def d332 (_fuel : Nat) (a0 : ByteArray) (a1 : Int) : Option Int := some (Go.Lib.indexByte a0.data.toList a1.toNat.toUInt8)
theorem d332_ok (fuel : Nat) (a0 : ByteArray) (a1 : Int) (r : Int) (hI : d332 fuel a0 a1 = some r) : WValid P 332 [.sc (.string a0),.sc (.int .u8 a1)] (fun z => z = .sc (.int .i64 r)) := by
  cases hI
  intro xs hx
  cases hx with
  | cons h1 hx =>
  cases hx with
  | cons h2 hx =>
  cases hx
  cases h1
  cases h2
  refine ⟨_,_,.sc,rfl,⟨⟨_,Tryz.func332,rfl,by kernel_rfl⟩,?_⟩⟩
  intro w I J vs hI hJ hv
  cases hv with
  | cons h hs =>
  cases hs with
  | cons h2 hs =>
  cases hs
  cases h
  cases h2
  refine (Tryz.stringslite_IndexByte a0 a1 w).mono ?_
  rintro e w' ⟨rfl,rfl⟩
  exact ⟨Below.refl _ _,I,J,fun _ _ h => h,fun _ _ h => .inl h,fun _ h => h,fun _ h => .inl h,.sc rfl⟩
def d193 (_fuel : Nat) (a0 : ByteArray) (a1 : ByteArray) : Option Bool := (bif asciiB a0 && decide (a0.size ≤ 1000000) then some (fitsL a0.data.toList a1.data.toList) else none)
theorem d193_ok (fuel : Nat) (a0 : ByteArray) (a1 : ByteArray) (r : Bool) (hI : d193 fuel a0 a1 = some r) : WValid P 193 [.sc (.string a0),.sc (.string a1)] (fun z => z = .sc (.bool r)) := by
  obtain ⟨hc,hI⟩ := ckd hI
  cases hI
  simp only [Bool.and_eq_true,decide_eq_true_eq] at hc
  intro xs hx
  cases hx with
  | cons h1 hx =>
  cases hx with
  | cons h2 hx =>
  cases hx
  cases h1
  cases h2
  refine ⟨_,_,.sc,rfl,⟨⟨_,Tryz.func193,rfl,by kernel_rfl⟩,?_⟩⟩
  intro w I J vs hI hJ hv
  cases hv with
  | cons h hs =>
  cases hs with
  | cons h2 hs =>
  cases hs
  cases h
  cases h2
  refine (fits_walk a0 a1 w hc.2 hc.1).mono ?_
  rintro e w' ⟨rfl,hb⟩
  exact ⟨hb,I,J,fun _ _ h => h,fun _ _ h => .inl h,fun _ h => h,fun _ h => .inl h,.sc rfl⟩
def d192 (_fuel : Nat) (a0 : ByteArray) : Option (List ByteArray) := (bif asciiB a0 && decide (a0.size ≤ 1000000) then some (cutS a0.data.toList []) else none)
theorem d192_ok (fuel : Nat) (a0 : ByteArray) (r : List ByteArray) (hI : d192 fuel a0 = some r) : WValid P 192 [.sc (.string a0)] (fun z => z = .lst (r.map cStr)) := by
  obtain ⟨hc,hI⟩ := ckd hI
  cases hI
  simp only [Bool.and_eq_true,decide_eq_true_eq] at hc
  intro xs hx
  cases hx with
  | cons h1 hx =>
  cases hx
  cases h1
  refine ⟨_,_,.lst (c := false) (prss_strs _),rfl,⟨⟨_,Tryz.func192,rfl,by kernel_rfl⟩,?_⟩⟩
  intro w I J vs hI hJ hv
  cases hv with
  | cons h hs =>
  cases hs
  cases h
  refine (pieces_walk a0 w hc.2 hc.1).mono ?_
  rintro e w' ⟨v,rfl,hrow,hb⟩
  obtain ⟨I',h1,h2,h3⟩ := strs_show (I := I) (J := J) (w := w) hrow (by omega) (cutS_ne _ _)
  exact ⟨hb,I',J,h1,h2,fun _ h => h,fun _ h => .inl h,h3⟩
set_option maxRecDepth 100000
def d130 (_fuel : Nat) (a0 : List ByteArray) : Option (List ByteArray) := (bif roomB 16 (([] : List ByteArray).length + a0.length) then some a0 else none)
theorem d130_own (fuel : Nat) (a0 : List ByteArray) (r : List ByteArray) (hI : d130 fuel a0 = some r) : WOwn P 130 [.lst (a0.map cStr)] 1 false (fun es => es = r.map cStr) := by
  refine goOwn Tryz.func130 (by kernel_rfl) ?_
  obtain ⟨hc,hI⟩ := ckd hI
  cases hI
  conv => whnf
  intro b hb
  conv => whnf
  refine br (fun h => ?_) (fun h => ?_)
  · rw [List.map_eq_nil_iff.1 (hb h)]
    conv => whnf
    rfl
  · conv => whnf
    refine ⟨rooms (f := cStr) hc (List.length_map ..),cellP_map (f := cStr) (s := 1) (fun _ => ⟨rfl,rfl⟩) _,a0.map cStr,rfl,?_⟩
    conv => whnf
    exact ⟨leafs_map (f := cStr) (fun _ => rfl) _,rfl⟩
end
end Go.Abs.RM
end
section
namespace Go.Proofs.RMH
open Go.Shelf
def renPairs : List (Nat × Nat) → Nat → Nat
 | [],n => n
 | p :: r,n => bif Nat.beq p.1 n then p.2 else renPairs r n
def sortRen : Ren := ⟨renPairs [(190,191),(258,247),(302,338),(303,339),(304,340),(305,341),(306,342),(307,343),(308,344),(309,345),(310,346),(333,426),(334,427),(335,428),(336,429),(344,497),(125,225),(128,313),(129,314),(329,406),(330,407)],renPairs [(0,0),(3,3),(4,4),(5,5),(9,9),(31,49),(46,243),(51,316),(53,318),(131,266),(182,308),(183,309),(218,365),(222,369),(228,407),(229,408)],fun n => n⟩
theorem sortLays : Lays.n190 Tryz.prog sortRen := by
 constructor <;> first | kernel_rfl | (intro _; kernel_rfl)
end Go.Proofs.RMH
namespace Go.Abs.RM
open Go.Proofs Go.Proofs.RMH Go.RowKit Go.Sort
noncomputable section
theorem setCells_map : ∀ (vs : List Value) (o : Nat) (w : World) (b : Nat),w.setCells b o vs = mapBlock w b (fun c => arrSet c o vs)
 | [],o,w,b => (mapBlock_id w b _ (fun _ _ _ _ => rfl)).symm
 | v :: r,o,w,b => by
  rw [World.setCells,setCells_map r,setCell_eq,mapBlock_mapBlock]
  rfl
theorem put_set {w : World} {blk : Nat} {arr : Array Value} {t : TypeId} {rg : Nat × Nat} {ss : List (List UInt8)} (h : w.heap[blk]? = some (.cells arr t rg)) (hs : ss.length ≤ arr.size) : putRow encStr w blk 0 ss.toArray = w.setCells blk 0 (ss.map encStr) := by
 rw [setCells_map]
 refine mapBlock_congr _ _ _ _ fun c e fr hc => ?_
 rw [h] at hc
 cases hc
 apply Array.ext_getElem?
 intro k
 simp only [putCells,Array.getElem?_mapIdx]
 by_cases hk : k < ss.length
 ·have := arrSet_in (ss.map encStr) 0 arr k (by simpa using hs) (by simpa using hk)
  rw [Nat.zero_add] at this
  rw [this,Array.getElem?_eq_getElem (by omega),Option.map_some,if_pos ⟨by omega,by simpa using hk⟩]
  simp [hk]
 ·rw [arrSet_out _ _ _ _ (.inr (by simp; omega))]
  cases hc : arr[k]? with
  | none => rfl
  | some x => rw [Option.map_some,if_neg (by simp; omega)]
def strA (s : ByteArray) : List AV := [.sc (.string s)]
def sortS (l : List ByteArray) : List ByteArray := ((l.map fun s => s.data.toList).mergeSort fun a b => decide (a ≤ b)).map fun l => ⟨l.toArray⟩
theorem bytes_back (l : List ByteArray) : (l.map fun s => s.data.toList).map (fun l => (⟨l.toArray⟩ : ByteArray)) = l := by
 rw [List.map_map]
 conv => rhs; rw [← List.map_id l]
 exact List.map_congr_left fun s _ => arr_eq s
theorem sortS_length (l : List ByteArray) : (sortS l).length = l.length := by simp [sortS]
theorem below_grow (w : World) (os : Array Obj) {B : Nat} (hB : B ≤ w.heap.size) : Below B w (Go.Sort.grow w os) := ⟨rfl,rfl,rfl,by simp [Go.Sort.grow],fun k hk => by simp [Go.Sort.grow,Array.getElem?_append,show k < w.heap.size by omega]⟩
theorem vrs_str {σ : Sg} : ∀ l : List ByteArray,VRs σ (l.map strA).flatten (l.map Value.string)
 | [] => .nil
 | s :: l => .cons (.tree (.sc rfl)) (vrs_str l)
theorem prs_cStr : ∀ {l : List ByteArray} {zs : List (List AV)},PRss (l.map cStr) zs → zs = l.map strA
 | [],_,h => by cases h; rfl
 | s :: l,_,h => by
  cases h with
  | cons h hs =>
   cases h with
   | cons h h0 =>
    cases h0
    cases h
    rw [prs_cStr hs]
    rfl
theorem prss_strA : ∀ l : List ByteArray,PRss (l.map cStr) (l.map strA)
 | [] => .nil
 | _ :: l => .cons (.cons .sc .nil) (prss_strA l)
end
end Go.Abs.RM
namespace Go.Abs.RM
open Go.Proofs Go.Proofs.RMH Go.RowKit Go.Sort
noncomputable section
theorem names : P.funcs.toList.all (fun fn => !(fn.name == "runtime.NumGoroutine")) = true := by kernel_rfl
def spNone : Abs.Spec := ⟨fun _ _ _ => none,fun _ _ _ _ => none,fun _ _ => none⟩
theorem specsNone : SpecOK P spNone where
 s1 := fun c1 _ f args r h => by simp [spNone] at h
 s2 := fun c2 _ f args H r H' h => by simp [spNone] at h
 meth := fun _ _ _ h => by simp [spNone] at h
theorem unit_sc {f : FuncId} {args : List AV} (h : Valid P f args (.ret (.tup []))) : Valid P f args (.ret (.sc (.tuple #[]))) := by
 refine ⟨h.1,?_⟩
 intro w I J vs hI hJ hv
 refine (h.2 w I J vs hI hJ hv).mono ?_
 rintro e w' ⟨hb,I',J',h1,h2,h3,h4,ho⟩
 refine ⟨hb,I',J',h1,h2,h3,h4,?_⟩
 cases e with
 | returned x => cases ho with | tup h => cases h; exact .sc rfl
 | panicked c => exact ho.elim
 | outgrown => exact ho.elim
theorem sort_nil : Valid P 191 [.sc (.slice none 0 0)] (.ret (.sc (.tuple #[]))) := unit_sc <| ran (mkE_ok (S := spNone) (inl := []) (own := []) (es := []) mixed names specsNone (fun e h => by cases h)) 3000 60 (by kernel_rfl)
theorem valid2_sc {f : FuncId} {args : List AV} {H : Heap} {v : Value} (h : Valid P f args (.ret (.sc v))) (ht : ∀ σ vs,SR σ → VRs σ args vs → TVs σ.w σ.I σ.J args vs) : Valid2 P f args H (.ret (.sc v)) H := by
 refine ⟨h.1,?_⟩
 intro σ vs sr hσ hfr hv
 refine (h.2 σ.w σ.I σ.J vs sr.ilt sr.jlt (ht σ vs sr hv)).mono ?_
 rintro e w' ⟨hb,I',J',h1,h2,h3,h4,ho⟩
 obtain ⟨l,sr'⟩ := le_below sr hb h1 h2 h3 h4
 refine ⟨{ σ with w := w',I := I',J := J' },rfl,hσ,l,sr',Nat.le_refl _,fun m hm => .inl (.inr hm),fun m hm => hfr m hm,?_⟩
 cases e with
 | returned x => exact .tree ho
 | panicked c => exact ho.elim
 | outgrown => exact ho.elim
theorem vrs_str_inv {σ : Sg} : ∀ {l : List ByteArray} {vs : List Value},VRs σ (l.map strA).flatten vs → vs = l.map Value.string
 | [],_,h => by cases h; rfl
 | _ :: l,_,h => by
  cases h with
  | cons h hs => rw [(VR.sc_inv h).1,vrs_str_inv hs]; rfl
theorem flat_len (l : List ByteArray) : (l.map strA).flatten.length = l.length := by
 induction l with
 | nil => rfl
 | cons s l ih => show (_ :: (l.map strA).flatten).length = _; rw [List.length_cons,ih]; rfl
def d191 (_fuel : Nat) (a0 : List ByteArray) : Option (List ByteArray) := (bif decide (a0.length ≤ 1000000) then some (sortS a0) else none)
theorem sort_row {H : Heap} {b g : Nat} {cap : Option Nat} {l : List ByteArray} (hl : l.length ≤ 1000000) (hlook : look H.objs b = some (.cells (l.map strA) 1 0)) (hg : l.length = g) :
  Valid2 P 191 [.sl b g 0 g cap] H (.ret (.sc (.tuple #[]))) ⟨put H.objs b (.cells ((sortS l).map strA) 1 0),H.next⟩ := by
 refine ⟨⟨_,Tryz.func191,rfl,by kernel_rfl⟩,?_⟩
 intro σ vs sr hσ hfr hv
 have hn : σ.h b = some (.cells (l.map strA) 1 0) := by rw [hσ]; exact hlook
 cases hv with
 | cons h1 hv =>
 cases hv
 obtain ⟨c,arr,t,rg,rfl,harr,_,hroom,hgc,_⟩ := h1.sl_inv sr hn (by rw [List.length_map]; exact hg)
 obtain ⟨arr',t',rg',full,h1',hj,hrg,hfull,_,hle,hcells,hI0⟩ := sr.obj b _ hn
 rw [harr] at h1'
 cases h1'
 obtain rfl := vrs_str_inv hfull
 have hsz : l.length ≤ arr.size := by simpa using hle
 have hlt := sr.lt b _ hn
 have hholds : Go.Sort.Holds encStr σ.w (σ.r b) (0 * 1) (l.map fun s => s.data.toList).toArray := by
  intro j hjd
  have hjl : j < l.length := by simpa using hjd
  constructor
  ·rw [cell_of_heap harr]
   have := hcells j (.string l[j]) (by simp [hjl])
   rw [show 0 * 1 + j = j by omega,this]
   simp [hjl,encStr]
  ·have := hrg (0 * 1 + j) (by omega)
   simp only [World.frozen?,harr]
   simpa using fun h1 => Nat.le_of_not_lt fun h2 => this ⟨h1,h2⟩
 have key := Any.slices_Sort_string sortLays (σ.r b) (0 * 1) c (l.map fun s => s.data.toList) σ.w hholds hlt (by simp; omega)
 rw [List.length_map,hg] at key
 refine Calls.mono key ?_
 rintro e w' ⟨rfl,n,os,rfl⟩
 -- draws
 have b1 : Below σ.w.heap.size σ.w (Go.Sort.ahead σ.w n) := ⟨rfl,rfl,rfl,Nat.le_refl _,fun _ _ => rfl⟩
 obtain ⟨l1,sr1⟩ := le_below sr b1 (I' := σ.I) (J' := σ.J) (fun _ _ h => h) (fun _ _ h => .inl h) (fun _ h => h) (fun _ h => .inl h)
 -- the row
 have hfl : ((sortS l).map strA).flatten.length = ((l.map strA).flatten).length := by rw [flat_len,flat_len,sortS_length]
 obtain ⟨l2,sr2⟩ := write_own (σ := { σ with w := Go.Sort.ahead σ.w n }) sr1 (n := b) (es := l.map strA) (es' := (sortS l).map strA) (s := 1) (fz := 0) hn (o := 0) (cs := ((sortS l).map strA).flatten) (vs := (sortS l).map Value.string)
  (vrs_str _) (by rw [List.take_zero,List.nil_append,Nat.zero_add,List.drop_of_length_le (by rw [hfl]; exact Nat.le_refl _),List.append_nil]) (Nat.zero_le _) (by omega) (by simp [sortS_length]) (fun e he => by obtain ⟨s,_,rfl⟩ := List.mem_map.1 he; rfl) (arr := arr) (t := t) (rg := rg) harr (by simp [sortS_length]; omega)
 -- the helpers' blocks
 have b3 := below_grow (Sg.write { σ with w := Go.Sort.ahead σ.w n } b 0 ((sortS l).map Value.string) (.cells ((sortS l).map strA) 1 0)).w os (Nat.le_refl _)
 obtain ⟨l3,sr3⟩ := le_below sr2 b3 (I' := σ.I) (J' := σ.J) (fun _ _ h => h) (fun _ _ h => .inl h) (fun _ h => h) (fun _ h => .inl h)
 have e1 : putRow encStr (Go.Sort.ahead σ.w n) (σ.r b) (0 * 1) (((l.map fun s => s.data.toList).mergeSort fun x y => decide (x ≤ y)).toArray) = (Go.Sort.ahead σ.w n).setCells (σ.r b) 0 ((sortS l).map Value.string) := by
  rw [show 0 * 1 = 0 from rfl,put_set (w := Go.Sort.ahead σ.w n) harr (by simp; omega)]
  rw [sortS,List.map_map]
  rfl
 refine ⟨_,?_,?_,(l1.trans sr1 l2 sr2).trans sr2 l3 sr3,sr3,Nat.le_refl _,fun m hm => .inl (.inr hm),fun k hk => ?_,.tree (.sc rfl)⟩
 ·rw [e1]; rfl
 ·funext k
  show upd σ.h b _ k = _
  rw [look_put,← hσ]
  unfold upd
  by_cases e : k = b
  ·subst e; simp
  ·rw [if_neg e,if_neg (fun q => e q.symm)]
 ·obtain ⟨q1,q2⟩ := hfr k hk
  refine ⟨?_,q2⟩
  show upd σ.h b _ k = none
  unfold upd
  split
  ·rename_i e; subst e; rw [hn] at q1; cases q1
  ·exact q1
theorem d191_set (fuel : Nat) (a0 : List ByteArray) (r : List ByteArray) (hI : d191 fuel a0 = some r) : WSet P 191 [] 1 (a0.map cStr) (fun es => es = r.map cStr) := by
 obtain ⟨hc,hI⟩ := ckd hI
 cases hI
 have hc := of_decide_eq_true hc
 intro H x xs hfr hsh hx
 cases hx
 rcases hsh with ⟨rfl,he⟩ | ⟨b,g,cap,zs,rfl,hlook,hg,hz,hcap⟩
 ·obtain rfl := List.map_eq_nil_iff.1 he
  have e0 : sortS [] = [] := List.eq_nil_of_length_eq_zero (sortS_length [])
  rw [e0]
  refine ⟨_,H,rfl,fun e he => (by cases he),valid2_sc sort_nil (fun σ vs sr hv => ?_),Nat.le_refl _,hfr,fun k h => .inl h,fun _ _ _ => rfl,.inl ⟨rfl,rfl⟩⟩
  cases hv with
  | cons h hv =>
  cases hv
  rw [(VR.sc_inv h).1]
  exact .cons (.sc rfl) .nil
 ·obtain rfl := prs_cStr hz
  have hg' : a0.length = g := by rw [← hg,List.length_map]
  refine ⟨_,_,rfl,lens_map (f := cStr) (fun _ => rfl),sort_row hc hlook hg',Nat.le_refl _,fun m hm => ?_,fun k h => ?_,fun k hk hnr => ?_,.inr ⟨b,g,cap,_,rfl,by rw [look_put,if_pos rfl],by rw [List.length_map,sortS_length]; exact hg',prss_strA _,hcap⟩⟩
  ·show look (put H.objs b _) m = none
   rw [look_put]
   split
   ·rename_i e; subst e; rw [hfr _ hm] at hlook; cases hlook
   ·exact hfr m hm
  ·left
   intro h0
   apply h
   show look (put H.objs b _) k = none
   rw [look_put]
   split
   ·rename_i e; subst e; rw [h0] at hlook; cases hlook
   ·exact h0
  ·show look (put H.objs b _) k = _
   rw [look_put,if_neg (hnr _ _ _ _ _ rfl)]
end
end Go.Abs.RM
end
section
namespace Go.Abs.RM
open Go.Proofs
noncomputable section
set_option maxRecDepth 100000
noncomputable def hdY (r : Option (Out × Heap)) : Hd := ⟨fun _ _ _ => none,fun _ _ _ _ => none,fun _ _ => false,fun _ _ _ => none,fun _ _ => false,fun _ _ _ => r,fun _ _ => none⟩
noncomputable def zE : AO := .cells [[.sc zi64,.sc zstr,.sc zi64]] 3 0
theorem tab71 : tabL 71 = some ⟨.strct [(0,55),(1,9),(2,3)],3,32,[zi64,zstr,zi64],some [(.int .i64),.str,(.int .i64)]⟩ := by rfl
theorem tab26 : tabL 26 = some ⟨.slice 71,1,24,[znsl],none⟩ := by rfl
noncomputable def loopE : Code := match Tryz.f248.body with | some (.seq _ (.block _ (.loop x))) => x | _ => .skip
theorem okEff_loc0 {H : Heap} {rd : List Nat} {nw : Nat} : okEff H (.loc rd [] nw) = true := rfl
theorem regionQ {hd : Hd} {ops : Array Oper} {id N n0 : Nat} {rr : RR} {recs : List Rec} {T : TL} {H : Heap} {Q : Post} (hdst : dstOk N ops.toList = true) (h : runOps tabL hd ops ops.toList 0 T H = some (rr,recs)) (hob : ∀ rc ∈ recs,∀ ob ∈ rc.ob,ob.holdsY P) (hq : afterP Q rr) :
  CW P .out N n0 (.region id ops false) T H Q := CW.region tabOk mixed hdst h (fun h => by cases h) hob (.inl rfl) hq
theorem loop_end {Q : Post} {n0 i k m : Nat} {T : TL} {H : Heap} (h6 : look T 6 = some (.sc (.int .i64 (k : Int)))) (h7 : look T 7 = some (.sc (.int .i64 (i : Int)))) (hle : k ≤ i) (hQ : ∀ T,Q (.exit 0) T ⟨H.objs,H.next + 1⟩) : CW.rounds P .out 16 n0 loopE Q (m + 1) T H := by
 refine CW.seq ?_
 apply regionQ (hd := hdY none) (by decide)
 case h =>
  simp [runOps,wantedA,stepA,calleeOf,yieldOf,panicOf,aop,aev,h6,h7,binOpA,Heap.apply,okEff,putD]
  rfl
 case hob =>
  intro rc hrc ob hob
  simp at hrc
  subst hrc
  cases hob
 refine CW.seq (CW.cond (b := false) ?_ (CW.exit ?_))
 ·simp [aev,look_put]
  omega
 ·exact hQ _
theorem each_loop {n : Nat} {es : List (List AV)} {c : Bool} (hes : ∀ e ∈ es,e.length = 3 ∧ e.all AV.storable = true) (hbig : es.length ≤ 1000000) {n0 : Nat} {H' : Heap} {Q : Post} (hQ : ∀ T,Q (.exit 0) T ⟨H'.objs,H'.next + 1⟩) :
  ∀ (l : List (List AV)) (i : Nat) (T : TL) (H : Heap),es.drop i = l → look T 0 = some (.fn (.yield n) [] []) → look T 5 = some (.isl es c) → look T 6 = some (.sc (.int .i64 es.length)) → look T 7 = some (.sc (.int .i64 i)) →
   Fed P n 3 8 3 3 zE l H H' → CW.rounds P .out 16 n0 loopE Q (l.length + 1) T H := by
 intro l
 induction l with
 | nil =>
  intro i T H hl h0 h5 h6 h7 hf
  have hle : es.length ≤ i := by
   have := congrArg List.length hl
   simp at this
   omega
  cases hf
  exact loop_end h6 h7 hle hQ
 | cons e l ih =>
  intro i T H hl h0 h5 h6 h7 hf
  have hget : es[i]? = some e := by
   have := congrArg List.head? hl
   simpa using this
  have hlt : i < es.length := (List.getElem?_eq_some_iff.1 hget).1
  obtain ⟨he3,hst⟩ := hes e (List.mem_of_getElem? hget)
  have hl' : es.drop (i + 1) = l := by
   have := congrArg List.tail hl
   simpa using this
  cases hf with
  | @cons _ _ _ H1 _ hr ho hs =>
  refine CW.seq ?_
  apply regionQ (hd := hdY none) (by decide)
  case h =>
   simp [runOps,wantedA,stepA,calleeOf,yieldOf,panicOf,aop,aev,h6,h7,binOpA,Heap.apply,okEff,putD]
   rfl
  case hob =>
   intro rc hrc ob hob
   simp at hrc
   subst hrc
   cases hob
  refine CW.seq (CW.cond (b := true) ?_ (CW.skip ?_))
  ·simp [aev,look_put]
   omega
  obtain ⟨ea,eb,ec,rfl⟩ : ∃ a b c,e = [a,b,c] := by
   match e,he3 with
   | [a,b,c],_ => exact ⟨a,b,c,rfl⟩
  simp only [List.all_cons,List.all_nil,Bool.and_true,Bool.and_eq_true] at hst
  refine CW.seq (CW.block (CW.seq ?_))
  apply regionQ (hd := hdY none) (by decide)
  case h =>
   simp [runOps,wantedA,stepA,calleeOf,yieldOf,panicOf,aop,aev,h5,h7,Heap.apply,okEff,putD,putAll,look_put,tab26,tab71,intOf,indexAtA,hget,quiet,loadA,readAt,newVarA,storeA,ofCells,TyD.isAgg,cellsOf,hst,splice]
   exact ⟨rfl,rfl⟩
  case hob =>
   intro rc hrc ob hob
   simp at hrc
   rcases hrc with rfl | rfl | rfl | rfl <;> cases hob
  have ho' : okEff ⟨put (put H.objs (H.next + 2 + 1) (.cells [[.sc zi64,.sc zstr,.sc zi64]] 3 0)) (H.next + 2 + 1) (.cells [[ea,eb,ec]] 3 0),H.next + 7 + 1⟩ (.glob H1) = true := ho
  refine CW.seq ?_
  apply regionQ (hd := hdY (some (.ret (.sc (.bool true)),H1))) (by decide)
  case h =>
   simp [runOps,wantedA,stepA,hdY,calleeOf,yieldOf,panicOf,aop,aev,h0,mapOpt,Heap.apply,okEff_loc0,putD,putAll,look_put,tab71,quiet,loadA,readAt,ofCells,TyD.isAgg]
   rw [if_pos ho']
   rfl
  case hob =>
   intro rc hrc ob hob
   simp at hrc
   rcases hrc with rfl | rfl | rfl | rfl
   ·cases hob
   ·cases hob
   ·simp at hob
    subst hob
    exact hr
   ·cases hob
  refine CW.cond (b := false) ?_ (CW.skip ?_)
  ·simp [aev,look_put]
  have hwr : IntKind.wrap .i64 ((i : Int) + 1) = ((i + 1 : Nat) : Int) := by rw [IntKind.wrap_i64]; omega
  apply regionQ (hd := hdY none) (by decide)
  case h =>
   simp [runOps,wantedA,stepA,calleeOf,yieldOf,panicOf,aop,aev,h7,binOpA,Heap.apply,okEff_loc0,putD,putAll,look_put,quiet]
   rfl
  case hob =>
   intro rc hrc ob hob
   simp at hrc
   rcases hrc with rfl | rfl <;> cases hob
  refine ih (i + 1) _ _ hl' ?_ ?_ ?_ ?_ hs
  ·simp [look_put,h0]
  ·simp [look_put,h5]
  ·simp [look_put,h6]
  ·simp [look_put,hwr]
theorem each_ok {n : Nat} {x : AV} {es : List (List AV)} (hx : (x = .sc (.slice none 0 0) ∧ es = []) ∨ ∃ c,x = .isl es c) (hes : ∀ e ∈ es,e.length = 3 ∧ e.all AV.storable = true) (hbig : es.length ≤ 1000000) {H H' : Heap}
  (hf : Fed P n 3 8 3 3 zE es ⟨H.objs,H.next + 3⟩ H') : Valid2 P 248 [.fn (.yield n) [] [],.ipt [x]] H (.ret (.tup [])) ⟨H'.objs,H'.next + 1⟩ := by
 refine valid2_of tabOk Tryz.func248 rfl (by kernel_rfl) (show 2 ≤ 16 by omega) ?_
 refine CW.seq ?_
 have fin : ∀ T,blockP 0 (ends2 tabL Tryz.f248.results.toList (.ret (.tup [])) ⟨H'.objs,H'.next + 1⟩) (.exit 0) T ⟨H'.objs,H'.next + 1⟩ := fun T => ⟨rfl,_,rfl,rfl⟩
 rcases hx with ⟨rfl,rfl⟩ | ⟨c,rfl⟩
 ·cases hf
  apply regionQ (hd := hdY none) (by decide)
  case h =>
   simp [runOps,wantedA,stepA,calleeOf,yieldOf,panicOf,aop,aev,argT,look,mapOpt,loadA,readAt,ofCells,tab26,TyD.isAgg,builtinA,lenA,quiet,Heap.apply,okEff,putD,putAll,look_put,ofConst]
   first | rfl | exact ⟨rfl,rfl⟩
  case hob =>
   intro rc hrc ob hob
   simp at hrc
   rcases hrc with rfl | rfl | rfl <;> cases hob
  exact CW.block (CW.loop 1 (loop_end (k := 0) (i := 0) (by simp [look_put]) (by simp [look_put]) (Nat.le_refl _) fin))
 ·apply regionQ (hd := hdY none) (by decide)
  case h =>
   simp [runOps,wantedA,stepA,calleeOf,yieldOf,panicOf,aop,aev,argT,look,mapOpt,loadA,readAt,ofCells,tab26,TyD.isAgg,builtinA,lenA,quiet,Heap.apply,okEff,putD,putAll,look_put,ofConst]
   first | rfl | exact ⟨rfl,rfl⟩
  case hob =>
   intro rc hrc ob hob
   simp at hrc
   rcases hrc with rfl | rfl | rfl <;> cases hob
  refine CW.block (CW.loop (es.length + 1) (each_loop (c := c) hes hbig fin es 0 _ ⟨H.objs,H.next + 3⟩ rfl ?_ ?_ ?_ ?_ hf))
  ·simp [look_put,look]
  ·simp [look_put]
  ·simp [look_put]
  ·simp [look_put]
theorem fitO_rbox {ns : NM} {W : WH} {n m : Nat} {cs cs' : List WV} {fz fz' : Bool} (h1 : lk ns n = some (some m)) (h2 : mapO (backC ns) cs = some cs') (h3 : lk W.objs m = some (.box cs' fz')) (h4 : fz = false → fz' = false) : fitO ns W n (.box cs fz) := by
 unfold fitO; rw [h1]; exact ⟨cs',fz',h2,h3,h4⟩
end
end Go.Abs.RM
end
