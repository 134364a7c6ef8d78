/- R08.Missing: the ids that no event has. -/
import Derived.Test.YtkagjfgjcbanpaaGreatCg

section
namespace Go.Proofs.R29
open Go.ChangeShapes Go.WideShapes Go.ChangeAt Go.RowKit Go.Shelf

/-- Numbers put in one after the other. -/
def withAll (ys : List Int) (ns : List Int) : List Int := ns.foldl (fun a n => withL n a) ys
theorem withL_len (n : Int) (xs : List Int) : (withL n xs).length ≤ xs.length + 1 := by
  unfold withL
  split
  · omega
  · simp; omega
theorem withAll_len : ∀ (ns ys : List Int), (withAll ys ns).length ≤ ys.length + ns.length
  | [], ys => by simp [withAll]
  | n :: ns, ys => by
    have h1 := withAll_len ns (withL n ys)
    have h2 := withL_len n ys
    show (withAll (withL n ys) ns).length ≤ _
    simp
    omega
theorem withAll_snoc (ys ns : List Int) (n : Int) : withAll ys (ns ++ [n]) = withL n (withAll ys ns) := by simp [withAll]

def missOf (l : List (List Value)) (ids : List Int) : List Int := withAll [] (ids.filter fun n => decide (n ∉ l.map idOf))

theorem take_filter_snoc {p : Int → Bool} {xs : List Int} {k : Nat} (h : k < xs.length) : (xs.take (k + 1)).filter p = (xs.take k).filter p ++ (if p xs[k] then [xs[k]] else []) := by
  rw [List.take_succ_eq_append_getElem h, List.filter_append]
  congr 1
  cases hp : p xs[k] <;> simp [hp]

set_option maxRecDepth 100000 in
set_option maxHeartbeats 2000000 in
theorem miss_ok (v u : Value) (es : List (List Value)) (xs : List Int) (w : World) (h1 : Evs w v es) (h2 : Ints w u xs) (hn : xs.length ≤ 1000000) :
    Calls Tryz.prog 27 #[v, u] w fun x w' => ∃ v', x = .returned v' ∧ Ints w' v' (missOf es xs) ∧ Below w.heap.size w w' := by
  obtain ⟨ao, cap, e, hl, hcap⟩ := h2.form
  subst e
  have H1 := Lib.hid h1
  have H2 := Lib.hid h2
  clear h1 h2
  go_enter Tryz.func27, Tryz.ntmps27
  go_wp2_with fail
  go_loopw [5, 6] (fun s i wr => ∃ k : Nat, k ≤ xs.length ∧ i = .int .i64 k ∧ Below w.heap.size w wr ∧
      wr.ownsRow w.heap.size 3 1 s (withAll [] ((xs.take k).filter fun n => decide (n ∉ es.map idOf))).length ((withAll [] ((xs.take k).filter fun n => decide (n ∉ es.map idOf))).map (Value.int .i64)) ∧ (withAll [] ((xs.take k).filter fun n => decide (n ∉ es.map idOf))).length ≤ k) (fun _ i _ => xs.length - (intOf i).toNat)
  case atStart => exact ⟨0, Nat.zero_le _, rfl, Below.refl _ _, ⟨by simp [withAll], .inl ⟨rfl, by simp [withAll]⟩⟩, by simp [withAll]⟩
  case round =>
    obtain ⟨k, hk, rfl, q, hrow, hlen⟩ := hrel
    have Hrow := Lib.hid hrow
    have Hlen := Lib.hid hlen
    clear hrow hlen
    by_cases hlt : k < xs.length
    · obtain ⟨b, o, rfl, hb, hc⟩ := Ints.at_ H2 hlt
      have hc := hc _ q
      have hpl := place_ok v es xs[k] wr (Evs.on H1 q)
      have hsn := take_filter_snoc (p := fun n => decide (n ∉ es.map idOf)) hlt
      have Hsn := Lib.hid hsn
      have Hpl := Lib.hid hpl
      clear hsn hpl
      by_cases hm : xs[k] ∈ es.map idOf
      · have hsn2 : (xs.take (k + 1)).filter (fun n => decide (n ∉ es.map idOf)) = (xs.take k).filter (fun n => decide (n ∉ es.map idOf)) := by
          rw [(Hsn : _ = _)]; simp [hm]
        have Hsn2 := Lib.hid hsn2
        have Hm := Lib.hid hm
        clear hsn2 hm Hsn
        generalize xs[k] = xk at *
        go_wp2_with fail
        refine Calls.mono Hpl ?_
        rintro x w' ⟨⟨r, rfl, hr⟩, rfl⟩
        have hr0 : ¬ (r < 0) := fun h => (hr.1 h) Hm
        clear hr
        go_wp2_with fail
        go_roundw
        case rel => exact ⟨k + 1, by omega, by go_num, q, by rw [(Hsn2 : _ = _)]; exact Hrow, by rw [(Hsn2 : _ = _)]; exact Nat.le_succ_of_le Hlen⟩
        case measure => simp [intOf]; omega
      · have hsn2 : withAll [] ((xs.take (k + 1)).filter (fun n => decide (n ∉ es.map idOf))) = withL xs[k] (withAll [] ((xs.take k).filter (fun n => decide (n ∉ es.map idOf)))) := by
          rw [(Hsn : _ = _)]; simp [hm, withAll_snoc]
        have Hsn2 := Lib.hid hsn2
        have Hm := Lib.hid hm
        clear hsn2 hm Hsn
        generalize xs[k] = xk at *
        go_wp2_with fail
        refine Calls.mono Hpl ?_
        rintro x w' ⟨⟨r, rfl, hr⟩, rfl⟩
        have hr0 : r < 0 := hr.2 Hm
        clear hr
        go_wp2_with fail
        refine (with_ok _ _ xk _ w.heap.size Hrow (Below.size q) (Nat.le_trans Hlen (by omega))).mono ?_
        rintro x w2 ⟨v2, rfl, hrow2, q2⟩
        have Hrow2 := Lib.hid hrow2
        have q3 := Below.trans q q2
        clear hrow2
        go_wp2_with fail
        go_roundw
        case rel => exact ⟨k + 1, by omega, by go_num, q3, by rw [(Hsn2 : _ = _)]; exact Hrow2, by rw [(Hsn2 : _ = _)]; exact Nat.le_trans (withL_len _ _) (Nat.succ_le_succ Hlen)⟩
        case measure => simp [intOf]; omega
    · have hkl : k = xs.length := by omega
      go_wp2_with fail
      go_ret
      refine ⟨_, rfl, ?_, q⟩
      have h := ints_of_own' Hrow
      subst hkl
      rw [List.take_length] at h
      exact h
end Go.Proofs.R29
end

/- R08.Refs: the ids to which events refer. -/
section
namespace Go.Proofs.R29
open Go.ChangeShapes Go.WideShapes Go.ChangeAt Go.RowKit Go.Shelf

/-- An event's references: the lists that its cells 8 and 9 show. -/
def RefsOK (w : World) (c : List Value) (r : List Int × List Int) : Prop := ∃ pv av, c[8]? = some pv ∧ c[9]? = some av ∧ Ints w pv r.1 ∧ Ints w av r.2
theorem RefsOK.on {w w' : World} {c : List Value} {r : List Int × List Int} (h : RefsOK w c r) (hb : Below w.heap.size w w') : RefsOK w' c r := by
  obtain ⟨pv, av, h1, h2, h3, h4⟩ := h
  exact ⟨pv, av, h1, h2, h3.on hb, h4.on hb⟩

theorem refs_of_ev {w : World} {c : List Value} (h : EvOK w c) : ∃ r, RefsOK w c r := by
  obtain ⟨id, _, _, _, _, _, _, _, pv, av, _, _, _, _, _, _, _, _, _, _, _, _, _, _, _, _, _, _, _, rfl, ⟨np, xp, h1⟩, ⟨na, xa, h2⟩, _⟩ := h
  have e1 : xp.length = np := by have := h1.len; simpa using this
  have e2 : xa.length = na := by have := h2.len; simpa using this
  subst e1 e2
  exact ⟨(xp, xa), pv, av, rfl, rfl, h1, h2⟩

/-- The references of all. -/
def allRefs (rs : List (List Int × List Int)) : List Int := rs.flatMap fun r => r.1 ++ r.2

/-- Events with their references. -/
inductive AllRefs (w : World) : List (List Value) → List (List Int × List Int) → Prop
  | nil : AllRefs w [] []
  | cons {c : List Value} {cs : List (List Value)} {r : List Int × List Int} {rs : List (List Int × List Int)} (h : RefsOK w c r) (hs : AllRefs w cs rs) : AllRefs w (c :: cs) (r :: rs)

theorem allRefs_of {w : World} : ∀ {es : List (List Value)}, (∀ c ∈ es, EvOK w c) → ∃ rs, AllRefs w es rs
  | [], _ => ⟨[], .nil⟩
  | c :: es, h => by
    obtain ⟨r, hr⟩ := refs_of_ev (h c (List.mem_cons_self ..))
    obtain ⟨rs, hrs⟩ := allRefs_of (es := es) fun d hd => h d (List.mem_cons_of_mem _ hd)
    exact ⟨r :: rs, .cons hr hrs⟩
theorem AllRefs.on {w w' : World} : ∀ {es : List (List Value)} {rs : List (List Int × List Int)}, AllRefs w es rs → Below w.heap.size w w' → AllRefs w' es rs
  | _, _, .nil, _ => .nil
  | _, _, .cons h hs, hb => .cons (h.on hb) (hs.on hb)
theorem AllRefs.len {w : World} : ∀ {es : List (List Value)} {rs : List (List Int × List Int)}, AllRefs w es rs → rs.length = es.length
  | _, _, .nil => rfl
  | _, _, .cons _ hs => by simp [hs.len]
theorem AllRefs.at_ {w : World} : ∀ {es : List (List Value)} {rs : List (List Int × List Int)}, AllRefs w es rs → ∀ {k : Nat} {c : List Value}, es[k]? = some c → ∃ r, rs[k]? = some r ∧ RefsOK w c r
  | _, _, .nil, k, c, h => by simp at h
  | _, _, .cons h hs, 0, c, hk => by simp at hk; subst hk; exact ⟨_, rfl, h⟩
  | _, _, .cons h hs, k + 1, c, hk => by simpa using hs.at_ (k := k) (by simpa using hk)
end Go.Proofs.R29
end

/- R08.Refs: the walk. -/
section
namespace Go.Proofs.R29
open Go.ChangeShapes Go.WideShapes Go.ChangeAt Go.RowKit Go.Shelf

abbrev refsUpTo (rs : List (List Int × List Int)) (k : Nat) : List Int := withAll [] (allRefs (rs.take k))

theorem refs_len {rs : List (List Int × List Int)} {k : Nat} {r : List Int × List Int} (h : rs[k]? = some r) : (allRefs (rs.take k)).length + (r.1.length + r.2.length) ≤ (allRefs rs).length := by
  obtain ⟨hk, e⟩ := List.getElem?_eq_some_iff.1 h
  have e2 : rs = rs.take k ++ r :: rs.drop (k + 1) := by rw [← e, ← List.drop_eq_getElem_cons hk, List.take_append_drop]
  have e3 : allRefs rs = allRefs (rs.take k) ++ ((r.1 ++ r.2) ++ allRefs (rs.drop (k + 1))) := by
    conv => lhs; rw [e2]
    simp [allRefs]
  rw [e3]
  simp only [List.length_append]
  omega

theorem refs_len1 {rs : List (List Int × List Int)} {k : Nat} {r : List Int × List Int} (h : rs[k]? = some r) (hn : (allRefs rs).length ≤ 1000000) (j : Nat) : (withAll (refsUpTo rs k) (r.1.take j)).length ≤ 1000000 := by
  have h0 := refs_len h
  have h1 := withAll_len (r.1.take j) (refsUpTo rs k)
  have h2 := withAll_len (allRefs (rs.take k)) []
  have h3 : (r.1.take j).length ≤ r.1.length := by rw [List.length_take]; exact Nat.min_le_right _ _
  have h4 : (refsUpTo rs k).length ≤ 0 + (allRefs (rs.take k)).length := h2
  omega

theorem refs_len2 {rs : List (List Int × List Int)} {k : Nat} {r : List Int × List Int} (h : rs[k]? = some r) (hn : (allRefs rs).length ≤ 1000000) (j : Nat) : (withAll (withAll (refsUpTo rs k) r.1) (r.2.take j)).length ≤ 1000000 := by
  have h0 := refs_len h
  have h1 := withAll_len r.1 (refsUpTo rs k)
  have h2 := withAll_len (allRefs (rs.take k)) []
  have h3 : (r.2.take j).length ≤ r.2.length := by rw [List.length_take]; exact Nat.min_le_right _ _
  have h4 : (refsUpTo rs k).length ≤ 0 + (allRefs (rs.take k)).length := h2
  have h5 := withAll_len (r.2.take j) (withAll (refsUpTo rs k) r.1)
  omega

set_option maxRecDepth 100000 in
set_option maxHeartbeats 2000000 in
theorem refs_ok (v : Value) (es : List (List Value)) (rs : List (List Int × List Int)) (w : World) (h : Evs w v es) (hr : AllRefs w es rs) (hn : (allRefs rs).length ≤ 1000000) :
    Calls Tryz.prog 93 #[v] w fun x w' => ∃ v', x = .returned v' ∧ Ints w' v' (withAll [] (allRefs rs)) ∧ Below w.heap.size w w' := by
  obtain ⟨ao, cap, rfl, hl, hcap⟩ := h.form
  have hlen := hr.len
  have H := Lib.hid h
  have Hr := Lib.hid hr
  have Hlen := Lib.hid hlen
  clear h hr hlen
  go_enter Tryz.func93, Tryz.ntmps93
  go_wp2_with fail
  go_loopw [3, 4] (fun s i wr => ∃ k : Nat, k ≤ es.length ∧ i = .int .i64 k ∧ Below w.heap.size w wr ∧ wr.ownsRow w.heap.size 3 1 s (refsUpTo rs k).length ((refsUpTo rs k).map (Value.int .i64))) (fun _ i _ => es.length - (intOf i).toNat)
  case atStart => exact ⟨0, Nat.zero_le _, rfl, Below.refl _ _, ⟨by simp [refsUpTo, allRefs, withAll], .inl ⟨rfl, by simp [refsUpTo, allRefs, withAll]⟩⟩⟩
  case round =>
    obtain ⟨k, hk, rfl, q, hrow⟩ := hrel
    have Hrow := Lib.hid hrow
    clear hrow
    by_cases hlt : k < es.length
    · obtain ⟨b, o, rfl, hb, hcells, he⟩ := Evs.at_ H hlt
      obtain ⟨r, hrk, pv, av, e8, e9, hp, ha⟩ := AllRefs.at_ Hr (k := k) (c := es[k]) (by simp [hlt])
      have c8 : ∀ w', Below w.heap.size w w' → w'.cell? ⟨b, o + k * 29 + 8, none⟩ = some pv := fun w' q => (q.cell (p := ⟨b, o + k * 29 + 8, none⟩) hb).trans (hcells 8 pv e8)
      have c9 : ∀ w', Below w.heap.size w w' → w'.cell? ⟨b, o + k * 29 + 9, none⟩ = some av := fun w' q => (q.cell (p := ⟨b, o + k * 29 + 9, none⟩) hb).trans (hcells 9 av e9)
      obtain ⟨ap, cp, rfl, _, _⟩ := hp.form
      obtain ⟨aa, ca, rfl, _, _⟩ := ha.form
      have C8 := Lib.hid c8
      have C9 := Lib.hid c9
      have Hp := Lib.hid hp
      have Ha := Lib.hid ha
      have Hrk := Lib.hid hrk
      have k8 := c8 wr q
      clear c8 c9 hp ha hrk e8 e9 hcells he
      go_wp2_with fail
      have Hl1 : Hid (∀ j, (withAll (refsUpTo rs k) (r.1.take j)).length ≤ 1000000) := refs_len1 Hrk hn
      have Hl2 : Hid (∀ j, (withAll (withAll (refsUpTo rs k) r.1) (r.2.take j)).length ≤ 1000000) := refs_len2 Hrk hn
      have q0 := q
      have Hq0 := Lib.hid q0
      clear q0
      generalize wr = w1 at *
      go_loopw [3, 5] (fun s i wr => ∃ j : Nat, j ≤ r.1.length ∧ i = .int .i64 j ∧ Below w.heap.size w wr ∧ wr.ownsRow w.heap.size 3 1 s (withAll (refsUpTo rs k) (r.1.take j)).length ((withAll (refsUpTo rs k) (r.1.take j)).map (Value.int .i64))) (fun _ i _ => r.1.length - (intOf i).toNat)
      case atStart => exact ⟨0, Nat.zero_le _, by go_num, q, by rw [List.take_zero]; exact Hrow⟩
      case round =>
        obtain ⟨j, hj, rfl, q2, hrow2⟩ := hrel
        have Hrow2 := Lib.hid hrow2
        clear hrow2
        have k8' := (C8 : ∀ w', Below w.heap.size w w' → _) wr q2
        by_cases hlt2 : j < r.1.length
        · obtain ⟨bp, op, e, hbp, hc⟩ := Ints.at_ Hp hlt2
          have hcj := hc wr q2
          have hsn : withAll (refsUpTo rs k) (r.1.take (j + 1)) = withL r.1[j] (withAll (refsUpTo rs k) (r.1.take j)) := by
            rw [List.take_succ_eq_append_getElem hlt2, withAll_snoc]
          have Hsn := Lib.hid hsn
          subst e
          clear hsn hc
          generalize r.1[j] = x at *
          go_wp2_with fail
          refine (with_ok _ _ x _ w.heap.size Hrow2 (Below.size q2) (Hl1 j)).mono ?_
          rintro e w2 ⟨v2, rfl, hrow3, q3⟩
          have Hrow3 := Lib.hid hrow3
          have q4 := Below.trans q2 q3
          clear hrow3
          go_wp2_with fail
          go_roundw
          case rel => exact ⟨j + 1, by omega, by go_num, q4, by rw [(Hsn : _ = _)]; exact Hrow3⟩
          case measure => simp [intOf]; omega
        · have hj1 : j = r.1.length := by omega
          subst hj1
          have k9 := (C9 : ∀ w', Below w.heap.size w w' → _) wr q2
          have Hrow3 : Hid (wr.ownsRow w.heap.size 3 1 u3 (withAll (withAll (refsUpTo rs k) r.1) (r.2.take 0)).length ((withAll (withAll (refsUpTo rs k) r.1) (r.2.take 0)).map (Value.int .i64))) := by
            have h := Hrow2
            rw [List.take_length] at h
            rw [List.take_zero]
            exact h
          clear Hrow2 Hrow
          go_wp2_with fail
          generalize wr = w1 at *
          go_loopw [3, 6] (fun s i wr => ∃ j : Nat, j ≤ r.2.length ∧ i = .int .i64 j ∧ Below w.heap.size w wr ∧ wr.ownsRow w.heap.size 3 1 s (withAll (withAll (refsUpTo rs k) r.1) (r.2.take j)).length ((withAll (withAll (refsUpTo rs k) r.1) (r.2.take j)).map (Value.int .i64))) (fun _ i _ => r.2.length - (intOf i).toNat)
          case atStart => exact ⟨0, Nat.zero_le _, by go_num, q2, Hrow3⟩
          case round =>
            obtain ⟨j2, hj2, rfl, q5, hrow5⟩ := hrel
            have Hrow5 := Lib.hid hrow5
            clear hrow5 k9
            have k9 := (C9 : ∀ w', Below w.heap.size w w' → _) wr q5
            by_cases hlt3 : j2 < r.2.length
            · obtain ⟨bq, oq, e, hbq, hc⟩ := Ints.at_ Ha hlt3
              have hcj := hc wr q5
              have hsn : withAll (withAll (refsUpTo rs k) r.1) (r.2.take (j2 + 1)) = withL r.2[j2] (withAll (withAll (refsUpTo rs k) r.1) (r.2.take j2)) := by
                rw [List.take_succ_eq_append_getElem hlt3, withAll_snoc]
              have Hsn := Lib.hid hsn
              subst e
              clear hsn hc
              generalize r.2[j2] = x at *
              go_wp2_with fail
              refine (with_ok _ _ x _ w.heap.size Hrow5 (Below.size q5) (Hl2 j2)).mono ?_
              rintro e w2 ⟨v2, rfl, hrow6, q6⟩
              have Hrow6 := Lib.hid hrow6
              have q7 := Below.trans q5 q6
              clear hrow6
              go_wp2_with fail
              go_roundw
              case rel => exact ⟨j2 + 1, by omega, by go_num, q7, by rw [(Hsn : _ = _)]; exact Hrow6⟩
              case measure => simp [intOf]; omega
            · have hj3 : j2 = r.2.length := by omega
              subst hj3
              have Hend : Hid (wr.ownsRow w.heap.size 3 1 u3 (refsUpTo rs (k + 1)).length ((refsUpTo rs (k + 1)).map (Value.int .i64))) := by
                have h := Hrow5
                rw [List.take_length] at h
                have e : refsUpTo rs (k + 1) = withAll (withAll (refsUpTo rs k) r.1) r.2 := by
                  have hr : rs[k]? = some r := Hrk
                  obtain ⟨hk', e⟩ := List.getElem?_eq_some_iff.1 hr
                  unfold refsUpTo
                  rw [List.take_succ_eq_append_getElem hk', e]
                  simp [allRefs, withAll, List.flatMap_append, List.foldl_append]
                rw [e]
                exact h
              clear Hrow5
              go_wp2_with fail
              go_roundw
              case rel => exact ⟨k + 1, by omega, by go_num, q5, Hend⟩
              case measure => simp [intOf]; omega
    · have hkl : k = es.length := by omega
      go_wp2_with fail
      go_ret
      refine ⟨_, rfl, ?_, q⟩
      have h := ints_of_own' Hrow
      have e : rs.take k = rs := List.take_of_length_le (by rw [(Hlen : rs.length = es.length)]; omega)
      unfold refsUpTo at h
      rw [e] at h
      exact h
end Go.Proofs.R29
end
