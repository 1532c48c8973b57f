/- Two pages that agree but for the values of their links; escaping is undone by unescaping. No program, no condition; The scanner goes through a page with other values as through the page: values, and what stands ahead of them. No program, no condition; The scanner goes through a page with other value. -/
import Derived.Test.YtignjjnflcpiiaaGreatDoorR12
import Derived.Test.YtignjjnflcpiiaaGreatDoorR15
namespace Go.Proofs.YtignjjnflcpiiaaGreatDoor
open Go
def Agr (T T' : Bs) (n : Nat) : Prop := T = T' ∨ ∃ U V V', T = U ++ V ∧ T' = U ++ V' ∧ U.length = n
theorem tw_lt {p : UInt8 → Bool} : ∀ {U V : Bs} (V' : Bs), ((U ++ V).takeWhile p).length < U.length → (U ++ V').takeWhile p = (U ++ V).takeWhile p
  | [], _, _, h => by simp at h
  | c :: U, V, V', h => by
    rw [List.cons_append, List.takeWhile_cons] at h
    rw [List.cons_append, List.cons_append, List.takeWhile_cons, List.takeWhile_cons]
    split
    · rename_i hc
      rw [if_pos hc] at h
      rw [tw_lt (U := U) (V := V) V' (by simpa using h)]
    · rfl
theorem Agr.run {T T' : Bs} {n : Nat} (h : Agr T T' n) (of : Bs) (hn : runN T of < n) : runN T' of = runN T of := by
  rcases h with rfl | ⟨U, V, V', rfl, rfl, rfl⟩
  · rfl
  · unfold runN at hn ⊢
    rw [tw_lt V' hn]
theorem Agr.indexAny {T T' : Bs} {n : Nat} {cs : Bs} (h : Agr T T' n) (h0 : 0 ≤ Lib.indexAny T cs) (hn : (Lib.indexAny T cs).toNat < n) : Lib.indexAny T' cs = Lib.indexAny T cs := by
  rcases h with rfl | ⟨U, V, V', rfl, rfl, rfl⟩
  · rfl
  · rw [indexAny_take] at h0 hn ⊢
    rw [indexAny_take]
    split at h0
    · omega
    · rename_i hne
      rw [if_neg hne] at hn ⊢
      rw [Int.toNat_natCast] at hn
      have e := tw_lt V' hn
      rw [e, if_neg]
      rw [List.length_append]; omega
theorem cutP_front {p : Bs} : ∀ {U V a b : Bs}, cutP p (U ++ V) = some (a, b) → a.length + p.length ≤ U.length → ∃ b0, cutP p U = some (a, b0)
  | [], V, a, b, h, hn => by
    rw [List.length_nil] at hn
    have ha : a = [] := List.length_eq_zero_iff.1 (by omega)
    have hp : p = [] := List.length_eq_zero_iff.1 (by omega)
    subst ha hp
    exact ⟨[], rfl⟩
  | c :: U, V, a, b, h, hn => by
    rw [List.cons_append] at h
    unfold cutP at h ⊢
    by_cases hp : p.isPrefixOf (c :: (U ++ V)) = true
    · rw [if_pos hp] at h
      simp at h
      obtain ⟨rfl, _⟩ := h
      have hp2 : p.isPrefixOf (c :: U) = true := by
        obtain ⟨y, hy⟩ := List.isPrefixOf_iff_prefix.1 hp
        have h3 : p = (c :: (U ++ V)).take p.length := by rw [← hy]; simp
        rw [List.isPrefixOf_iff_prefix, h3, ← List.cons_append, List.take_append_of_le_length (by simpa using hn)]
        exact List.take_prefix _ _
      rw [if_pos hp2]
      exact ⟨_, rfl⟩
    · rw [if_neg hp] at h
      have hp2 : ¬ p.isPrefixOf (c :: U) = true := fun h2 => hp (by
        have := hasPrefix_app V (x := c :: U) h2
        exact this)
      rw [if_neg hp2]
      cases hc : cutP p (U ++ V) with
      | none => rw [hc] at h; cases h
      | some x =>
        obtain ⟨a', b'⟩ := x
        rw [hc] at h
        simp at h
        obtain ⟨rfl, rfl⟩ := h
        obtain ⟨b0, hb0⟩ := cutP_front hc (by simp at hn; omega)
        exact ⟨b0, by rw [hb0]; rfl⟩
theorem Agr.index {T T' : Bs} {n : Nat} {p : Bs} (h : Agr T T' n) (h0 : 0 ≤ Lib.index T p) (hn : (Lib.index T p).toNat + p.length ≤ n) : Lib.index T' p = Lib.index T p := by
  rcases h with rfl | ⟨U, V, V', rfl, rfl, rfl⟩
  · rfl
  · rw [index_cutP] at h0 hn ⊢
    rw [index_cutP]
    cases hc : cutP p (U ++ V) with
    | none => rw [hc] at h0; exact absurd h0 (by decide)
    | some x =>
      obtain ⟨a, b⟩ := x
      rw [hc] at hn
      simp at hn
      obtain ⟨b0, hb0⟩ := cutP_front hc hn
      rw [cutP_app V' hb0]
theorem Agr.low {T T' : Bs} {n : Nat} (h : Agr T T' n) : Agr (lowS T) (lowS T') n := by
  rcases h with rfl | ⟨U, V, V', rfl, rfl, rfl⟩
  · exact Or.inl rfl
  · exact Or.inr ⟨lowS U, lowS V, lowS V', by simp [lowS], by simp [lowS], by simp [lowS]⟩
theorem Agr.take {T T' : Bs} {n m : Nat} (h : Agr T T' n) (hm : m ≤ n) : T'.take m = T.take m := by
  rcases h with rfl | ⟨U, V, V', rfl, rfl, rfl⟩
  · rfl
  · rw [List.take_append_of_le_length hm, List.take_append_of_le_length hm]
theorem Agr.less {T T' : Bs} {n m : Nat} (h : Agr T T' n) (hm : m ≤ n) : Agr T T' m := by
  rcases h with rfl | ⟨U, V, V', rfl, rfl, rfl⟩
  · exact Or.inl rfl
  · exact Or.inr ⟨U.take m, U.drop m ++ V, U.drop m ++ V', by rw [← List.append_assoc, List.take_append_drop], by rw [← List.append_assoc, List.take_append_drop], by rw [List.length_take]; omega⟩
def Sim (s : Bs) (zs : List (Lnk × Bs)) (i : Nat) (s' : Bs) (i' : Nat) : Prop := s'.drop i' = replF s zs i ∧ i ≤ s.length ∧ i' ≤ s'.length
def lnks (zs : List (Lnk × Bs)) : List Lnk := zs.map (·.1)
theorem take_split (l : Bs) {i j : Nat} (h : i ≤ j) : l.take j = l.take i ++ (l.drop i).take (j - i) := by
  have := List.take_add (l := l) (i := i) (j := j - i)
  rw [show i + (j - i) = j by omega] at this
  exact this
theorem replF_skip {s : Bs} {zs : List (Lnk × Bs)} {i a : Nat} (hia : i ≤ a) (hz : zs = [] ∨ Lies a (lnks zs) s.length) : replF s zs i = (s.drop i).take (a - i) ++ replF s zs a := by
  cases zs with
  | nil =>
    show s.drop i = (s.drop i).take (a - i) ++ s.drop a
    have := List.take_append_drop (a - i) (s.drop i)
    rw [List.drop_drop, show i + (a - i) = a by omega] at this
    exact this.symm
  | cons x l =>
    have hx : a ≤ x.1.1 := by
      rcases hz with hz | hz
      · cases hz
      · exact hz.1
    show (s.drop i).take (x.1.1 - i) ++ _ = (s.drop i).take (a - i) ++ ((s.drop a).take (x.1.1 - a) ++ _)
    rw [take_split (s.drop i) (show a - i ≤ x.1.1 - i by omega), List.drop_drop, show i + (a - i) = a by omega, show x.1.1 - i - (a - i) = x.1.1 - a by omega, List.append_assoc]
theorem Sim.to {s s' : Bs} {zs : List (Lnk × Bs)} {i i' a : Nat} (h : Sim s zs i s' i') (hia : i ≤ a) (ha : a ≤ s.length) (hz : zs = [] ∨ Lies a (lnks zs) s.length) :
    Sim s zs a s' (i' + (a - i)) ∧ s'.drop i' = (s.drop i).take (a - i) ++ s'.drop (i' + (a - i)) := by
  obtain ⟨h1, h2, h3⟩ := h
  have e := replF_skip hia hz
  have hl : ((s.drop i).take (a - i)).length = a - i := by rw [List.length_take, List.length_drop]; omega
  have hd : s'.drop (i' + (a - i)) = replF s zs a := by
    rw [← List.drop_drop, h1, e, List.drop_left' hl]
  have hlen := congrArg List.length (h1.trans e)
  rw [List.length_drop, List.length_append, hl] at hlen
  exact ⟨⟨hd, ha, by omega⟩, by rw [hd, h1, e]⟩
theorem Sim.agr {s s' : Bs} {zs : List (Lnk × Bs)} {i i' a : Nat} (h : Sim s zs i s' i') (hia : i ≤ a) (ha : a ≤ s.length) (hz : zs = [] ∨ Lies a (lnks zs) s.length) : Agr (s.drop i) (s'.drop i') (a - i) := by
  have h2 := (h.to hia ha hz).2
  refine Or.inr ⟨_, s.drop a, _, ?_, h2, by rw [List.length_take, List.length_drop]; omega⟩
  have := List.take_append_drop (a - i) (s.drop i)
  rw [List.drop_drop, show i + (a - i) = a by omega] at this
  exact this.symm
theorem Sim.same {s s' : Bs} {i i' : Nat} (h : Sim s [] i s' i') : s'.drop i' = s.drop i ∧ s'.length = i' + (s.length - i) := by
  obtain ⟨h1, h2, h3⟩ := h
  have h1 : s'.drop i' = s.drop i := h1
  have := congrArg List.length h1
  rw [List.length_drop, List.length_drop] at this
  exact ⟨h1, by omega⟩
def After (s : Bs) (zs : List (Lnk × Bs)) (j : Nat) : Prop := zs = [] ∨ Lies (j + 1) (lnks zs) s.length
theorem After.lt {s : Bs} {zs : List (Lnk × Bs)} {j : Nat} (h : After s zs j) : zs = [] ∨ (j < s.length ∧ Lies (j + 1) (lnks zs) s.length) := by
  rcases h with h | h
  · exact Or.inl h
  · exact Or.inr ⟨by have := h.le; omega, h⟩
theorem After.less {s : Bs} {zs : List (Lnk × Bs)} {i j : Nat} (h : After s zs j) (hij : i ≤ j) : After s zs i := by
  rcases h with h | h
  · exact Or.inl h
  · exact Or.inr (h.wide (by omega) (Nat.le_refl _))
theorem After.lies {s : Bs} {zs : List (Lnk × Bs)} {i j : Nat} (h : After s zs j) (hij : i ≤ j) : zs = [] ∨ Lies i (lnks zs) s.length := by
  rcases h with h | h
  · exact Or.inl h
  · exact Or.inr (h.wide (by omega) (Nat.le_refl _))
theorem Sim.thru {s s' : Bs} {zs : List (Lnk × Bs)} {i i' j : Nat} (h : Sim s zs i s' i') (hij : i ≤ j) (hz : After s zs j) : Agr (s.drop i) (s'.drop i') (j + 1 - i) := by
  rcases hz.lt with rfl | ⟨h1, h2⟩
  · exact Or.inl h.same.1.symm
  · exact h.agr (by omega) (by omega) (Or.inr h2)
theorem Sim.cons {s s' l : Bs} {zs : List (Lnk × Bs)} {i i' j : Nat} {c : UInt8} (h : Sim s zs i s' i') (hij : i ≤ j) (hz : After s zs j) (hd : s.drop i = c :: l) : ∃ l', s'.drop i' = c :: l' ∧ Agr l l' (j - i) := by
  have ha := h.thru hij hz
  rw [hd] at ha
  rcases ha with ha | ⟨U, V, V', e1, e2, e3⟩
  · exact ⟨l, ha.symm, Or.inl rfl⟩
  · cases U with
    | nil => simp at e3; omega
    | cons u U =>
      injection e1 with a1 a2
      refine ⟨U ++ V', by rw [e2, a1]; rfl, Or.inr ⟨U, V, V', a2, rfl, ?_⟩⟩
      simp at e3; omega
theorem Sim.nil {s s' : Bs} {zs : List (Lnk × Bs)} {i i' : Nat} (h : Sim s zs i s' i') (hz : After s zs i) (hd : s.drop i = []) : s'.drop i' = [] := by
  rcases hz.lt with rfl | ⟨h1, h2⟩
  · rw [h.same.1, hd]
  · have := congrArg List.length hd
    rw [List.length_drop] at this
    simp at this; omega
theorem escT_nil : escT [] = [] := rfl
theorem escT_cons (c : UInt8) (v : Bs) : escT (c :: v) = ((look sigP c).getD [c]) ++ escT v := rep_cons _ c v
theorem esc_byte : ∀ c : UInt8, (look sigP c = none ∧ c ≠ 38 ∧ c ≠ 34 ∧ c ≠ 39) ∨ ∃ j, j < 5 ∧ look sigP c = some (sigT.getD j ([], [])).2 ∧ (sigT.getD j ([], [])).1 = [c] := by
  intro c
  have key : ((List.range 256).all fun n => (look sigP n.toUInt8 == none && n.toUInt8 != 38 && n.toUInt8 != 34 && n.toUInt8 != 39) || ((List.range 5).any fun j => look sigP n.toUInt8 == some (sigT.getD j ([], [])).2 && (sigT.getD j ([], [])).1 == [n.toUInt8])) = true := by kernel_rfl
  have := List.all_eq_true.1 key c.toNat (List.mem_range.2 c.toNat_lt)
  rw [show c.toNat.toUInt8 = c by simp] at this
  rw [Bool.or_eq_true] at this
  rcases this with h | h
  · left; simpa [and_assoc] using h
  · right
    obtain ⟨j, hj, h⟩ := List.any_eq_true.1 h
    rw [List.mem_range] at hj
    rw [Bool.and_eq_true, beq_iff_eq, beq_iff_eq] at h
    exact ⟨j, hj, h.1, h.2⟩
theorem sigI_sign {j : Nat} (hj : j < 5) (r : Bs) : sigI ((sigT.getD j ([], [])).2 ++ r) = some j := by
  rcases (show j = 0 ∨ j = 1 ∨ j = 2 ∨ j = 3 ∨ j = 4 by omega) with rfl | rfl | rfl | rfl | rfl <;>
    simp [sigI, sigT, List.findIdx?, List.findIdx?.go, Lib.hasPrefix, List.isPrefixOf]
theorem sigI_none {c : UInt8} (h : c ≠ 38) (r : Bs) : sigI (c :: r) = none := by
  simp [sigI, sigT, List.findIdx?, List.findIdx?.go, Lib.hasPrefix, List.isPrefixOf, Ne.symm h]
theorem unesc_go : ∀ (v : Bs) (k : Nat), (escT v).length < k → unescF k (escT v) = v
  | _, 0, h => absurd h (Nat.not_lt_zero _)
  | [], k + 1, _ => rfl
  | c :: v, k + 1, h => by
    rw [escT_cons] at h ⊢
    rcases esc_byte c with ⟨h1, h2, _⟩ | ⟨j, hj, h1, h2⟩
    · rw [h1] at h ⊢
      simp only [Option.getD_none, List.cons_append, List.nil_append] at h ⊢
      unfold unescF
      rw [if_neg (by simp), sigI_none h2]
      show [c] ++ unescF k (escT v) = _
      rw [unesc_go v k (by simp at h; omega)]; rfl
    · rw [h1] at h ⊢
      simp only [Option.getD_some] at h ⊢
      have hne : (sigT.getD j ([], [])).2 ≠ [] := by
        rcases (show j = 0 ∨ j = 1 ∨ j = 2 ∨ j = 3 ∨ j = 4 by omega) with rfl | rfl | rfl | rfl | rfl <;> decide
      have hl := List.length_pos_iff.2 hne
      unfold unescF
      rw [if_neg (fun h => hne (List.append_eq_nil_iff.1 h).1), sigI_sign hj]
      simp only
      rw [List.drop_left' rfl, unesc_go v k (by rw [List.length_append] at h; omega), h2]; rfl
theorem unesc_esc (v : Bs) : unescT (escT v) = v := unesc_go v _ (Nat.lt_succ_self _)
theorem escT_quo (v : Bs) : (34 : UInt8) ∉ escT v ∧ (39 : UInt8) ∉ escT v := by
  induction v with
  | nil => exact ⟨by simp [escT_nil], by simp [escT_nil]⟩
  | cons c v ih =>
    rw [escT_cons]
    have hb : (34 : UInt8) ∉ (look sigP c).getD [c] ∧ (39 : UInt8) ∉ (look sigP c).getD [c] := by
      rcases esc_byte c with ⟨h1, _, h3, h4⟩ | ⟨j, hj, h1, _⟩
      · rw [h1]; simp [Ne.symm h3, Ne.symm h4]
      · rw [h1, Option.getD_some]
        rcases (show j = 0 ∨ j = 1 ∨ j = 2 ∨ j = 3 ∨ j = 4 by omega) with rfl | rfl | rfl | rfl | rfl <;> decide
    exact ⟨fun h => (List.mem_append.1 h).elim hb.1 ih.1, fun h => (List.mem_append.1 h).elim hb.2 ih.2⟩
theorem drop_len {s l : Bs} {i : Nat} {c : UInt8} (hd : s.drop i = c :: l) : i + (l.length + 1) = s.length := by
  have := congrArg List.length hd
  rw [List.length_drop, List.length_cons] at this; omega
theorem drop_next {s l : Bs} {i : Nat} {c : UInt8} (hd : s.drop i = c :: l) : s.drop (i + 1) = l := by
  rw [← List.drop_drop, hd]; rfl
theorem getD_drop {s l : Bs} {i : Nat} {c : UInt8} (hd : s.drop i = c :: l) : s.getD i 0 = c := by
  have h : (s.drop i)[0]? = some c := by rw [hd]; rfl
  rw [List.getElem?_drop] at h
  rw [List.getD_eq_getElem?_getD, show i = i + 0 from rfl, h]; rfl
theorem valueN_q {s name l : Bs} {i : Nat} {c : UInt8} (hd : s.drop i = c :: l) (hq : quoB c = true) : valueN s name i = if Lib.indexByte l c < 0 then (false, s.length, []) else (true, i + (Lib.indexByte l c).toNat + 2, if leadsT.contains name then [(i + 1, (Lib.indexByte l c).toNat, unescT (l.take (Lib.indexByte l c).toNat))] else []) := by
  unfold valueN
  rw [hd]
  simp only
  rw [show (c == 34 || c == 39) = true from hq]
  rfl
theorem valueN_u {s name l : Bs} {i : Nat} {c : UInt8} (hd : s.drop i = c :: l) (hq : quoB c = false) : valueN s name i = if Lib.indexAny (c :: l) [32, 9, 13, 10, 62] < 0 then (false, s.length, []) else (true, i + (Lib.indexAny (c :: l) [32, 9, 13, 10, 62]).toNat, if leadsT.contains name then [(i, (Lib.indexAny (c :: l) [32, 9, 13, 10, 62]).toNat, unescT ((c :: l).take (Lib.indexAny (c :: l) [32, 9, 13, 10, 62]).toNat))] else []) := by
  unfold valueN
  rw [hd]
  simp only
  rw [show (c == 34 || c == 39) = false from hq]
  rfl
theorem value_none {s s' name : Bs} {zs : List (Lnk × Bs)} {i i' j : Nat} {b : Bool} (h : Sim s zs i s' i') (hv : valueN s name i = (b, j, [])) (hz : After s zs j) : valueN s' name i' = (b, i' + (j - i), []) := by
  have hl := valueN_lies (s := s) (name := name) h.2.1
  rw [hv] at hl
  have hij := hl.1.le
  simp only at hij
  cases hd : s.drop i with
  | nil =>
    have hn := h.nil (hz.less hij) hd
    unfold valueN at hv ⊢
    rw [hd] at hv
    rw [hn]
    simp at hv
    obtain ⟨rfl, rfl⟩ := hv
    simp
  | cons c l =>
    obtain ⟨l', hd', ha⟩ := h.cons hij hz hd
    cases hq : quoB c with
    | true =>
      rw [valueN_q hd hq] at hv
      rw [valueN_q hd' hq]
      by_cases hk : Lib.indexByte l c < 0
      · rw [if_pos hk] at hv
        simp at hv
        obtain ⟨rfl, rfl⟩ := hv
        have hz0 : zs = [] := hz.lt.resolve_right (by omega)
        subst hz0
        obtain ⟨e1, e2⟩ := h.same
        rw [hd, hd'] at e1
        injection e1 with _ e1
        rw [e1, if_pos hk, e2]
      · rw [if_neg hk] at hv
        simp only [Prod.mk.injEq] at hv
        obtain ⟨rfl, rfl, h3⟩ := hv
        have hle := drop_len hd
        have e : Lib.indexByte l' c = Lib.indexByte l c := by
          rw [← Lib.index_one, ← Lib.index_one]
          rw [← Lib.index_one] at hk ha
          exact ha.index (by omega) (by simp; omega)
        rw [e, if_neg hk]
        split at h3
        · cases h3
        · rename_i hn
          rw [if_neg hn]
          simp <;> omega
    | false =>
      rw [valueN_u hd hq] at hv
      rw [valueN_u hd' hq]
      by_cases hk : Lib.indexAny (c :: l) [32, 9, 13, 10, 62] < 0
      · rw [if_pos hk] at hv
        simp at hv
        obtain ⟨rfl, rfl⟩ := hv
        have hz0 : zs = [] := hz.lt.resolve_right (by omega)
        subst hz0
        obtain ⟨e1, e2⟩ := h.same
        rw [hd, hd'] at e1
        rw [e1, if_pos hk, e2]
      · rw [if_neg hk] at hv
        simp only [Prod.mk.injEq] at hv
        obtain ⟨rfl, rfl, h3⟩ := hv
        have hth := h.thru hij hz
        rw [hd, hd'] at hth
        have e := hth.indexAny (cs := [32, 9, 13, 10, 62]) (by omega) (by omega)
        rw [e, if_neg hk]
        split at h3
        · cases h3
        · rename_i hn
          rw [if_neg hn]
          simp <;> omega
theorem indexByte_at {a b : Bs} {c : UInt8} (h : c ∉ a) : Lib.indexByte (a ++ c :: b) c = a.length := by
  rw [indexByte_cutP, cutC_mk h]
theorem value_some {s s' name v : Bs} {x : Lnk} {zs : List (Lnk × Bs)} {i i' j : Nat} {b : Bool} (h : Sim s ((x, v) :: zs) i s' i') (hv : valueN s name i = (b, j, [x])) (hz : After s zs j) (hb : quoB (s.getD (i - 1) 0) = false) :
    ∃ x' j', valueN s' name i' = (true, j', [x']) ∧ x'.2.2 = v ∧ Sim s zs j s' j' ∧ b = true ∧ ∃ c l', s'.drop i' = c :: l' ∧ quoB c = true := by
  have hl := valueN_lies (s := s) (name := name) h.2.1
  rw [hv] at hl
  obtain ⟨q34, q39⟩ := escT_quo v
  have fin : ∀ (c : UInt8) (W : Bs), quoB c = true → s'.drop i' = c :: (escT v ++ c :: W) → W = replF s zs j → leadsT.contains name = true → b = true →
      ∃ x' j', valueN s' name i' = (true, j', [x']) ∧ x'.2.2 = v ∧ Sim s zs j s' j' ∧ b = true ∧ ∃ c l', s'.drop i' = c :: l' ∧ quoB c = true := by
    intro c W hq hd' hW hn hbt
    have hc : c ∉ escT v := by
      unfold quoB at hq
      simp at hq
      rcases hq with rfl | rfl
      · exact q34
      · exact q39
    have hi := indexByte_at (b := W) hc
    have hlen := drop_len hd'
    refine ⟨(i' + 1, (escT v).length, unescT ((escT v ++ c :: W).take (escT v).length)), i' + (escT v).length + 2, ?_, ?_, ⟨?_, hl.2.1, ?_⟩, hbt, c, _, hd', hq⟩
    · rw [valueN_q hd' hq, hi, if_neg (by omega), if_pos hn, Int.toNat_natCast]
    · simp only
      rw [List.take_left' rfl, unesc_esc]
    · rw [← hW, show i' + (escT v).length + 2 = i' + ((escT v).length + 2) by omega, ← List.drop_drop, hd']
      show (escT v ++ c :: W).drop ((escT v).length + 1) = W
      rw [← List.drop_drop, List.drop_left' rfl]; rfl
    · simp at hlen; omega
  cases hd : s.drop i with
  | nil =>
    unfold valueN at hv
    rw [hd] at hv
    simp at hv
  | cons c l =>
    have hle := drop_len hd
    have hrep : s'.drop i' = (s.drop i).take (x.1 - i) ++ (quoT (befB s x) v ++ replF s zs (x.1 + x.2.1)) := h.1
    cases hq : quoB c with
    | true =>
      rw [valueN_q hd hq] at hv
      by_cases hk : Lib.indexByte l c < 0
      · rw [if_pos hk] at hv; simp at hv
      · rw [if_neg hk] at hv
        by_cases hn : leadsT.contains name = true
        · rw [if_pos hn] at hv
          simp only [Prod.mk.injEq, List.cons.injEq, and_true] at hv
          obtain ⟨rfl, rfl, rfl⟩ := hv
          simp only at hrep
          rcases hasAt_index l c with ⟨hh, _⟩ | ⟨a, b, hlab, hca, hka⟩
          · rw [hh] at hk; exact absurd (by decide) hk
          · rw [hka, Int.toNat_natCast] at hrep hz
            have h1 : (s.drop i).take (i + 1 - i) = [c] := by rw [hd, show i + 1 - i = 1 by omega]; rfl
            have h2 : befB s (i + 1, a.length, unescT (l.take a.length)) = c := by
              show s.getD (i + 1 - 1) 0 = c
              rw [show i + 1 - 1 = i by omega, getD_drop hd]
            rw [hka, Int.toNat_natCast] at fin
            have h3 : replF s zs (i + 1 + a.length) = c :: replF s zs (i + a.length + 2) := by
              rw [replF_skip (a := i + a.length + 2) (by omega) (hz.lies (Nat.le_refl _)), show i + a.length + 2 - (i + 1 + a.length) = 1 by omega]
              have : s.drop (i + 1 + a.length) = c :: b := by rw [← List.drop_drop, drop_next hd, hlab, List.drop_left' rfl]
              rw [this]; rfl
            rw [h1, h2, h3] at hrep
            unfold quoT at hrep
            rw [if_pos hq] at hrep
            have := fin c (replF s zs (i + a.length + 2)) hq hrep rfl hn rfl
            rw [hka, Int.toNat_natCast]
            exact this
        · rw [if_neg hn] at hv; simp at hv
    | false =>
      rw [valueN_u hd hq] at hv
      by_cases hk : Lib.indexAny (c :: l) [32, 9, 13, 10, 62] < 0
      · rw [if_pos hk] at hv; simp at hv
      · rw [if_neg hk] at hv
        by_cases hn : leadsT.contains name = true
        · rw [if_pos hn] at hv
          simp only [Prod.mk.injEq, List.cons.injEq, and_true] at hv
          obtain ⟨rfl, rfl, rfl⟩ := hv
          simp only at hrep
          rw [Nat.sub_self, List.take_zero, List.nil_append] at hrep
          unfold quoT at hrep
          rw [if_neg (by unfold befB; rw [hb]; decide)] at hrep
          exact fin 34 (replF s zs (i + (Lib.indexAny (c :: l) [32, 9, 13, 10, 62]).toNat)) (by decide) (by rw [hrep]; simp) rfl hn rfl
        · rw [if_neg hn] at hv; simp at hv
inductive Front where
  | stop : Nat → Front
  | bare : Nat → Front
  | val : Bs → Nat → Front
def Front.pos : Front → Nat | .stop j => j | .bare d => d | .val _ d => d
def Front.map (g : Nat → Nat) : Front → Front | .stop j => .stop (g j) | .bare d => .bare (g d) | .val n d => .val n (g d)
def front (s : Bs) (i : Nat) : Front :=
  let a := i + runN (s.drop i) [32, 9, 13, 10, 47]
  match s.drop a with
  | [] => .stop a
  | c :: l => if c = 62 then .stop (a + 1) else
    let k := Lib.indexAny l [32, 9, 13, 10, 47, 61, 62]
    if k < 0 then .stop s.length else
    let b := a + (1 + k.toNat)
    let d := b + runN (s.drop b) wsA
    if (s.drop d).head? = some 61 then .val (lowS ((c :: l).take (1 + k.toNat))) d else .bare d
theorem attrN_front (s : Bs) (i : Nat) : attrN s i = match front s i with
    | .stop j => (false, j, [])
    | .bare d => (decide (d < s.length), d, [])
    | .val n d => valueN s n (d + 1 + runN (s.drop (d + 1)) wsA) := by
  unfold attrN front
  simp only
  cases s.drop (i + runN (s.drop i) [32, 9, 13, 10, 47]) with
  | nil => rfl
  | cons c l =>
    simp only
    split
    · rfl
    split
    · rfl
    split
    · rfl
    · rfl
theorem front_pos {s : Bs} {i : Nat} (hi : i ≤ s.length) : i ≤ (front s i).pos ∧ (front s i).pos ≤ s.length ∧ (∀ n d, front s i = .val n d → i + 1 ≤ d ∧ d < s.length ∧ ∃ l, s.drop d = 61 :: l) := by
  have hr := runN_le (s.drop i) [32, 9, 13, 10, 47]
  rw [List.length_drop] at hr
  unfold front
  simp only
  generalize runN (s.drop i) [32, 9, 13, 10, 47] = r at hr ⊢
  cases hd : s.drop (i + r) with
  | nil => exact ⟨by simp only [Front.pos]; omega, by simp only [Front.pos]; omega, fun n d h => by cases h⟩
  | cons c l =>
    have hle := drop_len hd
    simp only
    split
    · exact ⟨by simp only [Front.pos]; omega, by simp only [Front.pos]; omega, fun n d h => by cases h⟩
    split
    · exact ⟨by simp only [Front.pos]; omega, by simp only [Front.pos]; omega, fun n d h => by cases h⟩
    rename_i hk
    have hk2 := (indexAny_le l [32, 9, 13, 10, 47, 61, 62]).resolve_left hk
    generalize (Lib.indexAny l [32, 9, 13, 10, 47, 61, 62]).toNat = k at hk2 ⊢
    have hr2 := runN_le (s.drop (i + r + (1 + k))) wsA
    rw [List.length_drop] at hr2
    generalize runN (s.drop (i + r + (1 + k))) wsA = r2 at hr2 ⊢
    split
    · rename_i hh
      refine ⟨by simp only [Front.pos]; omega, by simp only [Front.pos]; omega, fun n d h => ?_⟩
      injection h with _ h
      subst h
      cases hdd : s.drop (i + r + (1 + k) + r2) with
      | nil => rw [hdd] at hh; cases hh
      | cons y l2 =>
        rw [hdd] at hh
        have := drop_len hdd
        simp at hh
        subst hh
        exact ⟨by omega, by omega, l2, rfl⟩
    · exact ⟨by simp only [Front.pos]; omega, by simp only [Front.pos]; omega, fun n d h => by cases h⟩
theorem front_sim {s s' : Bs} {zs : List (Lnk × Bs)} {i i' : Nat} (h : Sim s zs i s' i') (hz : After s zs (front s i).pos) : front s' i' = (front s i).map (fun p => i' + (p - i)) := by
  have hi := h.2.1
  have hp := front_pos hi
  have hr := runN_le (s.drop i) [32, 9, 13, 10, 47]
  rw [List.length_drop] at hr
  have hrun : ∀ j, After s zs j → i + runN (s.drop i) [32, 9, 13, 10, 47] ≤ j → runN (s'.drop i') [32, 9, 13, 10, 47] = runN (s.drop i) [32, 9, 13, 10, 47] :=
    fun j hz hle => (h.thru (by omega) hz).run _ (by omega)
  unfold front at hz ⊢
  simp only at hz ⊢
  generalize runN (s.drop i) [32, 9, 13, 10, 47] = r at hr hz hrun ⊢
  have hto : ∀ (j : Nat), After s zs j → i + r ≤ j → Sim s zs (i + r) s' (i' + r) := fun j hz hj => by
    have := (h.to (a := i + r) (by omega) (by omega) (hz.lies hj)).1
    rwa [show i' + (i + r - i) = i' + r by omega] at this
  cases hd : s.drop (i + r) with
  | nil =>
    rw [hd] at hz
    simp only [Front.pos] at hz
    have hr' := hrun _ hz (Nat.le_refl _)
    rw [hr', (hto _ hz (Nat.le_refl _)).nil hz hd]
    simp only [Front.map]
    congr 1; omega
  | cons c l =>
    have hle := drop_len hd
    rw [hd] at hz
    simp only at hz ⊢
    by_cases h62 : c = 62
    · rw [if_pos h62] at hz
      simp only [Front.pos] at hz
      have hr' := hrun _ hz (by omega)
      obtain ⟨l', hd', _⟩ := (hto _ hz (by omega)).cons (by omega) hz hd
      rw [hr', hd', if_pos h62]
      simp only
      rw [if_pos h62]
      simp only [Front.map]
      congr 1; omega
    · rw [if_neg h62] at hz ⊢
      by_cases hk : Lib.indexAny l [32, 9, 13, 10, 47, 61, 62] < 0
      · rw [if_pos hk] at hz ⊢
        simp only [Front.pos] at hz
        have hr' := hrun _ hz (by omega)
        have hz0 : zs = [] := hz.lt.resolve_right (by omega)
        subst hz0
        obtain ⟨e1, e2⟩ := (hto _ hz (by omega)).same
        rw [hr', e1, hd]
        simp only
        rw [if_neg h62, if_pos hk, e2]
        simp only [Front.map]
        congr 1; omega
      · rw [if_neg hk] at hz ⊢
        have hk2 := (indexAny_le l [32, 9, 13, 10, 47, 61, 62]).resolve_left hk
        generalize hkk : Lib.indexAny l [32, 9, 13, 10, 47, 61, 62] = kz at hk hk2 hz ⊢
        obtain ⟨k, rfl⟩ : ∃ k : Nat, kz = (k : Int) := ⟨kz.toNat, by omega⟩
        rw [Int.toNat_natCast] at hz hk2 ⊢
        have hr2 := runN_le (s.drop (i + r + (1 + k))) wsA
        rw [List.length_drop] at hr2
        obtain ⟨d, hdd⟩ : ∃ d, d = i + r + (1 + k) + runN (s.drop (i + r + (1 + k))) wsA := ⟨_, rfl⟩
        have hzd : After s zs d := by
          rw [hdd]
          split at hz
          · exact hz
          · exact hz
        have hr' := hrun d hzd (by omega)
        have hA := hto d hzd (by omega)
        obtain ⟨l', hd', ha⟩ := hA.cons (by omega) hzd hd
        have ek : Lib.indexAny l' [32, 9, 13, 10, 47, 61, 62] = (k : Int) := by
          rw [← hkk]
          exact ha.indexAny (by omega) (by rw [hkk, Int.toNat_natCast]; omega)
        have hB : Sim s zs (i + r + (1 + k)) s' (i' + r + (1 + k)) := by
          have := (hA.to (a := i + r + (1 + k)) (by omega) (by omega) (hzd.lies (by omega))).1
          rwa [show i' + r + (i + r + (1 + k) - (i + r)) = i' + r + (1 + k) by omega] at this
        have er2 : runN (s'.drop (i' + r + (1 + k))) wsA = runN (s.drop (i + r + (1 + k))) wsA := (hB.thru (j := d) (by omega) hzd).run _ (by omega)
        have hD : Sim s zs d s' (i' + (d - i)) := by
          have := (h.to (a := d) (by omega) (by omega) (hzd.lies (by omega))).1
          exact this
        have ehd : (s'.drop (i' + (d - i))).head? = (s.drop d).head? := by
          cases hdr : s.drop d with
          | nil => rw [hD.nil hzd hdr]
          | cons y l2 =>
            obtain ⟨l3, e3, _⟩ := hD.cons (Nat.le_refl _) hzd hdr
            rw [e3]; rfl
        have ed : i' + r + (1 + k) + runN (s.drop (i + r + (1 + k))) wsA = i' + (d - i) := by omega
        rw [hr', hd']
        simp only
        rw [if_neg h62, ek, if_neg hk, Int.toNat_natCast, er2, ed, ← hdd, ehd]
        have et : (c :: l').take (1 + k) = (c :: l).take (1 + k) := by
          rw [show 1 + k = k + 1 by omega, List.take_succ_cons, List.take_succ_cons, ha.take (by omega)]
        rw [et]
        split <;> rfl
theorem valueN_le1 {s name : Bs} {i : Nat} (hi : i ≤ s.length) : (valueN s name i).2.2.length ≤ 1 := (valueN_lies hi).2.2
theorem val_pos {s : Bs} {i d : Nat} {n : Bs} (hi : i ≤ s.length) (h : front s i = .val n d) : d + 1 ≤ d + 1 + runN (s.drop (d + 1)) wsA ∧ d + 1 + runN (s.drop (d + 1)) wsA ≤ s.length := by
  obtain ⟨_, h2, _⟩ := (front_pos hi).2.2 n d h
  have hr := runN_le (s.drop (d + 1)) wsA
  rw [List.length_drop] at hr
  omega
theorem attrN_le1 {s : Bs} {i : Nat} (hi : i ≤ s.length) : (attrN s i).2.2.length ≤ 1 := by
  rw [attrN_front]
  cases hf : front s i with
  | stop j => simp
  | bare d => simp
  | val n d => exact valueN_le1 (val_pos hi hf).2
theorem attrN_lies1 {s : Bs} {i : Nat} (hi : i ≤ s.length) : (attrN s i).2.2 = [] ∨ Lies (i + 1) (attrN s i).2.2 (attrN s i).2.1 := by
  rw [attrN_front]
  cases hf : front s i with
  | stop j => exact Or.inl rfl
  | bare d => exact Or.inl rfl
  | val n d =>
    right
    have hp := val_pos hi hf
    have hd := (front_pos hi).2.2 n d hf
    exact (valueN_lies (s := s) (name := n) hp.2).1.wide (by omega) (Nat.le_refl _)
theorem attrN_none {s s' : Bs} {zs : List (Lnk × Bs)} {i i' j : Nat} {b : Bool} (h : Sim s zs i s' i') (hv : attrN s i = (b, j, [])) (hz : After s zs j) : attrN s' i' = (b, i' + (j - i), []) := by
  have hi := h.2.1
  have hp := front_pos hi
  rw [attrN_front] at hv ⊢
  cases hf : front s i with
  | stop p =>
    rw [hf] at hv
    simp only [Prod.mk.injEq, and_true] at hv
    obtain ⟨rfl, rfl⟩ := hv
    have e := front_sim h (by rw [hf]; exact hz)
    rw [hf] at e
    rw [e]; rfl
  | bare d =>
    rw [hf] at hv hp
    simp only [Prod.mk.injEq, and_true] at hv
    obtain ⟨rfl, rfl⟩ := hv
    have e := front_sim h (by rw [hf]; exact hz)
    rw [hf] at e
    rw [e]
    simp only [Front.map, Front.pos] at hp ⊢
    have hD := (h.to (a := d) hp.1 hp.2.1 (hz.lies (Nat.le_refl _))).1
    have hb : decide (i' + (d - i) < s'.length) = decide (d < s.length) := by
      rw [decide_eq_decide]
      cases hdr : s.drop d with
      | nil =>
        have e1 := congrArg List.length hdr
        have e2 := congrArg List.length (hD.nil hz hdr)
        simp at e1 e2
        omega
      | cons y l2 =>
        obtain ⟨l3, e3, _⟩ := hD.cons (Nat.le_refl _) hz hdr
        have e1 := drop_len hdr
        have e2 := drop_len e3
        omega
    rw [hb]
  | val n d =>
    rw [hf] at hv hp
    simp only [Front.pos] at hp
    have hvp := val_pos hi hf
    obtain ⟨q1, q2, q3⟩ := hp.2.2 n d rfl
    simp only at hv
    obtain ⟨e, he⟩ : ∃ e, e = d + 1 + runN (s.drop (d + 1)) wsA := ⟨_, rfl⟩
    rw [← he] at hv hvp
    have hl := valueN_lies (s := s) (name := n) hvp.2
    rw [hv] at hl
    have hej : e ≤ j := hl.1.le
    have e1 := front_sim h (by rw [hf]; exact hz.less (by show d ≤ j; omega))
    rw [hf] at e1
    rw [e1]
    simp only [Front.map]
    have hD := (h.to (a := d + 1) (by omega) (by omega) (hz.lies (by omega))).1
    have hr : runN (s'.drop (i' + (d + 1 - i))) wsA = runN (s.drop (d + 1)) wsA := (hD.thru (j := j) (by omega) hz).run _ (by omega)
    have hE := (h.to (a := e) (by omega) (by omega) (hz.lies (by omega))).1
    have := value_none hE hv hz
    rw [show i' + (d - i) + 1 = i' + (d + 1 - i) by omega, hr, show i' + (d + 1 - i) + runN (s.drop (d + 1)) wsA = i' + (e - i) by omega, this]
    congr 2; omega
theorem ws_quo : ∀ c : UInt8, wsA.contains c = true → quoB c = false := by
  intro c h
  cases hq : quoB c with
  | false => rfl
  | true =>
    exfalso
    unfold quoB at hq
    simp at hq
    rcases hq with rfl | rfl <;> revert h <;> decide
theorem attrN_some {s s' v : Bs} {x : Lnk} {zs : List (Lnk × Bs)} {i i' j : Nat} {b : Bool} (h : Sim s ((x, v) :: zs) i s' i') (hv : attrN s i = (b, j, [x])) (hz : After s zs j) :
    ∃ x' j', attrN s' i' = (true, j', [x']) ∧ x'.2.2 = v ∧ Sim s zs j s' j' ∧ b = true := by
  have hi := h.2.1
  have hp := front_pos hi
  rw [attrN_front] at hv ⊢
  cases hf : front s i with
  | stop p => rw [hf] at hv; simp at hv
  | bare d => rw [hf] at hv; simp at hv
  | val n d =>
    rw [hf] at hv hp
    simp only [Front.pos] at hp
    have hvp := val_pos hi hf
    obtain ⟨q1, q2, l61, q3⟩ := hp.2.2 n d rfl
    simp only at hv
    obtain ⟨e, he⟩ : ∃ e, e = d + 1 + runN (s.drop (d + 1)) wsA := ⟨_, rfl⟩
    rw [← he] at hv hvp
    have hl := valueN_lies (s := s) (name := n) hvp.2
    rw [hv] at hl
    simp only [Lies] at hl
    have hlz : Lies e (lnks ((x, v) :: zs)) s.length := ⟨hl.1.1, by
      rcases hz with rfl | hz
      · exact (show x.1 + x.2.1 ≤ s.length by omega)
      · exact hz.wide (show x.1 + x.2.1 ≤ j + 1 by omega) (Nat.le_refl _)⟩
    have hzd : After s ((x, v) :: zs) d := Or.inr (hlz.wide (by omega) (Nat.le_refl _))
    have e1 := front_sim h (by rw [hf]; exact hzd)
    rw [hf] at e1
    rw [e1]
    simp only [Front.map]
    have hD := (h.to (a := d + 1) (by omega) (by omega) (Or.inr (hlz.wide (by omega) (Nat.le_refl _)))).1
    have hE := hD.to (a := e) (by omega) (by omega) (Or.inr hlz)
    have htw : (s.drop (d + 1)).take (e - (d + 1)) = (s.drop (d + 1)).takeWhile (fun c => wsA.contains c) := by
      rw [he, show d + 1 + runN (s.drop (d + 1)) wsA - (d + 1) = runN (s.drop (d + 1)) wsA by omega]
      exact take_takeWhile _ _
    have hall : ∀ c ∈ (s.drop (d + 1)).take (e - (d + 1)), wsA.contains c = true := by
      rw [htw]
      intro c hc
      exact (List.all_eq_true.1 (List.all_takeWhile (p := fun c => wsA.contains c) (l := s.drop (d + 1)))) c hc
    have hb : quoB (s.getD (e - 1) 0) = false := by
      by_cases h0 : e = d + 1
      · rw [h0, show d + 1 - 1 = d by omega, getD_drop q3]; decide
      · have h1 : e - 1 - (d + 1) < ((s.drop (d + 1)).take (e - (d + 1))).length := by rw [List.length_take, List.length_drop]; omega
        have h2 := hall _ (List.getElem_mem h1)
        have h3 : s.getD (e - 1) 0 = ((s.drop (d + 1)).take (e - (d + 1)))[e - 1 - (d + 1)] := by
          rw [List.getElem_take, List.getElem_drop, List.getD_eq_getElem?_getD, List.getElem?_eq_getElem (by omega)]
          simp only [Option.getD_some]
          congr 1; omega
        rw [h3]
        exact ws_quo _ h2
    obtain ⟨x', j', w1, w2, w3, w4, c, l', w5, w6⟩ := value_some hE.1 hv hz hb
    have hrun : runN (s'.drop (i' + (d + 1 - i))) wsA = e - (d + 1) := by
      have := (tw_app (p := fun c => wsA.contains c) (s'.drop (i' + (d + 1 - i) + (e - (d + 1)))) hall (fun y hy => by
        rw [w5] at hy
        simp at hy
        subst hy
        cases hws : wsA.contains c with
        | false => rfl
        | true => rw [ws_quo c hws] at w6; cases w6)).1
      unfold runN
      rw [hE.2, this, List.length_take, List.length_drop]; omega
    refine ⟨x', j', ?_, w2, w3, w4⟩
    rw [show i' + (d - i) + 1 = i' + (d + 1 - i) by omega, hrun, w1]
theorem attrsT_lies1 {s : Bs} : ∀ n i, s.length - i ≤ n → i ≤ s.length → (attrsT s i).2 = [] ∨ Lies (i + 1) (attrsT s i).2 (attrsT s i).1
  | n, i, hn, hi => by
    have hl := attrN_lies hi
    have hl1 := attrN_lies1 hi
    cases hb : (attrN s i).1 with
    | false => rw [attrsT_end hb]; exact hl1
    | true =>
      have hij := hl.2.2.2 hb
      have h2 := hl.2.1
      rw [attrsT_go hi hb]
      simp only
      cases n with
      | zero => omega
      | succ n =>
        have ih := attrsT_lies1 n (attrN s i).2.1 (by omega) h2
        have ih0 := (attrsT_lies (s := s) _ (attrN s i).2.1 (Nat.le_refl _) h2).1
        rcases hl1 with e | e
        · rw [e, List.nil_append]
          rcases ih with e2 | e2
          · exact Or.inl e2
          · exact Or.inr (e2.wide (by omega) (Nat.le_refl _))
        · exact Or.inr (e.append ih0)
theorem lnks_zip {l : List Lnk} {v : List Bs} (h : v.length = l.length) : lnks (l.zip v) = l := by
  unfold lnks
  rw [← List.unzip_fst, List.unzip_zip_left (by omega)]
theorem lnks_app (a b : List (Lnk × Bs)) : lnks (a ++ b) = lnks a ++ lnks b := by simp [lnks]
theorem After.app {s : Bs} {l : List Lnk} {v : List Bs} {zs : List (Lnk × Bs)} {i j : Nat} (hl : l = [] ∨ Lies (i + 1) l j) (hv : v.length = l.length) (hij : i ≤ j) (hjs : j ≤ s.length) (hz : After s zs j) : After s (l.zip v ++ zs) i := by
  rcases hl with rfl | hl
  · exact hz.less hij
  · right
    rw [lnks_app, lnks_zip hv]
    rcases hz with rfl | hz
    · show Lies _ (l ++ []) _
      rw [List.append_nil]
      exact hl.wide (Nat.le_refl _) hjs
    · exact hl.append (hz.wide (by omega) (Nat.le_refl _))
theorem attrs_sim {s : Bs} : ∀ (n i : Nat) (vals : List Bs) (zs : List (Lnk × Bs)) (s' : Bs) (i' : Nat), s.length - i ≤ n → vals.length = (attrsT s i).2.length → Sim s ((attrsT s i).2.zip vals ++ zs) i s' i' → After s zs (attrsT s i).1 →
    (attrsT s' i').2.map (·.2.2) = vals ∧ Sim s zs (attrsT s i).1 s' (attrsT s' i').1
  | n, i, vals, zs, s', i', hn, hv, h, hz => by
    have hi := h.2.1
    have hl := attrN_lies hi
    have hle1 := attrN_le1 hi
    rcases ha : attrN s i with ⟨b, j, l⟩
    rw [ha] at hl hle1
    simp only at hl hle1
    have one : ∀ (v1 : List Bs) (zs1 : List (Lnk × Bs)), v1.length = l.length → Sim s (l.zip v1 ++ zs1) i s' i' → After s zs1 j → ∃ l' j', attrN s' i' = (b, j', l') ∧ l'.map (·.2.2) = v1 ∧ Sim s zs1 j s' j' ∧ (l ≠ [] → b = true) := by
      intro v1 zs1 hv1 h1 hz1
      match l, hle1, ha, hv1, h1 with
      | [], _, ha, hv1, h1 =>
        have : v1 = [] := List.length_eq_zero_iff.1 hv1
        subst this
        exact ⟨[], _, attrN_none h1 ha hz1, rfl, (h1.to hl.1.le hl.2.1 (hz1.lies (Nat.le_refl _))).1, fun h => absurd rfl h⟩
      | [x], _, ha, hv1, h1 =>
        match v1, hv1, h1 with
        | [v], _, h1 =>
          obtain ⟨x', j', w1, w2, w3, w4⟩ := attrN_some h1 ha hz1
          exact ⟨[x'], j', by rw [w1, w4], by simp [w2], w3, fun _ => w4⟩
    cases b with
    | false =>
      have hb : (attrN s i).1 = false := by rw [ha]
      have he : attrsT s i = (j, l) := by rw [attrsT_end hb, ha]
      rw [he] at hv h hz ⊢
      obtain ⟨l', j', w1, w2, w3, w4⟩ := one vals zs hv h hz
      have hb' : (attrN s' i').1 = false := by rw [w1]
      rw [attrsT_end hb', w1]
      exact ⟨w2, w3⟩
    | true =>
      have hb : (attrN s i).1 = true := by rw [ha]
      have hij := hl.2.2.2 rfl
      have he : attrsT s i = ((attrsT s j).1, l ++ (attrsT s j).2) := by rw [attrsT_go hi hb, ha]
      rw [he] at hv h hz ⊢
      simp only at hv h hz ⊢
      rw [List.length_append] at hv
      obtain ⟨v1, v2, rfl, hv1⟩ : ∃ v1 v2, vals = v1 ++ v2 ∧ v1.length = l.length := ⟨vals.take l.length, vals.drop l.length, (List.take_append_drop _ _).symm, by rw [List.length_take]; omega⟩
      rw [List.length_append] at hv
      rw [List.zip_append hv1.symm, List.append_assoc] at h
      have hlj := attrsT_lies (s := s) _ j (Nat.le_refl _) hl.2.1
      have hz1 : After s ((attrsT s j).2.zip v2 ++ zs) j := After.app (attrsT_lies1 _ j (Nat.le_refl _) hl.2.1) (by omega) hlj.1.le hlj.2.1 hz
      obtain ⟨l', j', w1, w2, w3, w4⟩ := one v1 _ hv1 h hz1
      cases n with
      | zero => omega
      | succ n =>
        obtain ⟨r1, r2⟩ := attrs_sim n j v2 zs s' j' (by omega) (by omega) w3 hz
        have hb' : (attrN s' i').1 = true := by rw [w1]
        rw [attrsT_go h.2.2 hb', w1]
        simp only
        rw [List.map_append, w2, r1]
        exact ⟨rfl, r2⟩
theorem linksA_top (s : Bs) : linksA s s.length = [] := linksA_end (by
  have := skipN_le s [60] s.length (Nat.le_refl _)
  exact List.drop_of_length_le (by omega))
theorem linksA_after {s : Bs} {j : Nat} (hj : j ≤ s.length) : linksA s j = [] ∨ Lies (j + 1) (linksA s j) s.length := by
  rcases Nat.lt_or_ge j s.length with h | h
  · have hs := skipN_le s [60] j hj
    have hlt := skipN_lt s [60] j h (by simp)
    cases hd : s.drop (skipN s [60] j) with
    | nil => exact Or.inl (linksA_end hd)
    | cons c l =>
      right
      have hl := linkN_lies hd
      rw [linksA_go hj hd]
      have := (linksA_lies (s := s) _ (linkN s (skipN s [60] j) c).1 (Nat.le_refl _) hl.2.1).1
      exact (hl.1.append this).wide (by omega) (Nat.le_refl _)
  · rw [show j = s.length by omega]; exact Or.inl (linksA_top s)
theorem after_links {s : Bs} {zs : List (Lnk × Bs)} {j : Nat} (hj : j ≤ s.length) (hz : lnks zs = linksA s j) : After s zs j := by
  rcases linksA_after hj with h | h
  · left
    rw [h] at hz
    exact List.map_eq_nil_iff.1 hz
  · right; rw [hz]; exact h
theorem skip_sim {s s' p : Bs} {zs : List (Lnk × Bs)} {i i' : Nat} (h : Sim s zs i s' i') (hz : zs = [] ∨ (skipN s p i < s.length ∧ Lies (skipN s p i) (lnks zs) s.length)) : Sim s zs (skipN s p i) s' (skipN s' p i') := by
  have hi := h.2.1
  by_cases hk : Lib.index (s.drop i) p < 0
  · have e : skipN s p i = s.length := by unfold skipN; rw [if_pos hk]
    rw [e] at hz ⊢
    have hz0 : zs = [] := hz.resolve_right (by omega)
    subst hz0
    obtain ⟨e1, e2⟩ := h.same
    have e' : skipN s' p i' = s'.length := by unfold skipN; rw [e1, if_pos hk]
    rw [e']
    exact ⟨by rw [List.drop_length]; exact (List.drop_length).symm, Nat.le_refl _, Nat.le_refl _⟩
  · have hx := (index_le (s.drop i) p).resolve_left hk
    rw [List.length_drop] at hx
    have e : skipN s p i = i + ((Lib.index (s.drop i) p).toNat + p.length) := by unfold skipN; rw [if_neg hk]
    rw [e] at hz ⊢
    have hz' : zs = [] ∨ Lies (i + ((Lib.index (s.drop i) p).toNat + p.length)) (lnks zs) s.length := hz.imp id (·.2)
    have ha := h.agr (a := i + ((Lib.index (s.drop i) p).toNat + p.length)) (by omega) (by omega) hz'
    have ei := ha.index (p := p) (by omega) (by omega)
    have e' : skipN s' p i' = i' + ((Lib.index (s.drop i) p).toNat + p.length) := by unfold skipN; rw [ei, if_neg hk]
    rw [e']
    have := (h.to (a := i + ((Lib.index (s.drop i) p).toNat + p.length)) (by omega) (by omega) hz').1
    rwa [show i' + (i + ((Lib.index (s.drop i) p).toNat + p.length) - i) = i' + ((Lib.index (s.drop i) p).toNat + p.length) by omega] at this
end Go.Proofs.YtignjjnflcpiiaaGreatDoor
