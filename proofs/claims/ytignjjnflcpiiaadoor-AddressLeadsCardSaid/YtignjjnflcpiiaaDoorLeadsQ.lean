/-
  The plain law of dots and of where an address leads: no dots are left, and it leads there again. No program, no condition.
-/
import Derived.Test.YtignjjnflcpiiaaDoorLeadsP
namespace Go.Proofs.YtignjjnflcpiiaaDoor
open Go

/-! ### Parts without dots -/

/-- Parts with no dots and nothing empty between. -/
def Clean (l : List Bs) : Prop := ∀ i (h : i < l.length), l[i] ≠ [46] ∧ l[i] ≠ [46, 46] ∧ (47 : UInt8) ∉ l[i] ∧ (l[i] = [] → i = 0 ∨ i + 1 = l.length)

/-- What holds of the parts behind the first k: empty ones stand first alone. -/
def Mid (o : List Bs) : Prop := ∀ i (h : i < o.length), o[i] ≠ [46] ∧ o[i] ≠ [46, 46] ∧ (47 : UInt8) ∉ o[i] ∧ (o[i] = [] → i = 0)

theorem Mid.app {o : List Bs} {s : Bs} (h : Mid o) (h1 : s ≠ [46]) (h2 : s ≠ [46, 46]) (h3 : (47 : UInt8) ∉ s) (h4 : s = [] → o = []) : Mid (o ++ [s]) := by
  intro i hi
  rw [List.getElem_append]
  split
  · rename_i hlt; exact h i hlt
  · rename_i hlt
    simp only [List.length_append, List.length_cons, List.length_nil] at hi
    have e : i - o.length = 0 := by omega
    simp only [e, List.getElem_cons_zero]
    exact ⟨h1, h2, h3, fun hs => by rw [h4 hs] at hi; simpa using hi⟩

theorem Mid.last {o : List Bs} {s : Bs} (h : Mid o) (h1 : s ≠ [46]) (h2 : s ≠ [46, 46]) (h3 : (47 : UInt8) ∉ s) : Clean (o ++ [s]) := by
  intro i hi
  rw [List.getElem_append]
  split
  · rename_i hlt
    obtain ⟨a, b, c, d⟩ := h i hlt
    exact ⟨a, b, c, fun e => Or.inl (d e)⟩
  · rename_i hlt
    simp only [List.length_append, List.length_cons, List.length_nil] at hi ⊢
    have e : i - o.length = 0 := by omega
    simp only [e, List.getElem_cons_zero]
    exact ⟨h1, h2, h3, fun _ => Or.inr (by omega)⟩

theorem Mid.up {o : List Bs} (h : Mid o) : Mid (upOf o) := by
  unfold upOf
  split
  · intro i hi
    rw [List.getElem_dropLast]
    exact h i (by simp at hi; omega)
  · exact h

/-- One more part, not the last one. -/
theorem Mid.step {o : List Bs} {s : Bs} (f : Bool) (h : Mid o) (h3 : (47 : UInt8) ∉ s) (hf : f = true → o = []) : Mid (dotStep f false o s) := by
  by_cases h1 : s = [46]
  · subst h1; rw [dotStep_dot]; exact h
  · by_cases h2 : s = []
    · subst h2
      cases f with
      | true => rw [dotStep_end _ _ _ (Or.inl rfl)]; exact h.app (by decide) (by decide) (by simp) fun _ => hf rfl
      | false => rw [dotStep_gap]; exact h
    · by_cases h4 : s = [46, 46]
      · subst h4; rw [dotStep_up, if_neg (by decide)]; exact h.up
      · rw [dotStep_else _ _ _ _ h1 h2 h4]; exact h.app h1 h4 h3 fun e => absurd e h2

theorem Mid.lastStep {o : List Bs} {s : Bs} (f : Bool) (h : Mid o) (h3 : (47 : UInt8) ∉ s) : Clean (dotStep f true o s) ∧ dotStep f true o s ≠ [] := by
  by_cases h1 : s = [46]
  · subst h1; rw [dotStep_dot, if_pos rfl]; exact ⟨h.last (by decide) (by decide) (by simp), by simp⟩
  · by_cases h2 : s = []
    · subst h2; rw [dotStep_end _ _ _ (Or.inr rfl)]; exact ⟨h.last (by decide) (by decide) (by simp), by simp⟩
    · by_cases h4 : s = [46, 46]
      · subst h4; rw [dotStep_up, if_pos rfl]; exact ⟨h.up.last (by decide) (by decide) (by simp), by simp⟩
      · rw [dotStep_else _ _ _ _ h1 h2 h4]; exact ⟨h.last h1 h4 h3, by simp⟩

theorem dots_mid {l : List Bs} (hl : ∀ s ∈ l, (47 : UInt8) ∉ s) (k : Nat) (hk : k < l.length) : Mid (dotsUpto l k) := by
  induction k with
  | zero => intro i hi; simp [dotsUpto] at hi
  | succ k ih =>
    rw [dotsUpto_succ (by omega)]
    have e : (k + 1 == l.length) = false := by rw [beq_eq_false_iff_ne]; omega
    rw [e]
    exact (ih (by omega)).step _ (hl _ (List.getElem_mem _)) fun hf => by
      have : k = 0 := by simpa using hf
      subst this; rfl

theorem dots_clean {l : List Bs} (hl : ∀ s ∈ l, (47 : UInt8) ∉ s) (hne : l ≠ []) : Clean (dotsL l) ∧ dotsL l ≠ [] := by
  have hp : 0 < l.length := List.length_pos_iff.2 hne
  have e : l.length = (l.length - 1) + 1 := by omega
  unfold dotsL
  rw [e, dotsUpto_succ (by omega)]
  have e2 : (l.length - 1 + 1 == l.length) = true := by rw [beq_iff_eq]; omega
  rw [e2]
  exact (dots_mid hl _ (by omega)).lastStep _ (hl _ (List.getElem_mem _))

/-- Clean parts stay as they are. -/
theorem clean_upto {l : List Bs} (h : Clean l) (k : Nat) (hk : k ≤ l.length) : dotsUpto l k = l.take k := by
  induction k with
  | zero => simp [dotsUpto]
  | succ k ih =>
    obtain ⟨h1, h2, _, h4⟩ := h k (by omega)
    rw [dotsUpto_succ (by omega), ih (by omega), List.take_succ_eq_append_getElem (by omega)]
    by_cases he : l[k] = []
    · rw [he]
      apply dotStep_end
      rcases h4 he with e | e
      · left; simp [e]
      · right; simpa using e
    · exact dotStep_else _ _ _ _ h1 he h2

theorem clean_dots {l : List Bs} (h : Clean l) : dotsL l = l := by
  unfold dotsL
  rw [clean_upto h _ (Nat.le_refl _), List.take_length]

theorem splitC_mem {c : UInt8} {l : Bs} : ∀ s ∈ splitC c l, c ∉ s ∧ ∀ x ∈ s, x ∈ l := by
  induction l with
  | nil => intro s hs; simp [splitC] at hs; subst hs; simp
  | cons y l ih =>
    intro s hs
    unfold splitC at hs
    by_cases h : y = c
    · rw [if_pos h] at hs
      rcases List.mem_cons.1 hs with rfl | hs
      · simp
      · exact ⟨(ih s hs).1, fun x hx => List.mem_cons_of_mem _ ((ih s hs).2 x hx)⟩
    · rw [if_neg h] at hs
      split at hs
      · rename_i e; exact absurd e (splitC_ne c l)
      · rename_i hd t e
        rcases List.mem_cons.1 hs with rfl | hs
        · have := ih hd (by rw [e]; exact List.mem_cons_self)
          refine ⟨fun hm => ?_, fun x hx => ?_⟩
          · rcases List.mem_cons.1 hm with e' | hm
            · exact h e'.symm
            · exact this.1 hm
          · rcases List.mem_cons.1 hx with rfl | hx
            · exact List.mem_cons_self
            · exact List.mem_cons_of_mem _ (this.2 x hx)
        · have := ih s (by rw [e]; exact List.mem_cons_of_mem _ hs)
          exact ⟨this.1, fun x hx => List.mem_cons_of_mem _ (this.2 x hx)⟩

theorem join_cons2 (x y : Bs) (r : List Bs) (p : Bs) : Lib.join (x :: y :: r) p = x ++ (p ++ Lib.join (y :: r) p) := by
  rw [Lib.join_cons, Lib.join_cons]; simp [Lib.joinTail]

theorem split_join {l : List Bs} (h : ∀ s ∈ l, (47 : UInt8) ∉ s) (hne : l ≠ []) : splitC 47 (Lib.join l [47]) = l := by
  induction l with
  | nil => exact absurd rfl hne
  | cons x l ih =>
    cases l with
    | nil => rw [Lib.join_one]; exact splitC_none (h x List.mem_cons_self)
    | cons y r =>
      rw [join_cons2]
      show splitC 47 (x ++ 47 :: Lib.join (y :: r) [47]) = _
      rw [splitC_app (h x List.mem_cons_self), ih (fun s hs => h s (List.mem_cons_of_mem _ hs)) (by simp)]

theorem Clean.no {l : List Bs} (h : Clean l) : ∀ s ∈ l, (47 : UInt8) ∉ s := by
  intro s hs
  obtain ⟨i, hi, rfl⟩ := List.getElem_of_mem hs
  exact (h i hi).2.2.1

theorem split_dots (p : Bs) : splitC 47 (dotsA p) = dotsL (splitC 47 p) ∧ Clean (dotsL (splitC 47 p)) := by
  obtain ⟨hc, hne⟩ := dots_clean (l := splitC 47 p) (fun s hs => (splitC_mem s hs).1) (splitC_ne _ _)
  exact ⟨split_join hc.no hne, hc⟩

theorem dots_twice (p : Bs) : dotsA (dotsA p) = dotsA p := by
  obtain ⟨h1, h2⟩ := split_dots p
  show Lib.join (dotsL (splitC 47 (dotsA p))) [47] = dotsA p
  rw [h1, clean_dots h2]; rfl

theorem dots_no2 (p : Bs) : ¬ ∃ l, dotsA p = 47 :: 47 :: l := by
  rintro ⟨l, hl⟩
  obtain ⟨h1, h2⟩ := split_dots p
  rw [hl] at h1
  simp only [splitC, if_true] at h1
  have hlen : (dotsL (splitC 47 p)).length = (splitC 47 l).length + 2 := by rw [← h1]; simp
  have hp : 0 < (splitC 47 l).length := List.length_pos_iff.2 (splitC_ne _ _)
  have h3 := (h2 1 (by omega)).2.2.2 (by simp [← h1])
  omega

/-- What stands first and empty stays. -/
theorem dots_first {l : List Bs} (h : ∀ t, l = [] :: t → t ≠ [] → True) (h0 : l[0]? = some []) : ∀ k, 1 ≤ k → k ≤ l.length → (dotsUpto l k)[0]? = some []
  | 0, h1, _ => by omega
  | 1, _, hk => by
    have e : l[0]'(by omega) = [] := by
      have := List.getElem?_eq_getElem (l := l) (i := 0) (by omega)
      rw [h0] at this; injection this with this; exact this.symm
    rw [dotsUpto_succ (by omega), e]
    show (dotStep true _ _ [])[0]? = _
    rw [dotStep_end _ _ _ (Or.inl rfl)]
    rfl
  | k + 2, _, hk => by
    have ih := dots_first h h0 (k + 1) (by omega) (by omega)
    rw [dotsUpto_succ (by omega)]
    generalize dotsUpto l (k + 1) = o at ih
    have keep : ∀ (y : Bs), (o ++ [y])[0]? = some [] := fun y => by
      cases o with
      | nil => cases ih
      | cons a b => exact ih
    have hup : (upOf o)[0]? = some [] := by
      unfold upOf
      split
      · rename_i hc
        cases o with
        | nil => cases ih
        | cons a b =>
          have ha : a = [] := by simpa using ih
          subst ha
          rcases hc with hc | ⟨hc, hc2⟩
          · cases b with
            | nil => simp at hc
            | cons c d => rfl
          · cases b with
            | nil => exact absurd rfl hc2
            | cons c d => simp at hc
      · exact ih
    generalize l[k + 1]'(by omega) = s
    generalize (k + 1 == 0) = f
    generalize (k + 1 + 1 == l.length) = la
    by_cases h1 : s = [46]
    · subst h1; rw [dotStep_dot]; split; · exact keep _
      · exact ih
    · by_cases h2 : s = []
      · subst h2
        cases f <;> cases la
        · rw [dotStep_gap]; exact ih
        · rw [dotStep_end _ _ _ (Or.inr rfl)]; exact keep _
        · rw [dotStep_end _ _ _ (Or.inl rfl)]; exact keep _
        · rw [dotStep_end _ _ _ (Or.inl rfl)]; exact keep _
      · by_cases h4 : s = [46, 46]
        · subst h4; rw [dotStep_up]
          have hup2 : ∀ (y : Bs), (upOf o ++ [y])[0]? = some [] := fun y => by
            generalize upOf o = o2 at hup
            cases o2 with
            | nil => cases hup
            | cons a b => exact hup
          split
          · exact hup2 _
          · exact hup
        · rw [dotStep_else _ _ _ _ h1 h2 h4]; exact keep _

/-- A path that begins with a slash still does. -/
theorem dots_slash (l : Bs) : ∃ m, dotsA (47 :: l) = 47 :: m := by
  have hs : splitC 47 (47 :: l) = [] :: splitC 47 l := by simp [splitC]
  have hne := splitC_ne 47 l
  have hp : 0 < (splitC 47 l).length := List.length_pos_iff.2 hne
  have hlen : (splitC 47 (47 :: l)).length = (splitC 47 l).length + 1 := by rw [hs]; simp
  have h0 : (splitC 47 (47 :: l))[0]? = some [] := by rw [hs]; rfl
  have hk := dots_first (l := splitC 47 (47 :: l)) (fun _ _ _ => trivial) h0 ((splitC 47 (47 :: l)).length - 1) (by omega) (by omega)
  have e : (splitC 47 (47 :: l)).length = ((splitC 47 (47 :: l)).length - 1) + 1 := by omega
  have hlast : ∃ o y, dotsL (splitC 47 (47 :: l)) = [] :: (o ++ [y]) := by
    unfold dotsL
    rw [e, dotsUpto_succ (by omega)]
    have e2 : ((splitC 47 (47 :: l)).length - 1 + 1 == (splitC 47 (47 :: l)).length) = true := by rw [beq_iff_eq]; omega
    rw [e2]
    generalize dotsUpto (splitC 47 (47 :: l)) ((splitC 47 (47 :: l)).length - 1) = o at hk
    generalize (splitC 47 (47 :: l))[(splitC 47 (47 :: l)).length - 1]'(by omega) = s
    generalize ((splitC 47 (47 :: l)).length - 1 == 0) = f
    have keep : ∀ (o : List Bs) (y : Bs), o[0]? = some [] → ∃ o' y', o ++ [y] = [] :: (o' ++ [y']) := fun o y h => by
      cases o with
      | nil => cases h
      | cons a b => have : a = [] := by simpa using h
                    subst this; exact ⟨b, y, rfl⟩
    have hup : (upOf o)[0]? = some [] := by
      unfold upOf
      split
      · rename_i hc
        cases o with
        | nil => cases hk
        | cons a b =>
          have ha : a = [] := by simpa using hk
          subst ha
          rcases hc with hc | ⟨hc, hc2⟩
          · cases b with
            | nil => simp at hc
            | cons c d => rfl
          · cases b with
            | nil => exact absurd rfl hc2
            | cons c d => simp at hc
      · exact hk
    by_cases h1 : s = [46]
    · subst h1; rw [dotStep_dot, if_pos rfl]; exact keep _ _ hk
    · by_cases h2 : s = []
      · subst h2; rw [dotStep_end _ _ _ (Or.inr rfl)]; exact keep _ _ hk
      · by_cases h4 : s = [46, 46]
        · subst h4; rw [dotStep_up, if_pos rfl]; exact keep _ _ hup
        · rw [dotStep_else _ _ _ _ h1 h2 h4]; exact keep _ _ hk
  obtain ⟨o, y, hd⟩ := hlast
  unfold dotsA
  rw [hd]
  cases o with
  | nil => exact ⟨_, by rw [List.nil_append, join_cons2]; rfl⟩
  | cons a b => exact ⟨_, by rw [List.cons_append, join_cons2]; rfl⟩

theorem dotsA_nil : dotsA [] = [] := by decide

/-- Every byte of it was there, or is a slash. -/
theorem dots_mem (p : Bs) : ∀ x ∈ dotsA p, x = 47 ∨ x ∈ p := by
  have hU : ∀ k, k ≤ (splitC 47 p).length → ∀ s ∈ dotsUpto (splitC 47 p) k, ∀ x ∈ s, x ∈ p := by
    intro k
    induction k with
    | zero => intro _ s hs; cases hs
    | succ k ih =>
      intro hk s hs x hx
      rw [dotsUpto_succ (by omega)] at hs
      have ih := ih (by omega)
      have hl : ∀ x ∈ (splitC 47 p)[k]'(by omega), x ∈ p := (splitC_mem _ (List.getElem_mem (by omega))).2
      generalize (splitC 47 p)[k]'(by omega) = t at hs hl
      generalize dotsUpto (splitC 47 p) k = o at ih hs
      have hmem : s ∈ o ∨ s = [] ∨ s = t := by
        unfold dotStep at hs
        have hd : ∀ z ∈ o.dropLast, z ∈ o := fun z hz => List.dropLast_subset _ hz
        repeat' split at hs
        all_goals
          first
            | exact Or.inl hs
            | exact Or.inl (hd _ hs)
            | (rw [List.mem_append] at hs
               rcases hs with hs | hs
               · first | exact Or.inl hs | exact Or.inl (hd _ hs)
               · have := List.mem_singleton.1 hs; first | exact Or.inr (Or.inl this) | exact Or.inr (Or.inr this))
      rcases hmem with h | h | h
      · exact ih s h x hx
      · rw [h] at hx; cases hx
      · rw [h] at hx; exact hl x hx
  have hJ : ∀ (l : List Bs) x, x ∈ Lib.join l [47] → x = 47 ∨ ∃ s ∈ l, x ∈ s := by
    intro l
    induction l with
    | nil => intro x hx; cases hx
    | cons a l ih =>
      intro x hx
      cases l with
      | nil => rw [Lib.join_one] at hx; exact Or.inr ⟨a, List.mem_cons_self, hx⟩
      | cons b r =>
        rw [join_cons2, List.mem_append, List.mem_append] at hx
        rcases hx with hx | hx | hx
        · exact Or.inr ⟨a, List.mem_cons_self, hx⟩
        · left; simpa using hx
        · rcases ih x hx with h | ⟨s, hs, hx⟩
          · exact Or.inl h
          · exact Or.inr ⟨s, List.mem_cons_of_mem _ hs, hx⟩
  intro x hx
  rcases hJ _ x hx with h | ⟨s, hs, hx⟩
  · exact Or.inl h
  · exact Or.inr (hU _ (Nat.le_refl _) s hs x hx)

/-! ### Where it leads is a place -/

theorem dirOf_mem (p : Bs) : ∀ x ∈ dirOf p, x ∈ p := fun _ hx => List.mem_of_mem_take hx

theorem lastIdx_first (s : ByteArray) (c : Int) (h : ((s.data[0]!).toNat : Int) = c) : ∀ k : Nat, 1 ≤ k → 0 ≤ Lib.lastIdx s c k
  | 0, h1 => by omega
  | k + 1, _ => by
    unfold Lib.lastIdx
    split
    · omega
    · rename_i hn
      cases k with
      | zero => exact absurd h hn
      | succ k => exact lastIdx_first s c h (k + 1) (by omega)

theorem dirOf_slash (l : Bs) : ∃ m, dirOf (47 :: l) = 47 :: m := by
  have h := lastIdx_first ⟨(47 :: l).toArray⟩ 47 rfl (47 :: l).length (by simp)
  unfold dirOf
  have e : (Lib.lastIndexByte ⟨(47 :: l).toArray⟩ 47 + 1).toNat = (Lib.lastIndexByte ⟨(47 :: l).toArray⟩ 47).toNat + 1 := by
    have : 0 ≤ Lib.lastIndexByte ⟨(47 :: l).toArray⟩ 47 := h
    omega
  rw [e]
  exact ⟨_, rfl⟩

theorem dots_okP {p : Bs} (h : ∀ x ∈ p, okB x = true ∧ x ≠ 63 ∧ x ≠ 35) : ∀ x ∈ dotsA p, okB x = true ∧ x ≠ 63 ∧ x ≠ 35 := by
  intro x hx
  rcases dots_mem p x hx with rfl | hx
  · decide
  · exact h x hx

theorem dots_pathU {p : Bs} (h : p = [] ∨ ∃ l, p = 47 :: l) : dotsA p = [] ∨ ∃ l, dotsA p = 47 :: l := by
  rcases h with rfl | ⟨l, rfl⟩
  · exact Or.inl dotsA_nil
  · exact Or.inr (dots_slash l)

/-- The same address with the dots of its path gone. -/
theorem WF.dots {a : Addr} (h : WF a) : WF { a with path := dotsA a.path } :=
  { h with okP := dots_okP h.okP, pathU := fun e => dots_pathU (h.pathU e), pathN := fun _ => dots_no2 _ }

theorem resolve_WF {x y : Addr} (hx : WF x) (hy : WF y) (hs : x.scheme ≠ []) : WF (resolveA x y) ∧ (resolveA x y).scheme ≠ [] := by
  unfold resolveA
  split
  · rename_i h; exact ⟨hy.dots, h⟩
  · split
    · exact ⟨{ hy.dots with sch := hx.sch, okS := hx.okS }, hs⟩
    · rename_i h2
      split
      · rename_i hp
        refine ⟨{ sch := hx.sch, okS := hx.okS, okU := hx.okU, okP := hx.okP, okQ := ?_, okF := hy.okF, noU := hx.noU, noQ := ?_, noF := hy.noF, pathU := hx.pathU, pathN := hx.pathN }, hs⟩
        · cases hq : y.hasQuery with
          | true => intro z hz; simp at hz; exact hy.okQ z hz
          | false => intro z hz; simp at hz; exact hx.okQ z hz
        · cases hq : y.hasQuery with
          | true => intro h; simp at h
          | false => intro h; simp at h ⊢; exact hx.noQ h
      · rename_i c l hp
        split
        · rename_i hc
          subst hc
          refine ⟨{ sch := hx.sch, okS := hx.okS, okU := hx.okU, okP := ?_, okQ := hy.okQ, okF := hy.okF, noU := hx.noU, noQ := hy.noQ, noF := hy.noF, pathU := fun _ => Or.inr (dots_slash l), pathN := fun _ => dots_no2 _ }, hs⟩
          exact dots_okP fun z hz => hy.okP z (by rw [hp]; exact hz)
        · rename_i hc
          refine ⟨{ sch := hx.sch, okS := hx.okS, okU := hx.okU, okP := ?_, okQ := hy.okQ, okF := hy.okF, noU := hx.noU, noQ := hy.noQ, noF := hy.noF, pathU := ?_, pathN := fun _ => dots_no2 _ }, hs⟩
          · apply dots_okP
            intro z hz
            rcases List.mem_append.1 hz with hz | hz
            · unfold ahead at hz
              split at hz
              · have := List.mem_singleton.1 hz; subst this; decide
              · exact hx.okP z (dirOf_mem _ z hz)
            · exact hy.okP z (by rw [hp]; exact hz)
          · intro hU
            apply dots_pathU
            right
            unfold ahead
            split
            · exact ⟨_, rfl⟩
            · rename_i hn
              rcases hx.pathU hU with he | ⟨m, he⟩
              · exact absurd (by show (x.hasAuth && x.path.isEmpty) = true; rw [show x.hasAuth = true from hU, he]; rfl) hn
              · obtain ⟨m', hm⟩ := dirOf_slash m
                rw [he, hm]
                exact ⟨_, rfl⟩

/-- Does y say a path, a scheme or an authority? -/
def saysP (y : Addr) : Bool := !y.path.isEmpty || !y.scheme.isEmpty || y.hasAuth

theorem resolve_path {x y : Addr} (h : saysP y = true) : ∃ p, (resolveA x y).path = dotsA p := by
  unfold resolveA
  split
  · exact ⟨_, rfl⟩
  · rename_i h1
    split
    · exact ⟨_, rfl⟩
    · rename_i h2
      split
      · rename_i hp
        unfold saysP at h
        have h1' : y.scheme = [] := Classical.not_not.1 h1
        rw [hp, h1'] at h
        simp at h
        exact absurd h h2
      · split
        · exact ⟨_, rfl⟩
        · exact ⟨_, rfl⟩

theorem resolve_again {x y z : Addr} (h : saysP y = true) (hs : (resolveA x y).scheme ≠ []) : resolveA z (resolveA x y) = resolveA x y := by
  obtain ⟨p, hp⟩ := resolve_path (x := x) h
  generalize resolveA x y = r at hp hs
  unfold resolveA
  rw [if_pos hs, hp, dots_twice, ← hp]

theorem resolve_clean {x y : Addr} (h : saysP y = true) : Clean (splitC 47 (resolveA x y).path) := by
  obtain ⟨p, hp⟩ := resolve_path (x := x) h
  rw [hp, (split_dots p).1]
  exact (split_dots p).2

/-! ### Whole -/

theorem lowC_twice (c : UInt8) : lowC (lowC c) = lowC c := by
  unfold lowC
  by_cases h : 65 ≤ c ∧ c ≤ 90
  · rw [if_pos h, if_neg]
    rintro ⟨_, h2⟩
    have h3 := UInt8.le_iff_toNat_le.1 h.1
    have h4 := UInt8.le_iff_toNat_le.1 h.2
    have h5 := UInt8.le_iff_toNat_le.1 h2
    rw [UInt8.toNat_add] at h5
    simp at h3 h4 h5
    omega
  · rw [if_neg h, if_neg h]
theorem lowS_twice (l : Bs) : lowS (lowS l) = lowS l := by
  unfold lowS
  rw [List.map_map]
  exact List.map_congr_left fun x _ => lowC_twice x
theorem whole_twice (a : Addr) : wholeA (wholeA a) = wholeA a := by
  unfold wholeA
  simp only [lowS_twice]

theorem allC (P : UInt8 → Bool) (h : (List.range 256).all (fun n => P (UInt8.ofNat n)) = true) (c : UInt8) : P c = true := by
  have := List.all_eq_true.1 h c.toNat (by rw [List.mem_range]; exact c.toNat_lt)
  simpa using this
theorem lowC_okU (c : UInt8) (h : okB c = true ∧ c ≠ 47 ∧ c ≠ 63 ∧ c ≠ 35) : okB (lowC c) = true ∧ lowC c ≠ 47 ∧ lowC c ≠ 63 ∧ lowC c ≠ 35 := by
  have := allC (fun c => !(okB c && c != 47 && c != 63 && c != 35) || (okB (lowC c) && lowC c != 47 && lowC c != 63 && lowC c != 35)) (by decide +kernel) c
  simpa [h.1, h.2.1, h.2.2.1, h.2.2.2, and_assoc] using this
theorem lowC_okB (c : UInt8) (h : okB c = true) : okB (lowC c) = true := by
  have := allC (fun c => !(okB c) || okB (lowC c)) (by decide +kernel) c
  simpa [h] using this
theorem lowC_scheme (c : UInt8) (h : schemeL.contains c = true) : schemeL.contains (lowC c) = true := by
  have := allC (fun c => !(schemeL.contains c) || schemeL.contains (lowC c)) (by decide +kernel) c
  rw [h] at this; simpa using this
theorem lowC_alpha (c : UInt8) (h : alphaL.contains c = true) : alphaL.contains (lowC c) = true := by
  have := allC (fun c => !(alphaL.contains c) || alphaL.contains (lowC c)) (by decide +kernel) c
  rw [h] at this; simpa using this

theorem lowS_scheme {l : Bs} (h : schemeB l = true) : schemeB (lowS l) = true := by
  cases l with
  | nil => cases h
  | cons c l =>
    have e : lowS (c :: l) = lowC c :: lowS l := rfl
    rw [e]
    unfold schemeB at h ⊢
    rw [Bool.and_eq_true] at h ⊢
    refine ⟨lowC_alpha c h.1, ?_⟩
    rw [List.all_eq_true] at h ⊢
    intro x hx
    rw [← e] at hx
    obtain ⟨y, hy, rfl⟩ := List.mem_map.1 hx
    exact lowC_scheme y (h.2 y hy)

theorem whole_WF {a : Addr} (h : WF a) (hs : a.scheme ≠ []) : WF (wholeA a) ∧ (wholeA a).scheme ≠ [] := by
  refine ⟨{ sch := Or.inr (lowS_scheme (h.sch.resolve_left hs)), okS := ?_, okU := ?_, okP := h.okP, okQ := h.okQ, okF := (fun _ hx => by cases hx), noU := ?_, noQ := h.noQ, noF := fun _ => rfl, pathU := h.pathU, pathN := h.pathN }, ?_⟩
  · intro x hx
    obtain ⟨y, hy, rfl⟩ := List.mem_map.1 hx
    exact lowC_okB y (h.okS y hy)
  · intro x hx
    obtain ⟨y, hy, rfl⟩ := List.mem_map.1 hx
    exact lowC_okU y (h.okU y hy)
  · intro e
    show lowS a.auth = []
    rw [h.noU e]; rfl
  · show lowS a.scheme ≠ []
    unfold lowS
    simpa using hs

/-! ### The law -/

theorem right_of {a : Addr} (h : WF a) (hs : a.scheme ≠ []) : rightA a = true := by
  unfold rightA
  rw [read_write h hs]; simp
theorem right_read {s : Bs} {x : Addr} (h : readA s = some x) : rightA x = true := by
  unfold rightA
  rw [(read_WF h).2, h]; simp

end Go.Proofs.YtignjjnflcpiiaaDoor
