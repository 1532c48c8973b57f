/- A value with parameters, written, is read as itself; what is read may be written: readK and writeK. No program, no condition; The pieces between boundary lines come back: cutB and piecesT; the number that is chosen stands in none of the texts. No program, no condition; What base64 packs comes back w. -/
import Derived.Test.YtignjjnflcpiiaaGreatDoorR10
namespace Go.Proofs.YtignjjnflcpiiaaGreatDoor
open Go
theorem badR_no {c : UInt8} (h : badR c.toNat = false) : c ≠ 59 ∧ c ≠ 61 ∧ c ≠ 47 ∧ c ≠ 34 ∧ c ≠ 32 ∧ c ≠ 9 ∧ c ≠ 92 ∧ okQ c = true ∧ saysC c = true := by
  refine ⟨?_, ?_, ?_, ?_, ?_, ?_, ?_, ?_⟩
  iterate 7 (intro e; subst e; revert h; decide)
  have key : ((List.range 256).all fun n => badR n.toUInt8.toNat || (okQ n.toUInt8 && saysC n.toUInt8)) = true := by kernel_rfl
  have := List.all_eq_true.1 key c.toNat (List.mem_range.2 c.toNat_lt)
  rw [show c.toNat.toUInt8 = c by simp, h] at this
  simpa using this
theorem badR_low (c : UInt8) : badR (lowC c).toNat = badR c.toNat := by
  have key : ((List.range 256).all fun n => badR (lowC n.toUInt8).toNat == badR n.toUInt8.toNat) = true := by kernel_rfl
  have := List.all_eq_true.1 key c.toNat (List.mem_range.2 c.toNat_lt)
  rw [show c.toNat.toUInt8 = c by simp] at this
  simpa using this
theorem lowC_low (c : UInt8) : lowC (lowC c) = lowC c := by
  have key : ((List.range 256).all fun n => lowC (lowC n.toUInt8) == lowC n.toUInt8) = true := by kernel_rfl
  have := List.all_eq_true.1 key c.toNat (List.mem_range.2 c.toNat_lt)
  rw [show c.toNat.toUInt8 = c by simp] at this
  simpa using this
theorem lowS_low (s : Bs) : lowS (lowS s) = lowS s := by simp [lowS, lowC_low, Function.comp_def]
theorem tokB_low (s : Bs) : tokB (lowS s) = tokB s := by
  unfold tokB lowS
  rw [List.any_map]
  congr 2
  · simp
  · congr 1; funext c; exact badR_low c
theorem tokB_mem {s : Bs} (h : tokB s = true) : s ≠ [] ∧ ∀ c ∈ s, badR c.toNat = false := by
  unfold tokB at h
  simp at h
  exact ⟨h.1, h.2⟩
theorem cutC_of {c : UInt8} {a : Bs} (b : Bs) (h : c ∉ a) : Lib.cut (a ++ c :: b) [c] = (a, b, true) := by
  rw [cut_cutP, cutC_mk h]
theorem cutC_not {c : UInt8} {a : Bs} (h : c ∉ a) : Lib.cut a [c] = (a, [], false) := by
  rw [cut_cutP, cutC_none.2 h]
theorem trimL_keep {x cs : Bs} (h : ∀ c, x.head? = some c → cs.contains c = false) : Lib.trimLeftS x cs = x := by
  unfold Lib.trimLeftS
  cases x with
  | nil => rfl
  | cons c l => rw [List.dropWhile_cons_of_neg (by rw [h c rfl]; decide)]
theorem trimR_keep {x cs : Bs} (h : ∀ c, x.getLast? = some c → cs.contains c = false) : Lib.trimRightS x cs = x := by
  unfold Lib.trimRightS
  cases hx : x.reverse with
  | nil => simpa using hx.symm
  | cons c l =>
    have : x.getLast? = some c := by
      rw [← List.head?_reverse, hx]; rfl
    rw [List.dropWhile_cons_of_neg (by rw [h c this]; decide), ← hx, List.reverse_reverse]
theorem trimS_keep {x cs : Bs} (h : ∀ c ∈ x, cs.contains c = false) : Lib.trimS x cs = x := by
  unfold Lib.trimS
  rw [trimR_keep (fun c hc => h c (List.mem_of_getLast? hc)), trimL_keep (fun c hc => h c (List.mem_of_head? hc))]
theorem saidQ_back : ∀ (v r : Bs), (∀ c ∈ v, okQ c = true) → saidQ (v.flatMap escV ++ 34 :: r) = some (v, r)
  | [], r, _ => by
    cases r <;> simp [saidQ]
  | c :: v, r, h => by
    have hc := h c (List.mem_cons_self ..)
    have ih := saidQ_back v r (fun d hd => h d (List.mem_cons_of_mem _ hd))
    rw [List.flatMap_cons, List.append_assoc]
    have hne : v.flatMap escV ++ 34 :: r ≠ [] := by simp
    generalize v.flatMap escV ++ 34 :: r = Y at ih hne ⊢
    unfold escV
    split
    · rename_i e; subst e
      show saidQ (92 :: 92 :: Y) = _
      unfold saidQ
      rw [if_neg (by decide), if_pos rfl, if_pos (by decide), ih]; rfl
    · split
      · rename_i e; subst e
        show saidQ (92 :: 34 :: Y) = _
        unfold saidQ
        rw [if_neg (by decide), if_pos rfl, if_pos (by decide), ih]; rfl
      · rename_i h1 h2
        cases Y with
        | nil => exact absurd rfl hne
        | cons d l =>
          show saidQ (c :: d :: l) = _
          unfold saidQ
          rw [if_neg h2, if_neg h1, if_pos hc, ih]; rfl
def ParOk (p : Fld) : Prop := tokB p.1 = true ∧ lowS p.1 = p.1 ∧ ∀ c ∈ p.2, okQ c = true
def EndP (t : Bs) : Prop := t = [] ∨ ∃ r, t = 59 :: r
theorem EndP.trim {t : Bs} (h : EndP t) : Lib.trimLeftS t [32, 9] = t := by
  rcases h with rfl | ⟨r, rfl⟩
  · rfl
  · exact trimL_keep (fun c hc => by simp at hc; subst hc; decide)
theorem tw_app {p : UInt8 → Bool} : ∀ {v : Bs} (t : Bs), (∀ c ∈ v, p c = true) → (∀ c, t.head? = some c → p c = false) → (v ++ t).takeWhile p = v ∧ (v ++ t).dropWhile p = t
  | [], t, _, h => by
    cases t with
    | nil => simp
    | cons c t => have := h c rfl; simp [this]
  | c :: v, t, h1, h2 => by
    have ih := tw_app (v := v) t (fun d hd => h1 d (List.mem_cons_of_mem _ hd)) h2
    have hc := h1 c (List.mem_cons_self ..)
    simp [hc, ih]
theorem saidT_back {v t : Bs} (hv : ∀ c ∈ v, okQ c = true) (ht : EndP t) : saidT (quoV v ++ t) = (v, t, true) := by
  unfold quoV
  by_cases hk : tokB v = true
  · obtain ⟨h1, h2⟩ := tokB_mem hk
    rw [if_pos hk]
    have h34 : Lib.hasPrefix (v ++ t) [34] = false := by
      cases v with
      | nil => exact absurd rfl h1
      | cons c v =>
        have := (badR_no (h2 c (List.mem_cons_self ..))).2.2.2.1
        simp [Lib.hasPrefix, List.isPrefixOf, Ne.symm this]
    obtain ⟨e1, e2⟩ := tw_app (p := fun c => !endK c) (v := v) t (fun c hc => by
      have := badR_no (h2 c hc)
      simp [endK, this.1, this.2.2.2.2.1, this.2.2.2.2.2.1]) (fun c hc => by
      rcases ht with rfl | ⟨r, rfl⟩
      · cases hc
      · simp at hc; subst hc; decide)
    unfold saidT
    rw [h34, if_neg (by decide), e1, e2, hk]
  · rw [if_neg hk]
    unfold saidT
    have h34 : Lib.hasPrefix (34 :: (v.flatMap escV ++ [34]) ++ t) [34] = true := by simp [Lib.hasPrefix, List.isPrefixOf]
    rw [h34, if_pos rfl]
    have : (34 :: (v.flatMap escV ++ [34]) ++ t).drop 1 = v.flatMap escV ++ 34 :: t := by simp
    rw [this, saidQ_back v t hv]
theorem param_back {p : Fld} {t : Bs} (h : ParOk p) (ht : EndP t) : paramOf (32 :: (p.1 ++ 61 :: quoV p.2) ++ t) = some (p, t) := by
  obtain ⟨h1, h2, h3⟩ := h
  obtain ⟨n1, n2⟩ := tokB_mem h1
  unfold paramOf
  have e1 : Lib.trimLeftS (32 :: (p.1 ++ 61 :: quoV p.2) ++ t) [32, 9] = p.1 ++ 61 :: (quoV p.2 ++ t) := by
    have : (32 :: (p.1 ++ 61 :: quoV p.2) ++ t) = 32 :: (p.1 ++ 61 :: (quoV p.2 ++ t)) := by simp
    rw [this]
    show ((32 : UInt8) :: _).dropWhile _ = _
    rw [List.dropWhile_cons_of_pos (by decide)]
    exact trimL_keep (fun c hc => by
      cases hh : p.1 with
      | nil => exact absurd hh n1
      | cons d l =>
        rw [hh] at hc
        simp at hc
        subst hc
        have := badR_no (n2 d (by rw [hh]; exact List.mem_cons_self ..))
        simp [this.2.2.2.2.1, this.2.2.2.2.2.1])
  have h61 : (61 : UInt8) ∉ p.1 := fun h => (badR_no (n2 _ h)).2.1 rfl
  have e2 : Lib.trimRightS p.1 [32, 9] = p.1 := trimR_keep (fun c hc => by
    have := badR_no (n2 c (List.mem_of_getLast? hc))
    simp [this.2.2.2.2.1, this.2.2.2.2.2.1])
  have e3 : Lib.trimLeftS (quoV p.2 ++ t) [32, 9] = quoV p.2 ++ t := trimL_keep (fun c hc => by
    unfold quoV at hc
    split at hc
    · rename_i hk
      obtain ⟨m1, m2⟩ := tokB_mem hk
      cases hh : p.2 with
      | nil => exact absurd hh m1
      | cons d l =>
        rw [hh] at hc
        simp at hc
        subst hc
        have := badR_no (m2 d (by rw [hh]; exact List.mem_cons_self ..))
        simp [this.2.2.2.2.1, this.2.2.2.2.2.1]
    · simp at hc; subst hc; decide)
  simp only [e1, cutC_of _ h61, e2, e3, saidT_back h3 ht, h1, h2, ht.trim]
  simp
theorem paramsW_some {l : List Fld} (h : ∀ p ∈ l, ParOk p) : ∃ t, paramsW l = some t ∧ EndP t ∧ (l = [] ↔ t = []) := by
  induction l with
  | nil => exact ⟨[], rfl, Or.inl rfl, by simp⟩
  | cons p l ih =>
    obtain ⟨t, ht, _, _⟩ := ih (fun q hq => h q (List.mem_cons_of_mem _ hq))
    obtain ⟨h1, h2, h3⟩ := h p (List.mem_cons_self ..)
    have hw : paramW p = some (59 :: 32 :: (p.1 ++ 61 :: quoV p.2)) := by
      unfold paramW
      rw [if_pos]
      simp only [h1, h2, beq_self_eq_true, Bool.and_true, Bool.true_and, Bool.not_eq_true', List.any_eq_false]
      intro c hc
      simp [h3 c hc]
    refine ⟨_, by unfold paramsW; rw [hw, ht]; rfl, Or.inr ⟨_, rfl⟩, by simp⟩
theorem params_back : ∀ (l : List Fld) (t : Bs) (k : Nat), (∀ p ∈ l, ParOk p) → paramsW l = some (59 :: t) → t.length < k → paramsF k t = some l
  | [], t, _, _, h, _ => by simp [paramsW] at h
  | p :: l, t, 0, _, _, h => absurd h (Nat.not_lt_zero _)
  | p :: l, t, k + 1, hok, h, hk => by
    have hp := hok p (List.mem_cons_self ..)
    obtain ⟨t', ht', he, hnil⟩ := paramsW_some (l := l) (fun q hq => hok q (List.mem_cons_of_mem _ hq))
    unfold paramsW at h
    have hw : paramW p = some (59 :: 32 :: (p.1 ++ 61 :: quoV p.2)) := by
      cases hh : paramW p with
      | none => rw [hh] at h; cases h
      | some x =>
        unfold paramW at hh
        split at hh
        · exact hh.symm
        · cases hh
    rw [hw, ht'] at h
    have e : t = 32 :: (p.1 ++ 61 :: quoV p.2) ++ t' := by
      simpa using h.symm
    unfold paramsF
    rw [e, param_back hp he]
    simp only
    rcases he with rfl | ⟨r, rfl⟩
    · rw [hnil.2 rfl]
    · simp only
      rw [if_pos trivial, params_back l r k (fun q hq => hok q (List.mem_cons_of_mem _ hq)) ht' (by rw [e] at hk; simp at hk; omega)]
      rfl
def MainOk (m : Bs) : Prop := tokB (Lib.cut m [47]).1 = true ∧ ((Lib.cut m [47]).2.2 = true → tokB (Lib.cut m [47]).2.1 = true) ∧ lowS m = m
theorem MainOk.mem {m : Bs} (h : MainOk m) : m ≠ [] ∧ ∀ c ∈ m, c ≠ 59 ∧ c ≠ 32 ∧ c ≠ 9 ∧ saysC c = true := by
  obtain ⟨h1, h2, _⟩ := h
  have tok : ∀ {s : Bs}, tokB s = true → ∀ c ∈ s, c ≠ 59 ∧ c ≠ 32 ∧ c ≠ 9 ∧ saysC c = true := fun hs c hc => by
    have := badR_no ((tokB_mem hs).2 c hc)
    exact ⟨this.1, this.2.2.2.2.1, this.2.2.2.2.2.1, this.2.2.2.2.2.2.2.2⟩
  rw [cut_cutP] at h1 h2
  cases hc : cutP [47] m with
  | none =>
    rw [hc] at h1
    exact ⟨(tokB_mem h1).1, tok h1⟩
  | some x =>
    obtain ⟨a, b⟩ := x
    rw [hc] at h1 h2
    have e := (cutC_some hc).1
    have h2 := h2 rfl
    refine ⟨by rw [e]; simp, fun c hm => ?_⟩
    rw [e] at hm
    rcases List.mem_append.1 hm with hm | hm
    · exact tok h1 c hm
    · rcases List.mem_cons.1 hm with hm | hm
      · subst hm; decide
      · exact tok h2 c hm
theorem writeK_some {m : Bs} {l : List Fld} (hm : MainOk m) (hl : ∀ p ∈ l, ParOk p) : ∃ t, writeK m l = some (m ++ t) ∧ paramsW l = some t ∧ EndP t ∧ (l = [] ↔ t = []) := by
  obtain ⟨t, ht, he, hn⟩ := paramsW_some hl
  refine ⟨t, ?_, ht, he, hn⟩
  obtain ⟨h1, h2, h3⟩ := hm
  unfold writeK
  simp only
  rw [if_pos, ht]
  · rfl
  · rw [h1, h3]
    cases hc : (Lib.cut m [47]).2.2 with
    | false => simp
    | true => rw [h2 hc]; simp
theorem kind_back {m : Bs} {l : List Fld} (hm : MainOk m) (hl : ∀ p ∈ l, ParOk p) : ∃ t, writeK m l = some t ∧ readK t = some (m, l) ∧ valueB t = true := by
  obtain ⟨t, hw, hp, he, hn⟩ := writeK_some hm hl
  obtain ⟨hne, hmem⟩ := hm.mem
  have h59 : (59 : UInt8) ∉ m := fun h => (hmem _ h).1 rfl
  have htr : lowS (Lib.trimS m [32, 9]) = m := by
    rw [trimS_keep (fun c hc => by have := hmem c hc; simp [this.2.1, this.2.2.1]), hm.2.2]
  have hd : (tokB (Lib.cut m [47]).1 && (!(Lib.cut m [47]).2.2 || tokB (Lib.cut m [47]).2.1)) = true := by
    rw [hm.1]
    cases hc : (Lib.cut m [47]).2.2 with
    | false => simp
    | true => rw [hm.2.1 hc]; simp
  refine ⟨_, hw, ?_, ?_⟩
  · rcases he with rfl | ⟨r, rfl⟩
    · rw [List.append_nil, hn.2 rfl]
      unfold readK
      simp only [cutC_not h59, htr]
      rw [if_pos hd]; rfl
    · unfold readK
      simp only [cutC_of r h59, htr]
      rw [if_pos hd, if_pos trivial, params_back l r _ hl hp (Nat.lt_succ_self _)]; rfl
  · have hall : ∀ (l : List Fld) (t : Bs), (∀ p ∈ l, ParOk p) → paramsW l = some t → (∀ c ∈ t, saysC c = true) ∧ ∀ c, t.getLast? = some c → c ≠ 32 ∧ c ≠ 9 := by
      intro l
      induction l with
      | nil => intro t _ h; simp [paramsW] at h; subst h; simp
      | cons p l ih =>
        intro t hok h
        obtain ⟨t', ht', _, _⟩ := paramsW_some (l := l) (fun q hq => hok q (List.mem_cons_of_mem _ hq))
        obtain ⟨i1, i2⟩ := ih t' (fun q hq => hok q (List.mem_cons_of_mem _ hq)) ht'
        obtain ⟨p1, p2, p3⟩ := hok p (List.mem_cons_self ..)
        unfold paramsW at h
        cases hh : paramW p with
        | none => rw [hh] at h; cases h
        | some x =>
          have hx : x = 59 :: 32 :: (p.1 ++ 61 :: quoV p.2) := by
            unfold paramW at hh
            split at hh
            · simpa using hh.symm
            · cases hh
          rw [hh, ht'] at h
          have e : t = x ++ t' := by simpa using h.symm
          have okS : ∀ c, okQ c = true → saysC c = true := by
            intro c hc
            have key : ((List.range 256).all fun n => !(okQ n.toUInt8) || saysC n.toUInt8) = true := by kernel_rfl
            have := List.all_eq_true.1 key c.toNat (List.mem_range.2 c.toNat_lt)
            rw [show c.toNat.toUInt8 = c by simp, hc] at this
            simpa using this
          have hq : ∀ c ∈ quoV p.2, saysC c = true := by
            intro c hc
            unfold quoV at hc
            split at hc
            · exact okS c (p3 c hc)
            · simp at hc
              rcases hc with rfl | ⟨d, hd, hc⟩ | rfl
              · decide
              · unfold escV at hc
                split at hc
                · simp at hc; subst hc; decide
                · split at hc
                  · simp at hc; rcases hc with rfl | rfl <;> decide
                  · simp at hc; subst hc; exact okS _ (p3 _ hd)
              · decide
          have hql : ∀ c, (quoV p.2).getLast? = some c → c ≠ 32 ∧ c ≠ 9 := by
            intro c hc
            unfold quoV at hc
            split at hc
            · rename_i hk
              have := badR_no ((tokB_mem hk).2 c (List.mem_of_getLast? hc))
              exact ⟨this.2.2.2.2.1, this.2.2.2.2.2.1⟩
            · rw [← List.cons_append, List.getLast?_append] at hc
              simp at hc; subst hc; decide
          have hqn : quoV p.2 ≠ [] := by
            unfold quoV
            split
            · rename_i hk; exact (tokB_mem hk).1
            · simp
          refine ⟨fun c hc => ?_, fun c hc => ?_⟩
          · rw [e] at hc
            rcases List.mem_append.1 hc with hc | hc
            · rw [hx] at hc
              simp at hc
              rcases hc with rfl | rfl | hc | rfl | hc
              · decide
              · decide
              · exact (badR_no ((tokB_mem p1).2 c hc)).2.2.2.2.2.2.2.2
              · decide
              · exact hq c hc
            · exact i1 c hc
          · cases ht2 : t' with
            | nil =>
              rw [e, ht2, List.append_nil, hx] at hc
              have e2 : (59 :: 32 :: (p.1 ++ 61 :: quoV p.2) : Bs) = (59 :: 32 :: (p.1 ++ [61])) ++ quoV p.2 := by simp
              rw [e2, List.getLast?_append] at hc
              cases hg : (quoV p.2).getLast? with
              | none => exact absurd (List.getLast?_eq_none_iff.1 hg) hqn
              | some d => rw [hg] at hc; simp at hc; subst hc; exact hql _ hg
            | cons y ys =>
              rw [e, List.getLast?_append] at hc
              cases hg : t'.getLast? with
              | none => rw [List.getLast?_eq_none_iff.1 hg] at ht2; cases ht2
              | some d => rw [hg] at hc; simp at hc; subst hc; exact i2 _ hg
    obtain ⟨a1, a2⟩ := hall l t hl hp
    unfold valueB
    rw [Bool.and_eq_true, beq_iff_eq]
    refine ⟨?_, ?_⟩
    · rw [List.all_eq_true]
      intro c hc
      rcases List.mem_append.1 hc with hc | hc
      · exact (hmem c hc).2.2.2
      · exact a1 c hc
    · unfold Lib.trimS
      rw [trimR_keep (fun c hc => ?_), trimL_keep (fun c hc => ?_)]
      · cases hh : m with
        | nil => exact absurd hh hne
        | cons d l =>
          rw [hh] at hc
          simp at hc
          subst hc
          have := hmem d (by rw [hh]; exact List.mem_cons_self ..)
          simp [this.2.1, this.2.2.1]
      · rw [List.getLast?_append] at hc
        cases hg : t.getLast? with
        | none =>
          rw [hg] at hc
          simp at hc
          have := hmem c (List.mem_of_getLast? hc)
          simp [this.2.1, this.2.2.1]
        | some d =>
          rw [hg] at hc
          simp at hc
          subst hc
          have := a2 _ hg
          simp [this.1, this.2]
theorem saidQ_ok : ∀ (s v r : Bs), saidQ s = some (v, r) → ∀ c ∈ v, okQ c = true
  | [], _, _, h => by simp [saidQ] at h
  | [c], v, r, h => by
    unfold saidQ at h
    split at h
    · simp at h; rw [h.1]; simp
    · cases h
  | c :: d :: l, v, r, h => by
    unfold saidQ at h
    split at h
    · simp at h; rw [h.1]; simp
    · split at h
      · split at h
        · rename_i hd
          simp only [Option.map_eq_some_iff] at h
          obtain ⟨⟨a, b⟩, h1, h2⟩ := h
          have := saidQ_ok l a b h1
          simp at h2
          rw [← h2.1]
          intro x hx
          rcases List.mem_cons.1 hx with rfl | hx
          · exact hd
          · exact this x hx
        · cases h
      · split at h
        · rename_i hd
          simp only [Option.map_eq_some_iff] at h
          obtain ⟨⟨a, b⟩, h1, h2⟩ := h
          have := saidQ_ok (d :: l) a b h1
          simp at h2
          rw [← h2.1]
          intro x hx
          rcases List.mem_cons.1 hx with rfl | hx
          · exact hd
          · exact this x hx
        · cases h
theorem saidT_ok {s : Bs} (h : (saidT s).2.2 = true) : ∀ c ∈ (saidT s).1, okQ c = true := by
  unfold saidT at h ⊢
  split
  · cases hq : saidQ (s.drop 1) with
    | none => simp
    | some x => obtain ⟨v, r⟩ := x; exact saidQ_ok _ _ _ hq
  · rename_i hn
    rw [if_neg hn] at h
    exact fun c hc => (badR_no ((tokB_mem h).2 c hc)).2.2.2.2.2.2.2.1
theorem paramOf_ok {rest r : Bs} {f : Fld} (h : paramOf rest = some (f, r)) : ParOk f := by
  unfold paramOf at h
  simp only at h
  split at h
  · rename_i hc
    rw [Bool.and_eq_true] at hc
    split at h
    · rename_i hs
      simp at h
      rw [← h.1]
      exact ⟨by rw [tokB_low]; exact hc.2, lowS_low _, saidT_ok hs⟩
    · cases h
  · cases h
theorem paramsF_ok : ∀ (k : Nat) (rest : Bs) (l : List Fld), paramsF k rest = some l → ∀ f ∈ l, ParOk f
  | 0, _, _, h => by simp [paramsF] at h
  | k + 1, rest, l, h => by
    unfold paramsF at h
    cases hp : paramOf rest with
    | none => rw [hp] at h; cases h
    | some x =>
      obtain ⟨f, r⟩ := x
      have hf := paramOf_ok hp
      rw [hp] at h
      simp only at h
      cases r with
      | nil => simp at h; subst h; intro g hg; simp at hg; subst hg; exact hf
      | cons c r' =>
        simp only at h
        split at h
        · simp only [Option.map_eq_some_iff] at h
          obtain ⟨l', h1, rfl⟩ := h
          have ih := paramsF_ok k r' l' h1
          intro g hg
          rcases List.mem_cons.1 hg with rfl | hg
          · exact hf
          · exact ih g hg
        · cases h
theorem readK_ok {s m : Bs} {l : List Fld} (h : readK s = some (m, l)) : MainOk m ∧ ∀ p ∈ l, ParOk p := by
  unfold readK at h
  simp only at h
  split at h
  · rename_i hc
    rw [Bool.and_eq_true] at hc
    simp only [Option.map_eq_some_iff] at h
    obtain ⟨l', h1, h2⟩ := h
    simp at h2
    obtain ⟨rfl, rfl⟩ := h2
    refine ⟨⟨hc.1, fun hd => ?_, lowS_low _⟩, ?_⟩
    · have := hc.2
      rw [hd] at this
      simpa using this
    · split at h1
      · exact paramsF_ok _ _ _ h1
      · simp at h1; subst h1; simp
  · cases h
theorem cutP_app {p : Bs} : ∀ {x a b : Bs} (t : Bs), cutP p x = some (a, b) → cutP p (x ++ t) = some (a, b ++ t)
  | [], a, b, t, h => by
    unfold cutP at h
    split at h
    · rename_i hp
      simp at h
      obtain ⟨rfl, rfl⟩ := h
      subst hp
      cases t <;> simp [cutP]
    · cases h
  | c :: x, a, b, t, h => by
    unfold cutP at h
    rw [List.cons_append]
    unfold cutP
    split at h
    · rename_i hp
      obtain ⟨y, hy⟩ := List.isPrefixOf_iff_prefix.1 hp
      have hp2 : p.isPrefixOf (c :: (x ++ t)) = true := List.isPrefixOf_iff_prefix.2 ⟨y ++ t, by rw [← List.append_assoc, hy]; rfl⟩
      rw [if_pos hp2]
      simp at h
      obtain ⟨rfl, rfl⟩ := h
      have e : (c :: (x ++ t)).drop p.length = (c :: x).drop p.length ++ t := by
        rw [show c :: (x ++ t) = p ++ (y ++ t) by rw [← List.append_assoc, hy]; rfl, ← hy]; simp
      rw [e]
    · rename_i hp
      cases hc : cutP p x with
      | none => rw [hc] at h; cases h
      | some z =>
        obtain ⟨z1, z2⟩ := z
        rw [hc] at h
        simp at h
        obtain ⟨rfl, rfl⟩ := h
        have hp2 : ¬ p.isPrefixOf (c :: (x ++ t)) = true := by
          intro h2
          apply hp
          have hl := congrArg List.length (cutP_some hc)
          simp at hl
          obtain ⟨y, hy⟩ := List.isPrefixOf_iff_prefix.1 h2
          have h3 : p = (c :: (x ++ t)).take p.length := by rw [← hy]; simp
          rw [List.isPrefixOf_iff_prefix, h3, ← List.cons_append, List.take_append_of_le_length (by simp; omega)]
          exact List.take_prefix _ _
        rw [if_neg hp2, cutP_app t hc]; rfl
theorem cutP_last : ∀ {x : Bs} (Y : Bs), cutP [13, 10] x = none → cutP [13, 10] (x ++ 13 :: 10 :: Y) = some (x, Y)
  | [], Y, _ => by simp [cutP, List.isPrefixOf]
  | c :: x, Y, h => by
    obtain ⟨h1, h2⟩ := cutP_none_cons h
    rw [List.cons_append]
    unfold cutP
    rw [if_neg, cutP_last Y h2]
    · rfl
    · intro hp
      cases x with
      | nil => simp [List.isPrefixOf] at hp
      | cons d x =>
        simp only [List.cons_append, List.isPrefixOf, Bool.and_true] at hp h1
        rw [hp] at h1; cases h1
theorem contains_pre {x p : Bs} (h : Lib.hasPrefix x p = true) : Lib.contains x p = true := by
  rw [contains_cutP]
  unfold Lib.hasPrefix at h
  cases x with
  | nil =>
    cases p with
    | nil => rfl
    | cons c p => simp [List.isPrefixOf] at h
  | cons c x => unfold cutP; rw [if_pos h]; rfl
theorem contains_suf {p : Bs} : ∀ (u v : Bs), Lib.contains (u ++ v) p = false → Lib.contains v p = false
  | [], _, h => h
  | c :: u, v, h => by
    apply contains_suf u v
    rw [contains_cutP] at h ⊢
    rw [List.cons_append] at h
    unfold cutP at h
    split at h
    · cases h
    · cases hc : cutP p (u ++ v) with
      | none => rfl
      | some x => rw [hc] at h; cases h
theorem hasPrefix_app {x p : Bs} (t : Bs) (h : Lib.hasPrefix x p = true) : Lib.hasPrefix (x ++ t) p = true := by
  unfold Lib.hasPrefix at h ⊢
  rw [List.isPrefixOf_iff_prefix] at h ⊢
  exact h.trans (List.prefix_append _ _)
theorem cutQ_more {s b : Bs} : ∀ (k m i : Nat) (op : Option Nat) (out : List Bs), s.length + 1 - i < k → s.length + 1 - i < m → cutQ s b k i op out = cutQ s b m i op out
  | 0, _, _, _, _, h, _ => absurd h (Nat.not_lt_zero _)
  | _ + 1, 0, _, _, _, _, h => absurd h (Nat.not_lt_zero _)
  | k + 1, m + 1, i, op, out, h1, h2 => by
    unfold cutQ
    by_cases hi : s.length < i
    · rw [if_pos hi, if_pos hi]
    · rw [if_neg hi, if_neg hi]
      have ih := fun j op out (h : i + 2 ≤ j) => cutQ_more (s := s) (b := b) k m j op out (by omega) (by omega)
      simp only
      cases markOf (Lib.cut (s.drop i) [13, 10]).1 b with
      | none => exact ih _ _ _ (by omega)
      | some t =>
        simp only
        rw [ih _ (some (min (i + (Lib.cut (s.drop i) [13, 10]).1.length + 2) s.length)) (closeOf s i op out) (by omega), ih _ op out (by omega)]
def cutI (s b : Bs) (i : Nat) (op : Option Nat) (out : List Bs) : Option (List Bs) := cutQ s b (s.length + 2) i op out
theorem cutI_step {s b l Y : Bs} {i : Nat} (op : Option Nat) (out : List Bs) (hi : i ≤ s.length) (hl : Lib.cut (s.drop i) [13, 10] = (l, Y, true)) : cutI s b i op out = match markOf l b with
    | none => cutI s b (i + l.length + 2) op out
    | some t => if t = [45, 45] then some (closeOf s i op out)
      else if t = [] then cutI s b (i + l.length + 2) (some (min (i + l.length + 2) s.length)) (closeOf s i op out)
      else cutI s b (i + l.length + 2) op out := by
  unfold cutI
  conv => lhs; unfold cutQ
  rw [if_neg (by omega)]
  simp only [hl]
  have ih := fun op out => cutQ_more (s := s) (b := b) (s.length + 1) (s.length + 2) (i + l.length + 2) op out (by omega) (by omega)
  rw [ih, ih]
  cases markOf l b <;> rfl
theorem cut_skip {s b : Bs} : ∀ (n : Nat) (x Y : Bs) (i : Nat) (op : Option Nat) (out : List Bs), x.length ≤ n → s.drop i = x ++ 13 :: 10 :: Y → Lib.contains x (45 :: 45 :: b) = false →
    cutI s b i op out = cutI s b (i + x.length + 2) op out
  | n, x, Y, i, op, out, hn, hd, hx => by
    have hlen : i + (x.length + (Y.length + 2)) = s.length := by
      have := congrArg List.length hd
      rw [List.length_drop] at this; simp at this; omega
    have hno : ∀ l, (∃ t, x = l ++ t) → markOf l b = none := fun l ⟨t, ht⟩ => by
      unfold markOf
      rw [if_neg]
      intro h
      have := contains_pre (hasPrefix_app t h)
      rw [← ht, hx] at this; cases this
    cases hc : cutP [13, 10] x with
    | none =>
      have hcut : Lib.cut (s.drop i) [13, 10] = (x, Y, true) := by rw [hd, cut_cutP, cutP_last Y hc]
      rw [cutI_step op out (by omega) hcut, hno x ⟨[], by simp⟩]
    | some z =>
      obtain ⟨l, x'⟩ := z
      have e := cutP_some hc
      have hcut : Lib.cut (s.drop i) [13, 10] = (l, x' ++ 13 :: 10 :: Y, true) := by rw [hd, cut_cutP, cutP_app _ hc]
      have el : x.length = l.length + 2 + x'.length := by rw [e]; simp; omega
      cases n with
      | zero => omega
      | succ n =>
        rw [cutI_step op out (by omega) hcut, hno l ⟨13 :: 10 :: x', by rw [e]; simp⟩]
        simp only
        rw [cut_skip n x' Y (i + l.length + 2) op out (by omega) (by
          rw [show i + l.length + 2 = i + (l.length + 2) by omega, ← List.drop_drop, hd, e]
          have : l ++ [13, 10] ++ x' ++ 13 :: 10 :: Y = (l ++ [13, 10]) ++ (x' ++ 13 :: 10 :: Y) := by simp
          rw [this, List.drop_left' (by simp)]) (contains_suf (l ++ [13, 10]) x' (by rw [← e]; exact hx))]
        congr 1
        omega
theorem cut_pieces {s b : Bs} (hb : (13 : UInt8) ∉ b) : ∀ (l : List Bs) (i : Nat) (op : Option Nat) (out : List Bs), s.drop i = piecesT b l ++ 45 :: 45 :: (b ++ [45, 45, 13, 10]) → (∀ x ∈ l, Lib.contains x (45 :: 45 :: b) = false) →
    cutI s b i op out = some (closeOf s i op out ++ l)
  | [], i, op, out, hd, _ => by
    have hlen : i + (b.length + 6) = s.length := by
      have := congrArg List.length hd
      rw [List.length_drop] at this; simp [piecesT] at this; omega
    have hcut : Lib.cut (s.drop i) [13, 10] = (45 :: 45 :: (b ++ [45, 45]), [], true) := by
      have e : s.drop i = (45 :: 45 :: (b ++ [45, 45])) ++ 13 :: 10 :: [] := by rw [hd]; simp [piecesT]
      rw [e, cut_line [] (by simp [hb])]
    have hm : markOf (45 :: 45 :: (b ++ [45, 45])) b = some [45, 45] := by
      have hp : Lib.hasPrefix (45 :: 45 :: (b ++ [45, 45])) (45 :: 45 :: b) = true := by
        unfold Lib.hasPrefix
        exact List.isPrefixOf_iff_prefix.2 ⟨[45, 45], by simp⟩
      unfold markOf Lib.trimPrefix
      rw [if_pos hp, if_pos hp]
      have : (45 :: 45 :: (b ++ [45, 45])).drop (45 :: 45 :: b).length = [45, 45] := by simp
      rw [this]; rfl
    rw [cutI_step op out (by omega) hcut, hm]
    simp
  | x :: l, i, op, out, hd, hl => by
    have hE : s.drop i = (45 :: 45 :: b) ++ 13 :: 10 :: (x ++ 13 :: 10 :: (piecesT b l ++ 45 :: 45 :: (b ++ [45, 45, 13, 10]))) := by
      rw [hd]; simp [piecesT]
    generalize hT : piecesT b l ++ 45 :: 45 :: (b ++ [45, 45, 13, 10]) = T at hE
    have hlen : i + (b.length + x.length + T.length + 6) = s.length := by
      have := congrArg List.length hE
      rw [List.length_drop] at this; simp at this; omega
    have hcut : Lib.cut (s.drop i) [13, 10] = (45 :: 45 :: b, x ++ 13 :: 10 :: T, true) := by
      rw [hE, cut_line _ (by simp [hb])]
    have hm : markOf (45 :: 45 :: b) b = some [] := by
      have hp : Lib.hasPrefix (45 :: 45 :: b) (45 :: 45 :: b) = true := by
        unfold Lib.hasPrefix
        exact List.isPrefixOf_iff_prefix.2 ⟨[], by simp⟩
      unfold markOf Lib.trimPrefix
      rw [if_pos hp, if_pos hp, List.drop_length]; rfl
    rw [cutI_step op out (by omega) hcut, hm]
    simp only
    rw [if_neg (by decide), if_pos trivial]
    obtain ⟨o, ho⟩ : ∃ o, o = i + (45 :: 45 :: b : Bs).length + 2 := ⟨_, rfl⟩
    have hol : o = i + (b.length + 4) := by rw [ho]; simp; omega
    rw [← ho, Nat.min_eq_left (by omega)]
    have hdo : s.drop o = x ++ 13 :: 10 :: T := by
      rw [hol, ← List.drop_drop, hE]
      have : (45 :: 45 :: b) ++ 13 :: 10 :: (x ++ 13 :: 10 :: T) = ((45 :: 45 :: b) ++ [13, 10]) ++ (x ++ 13 :: 10 :: T) := by simp
      rw [this, List.drop_left' (by simp)]
    rw [cut_skip x.length x T o _ _ (Nat.le_refl _) hdo (hl x (List.mem_cons_self ..))]
    have hdn : s.drop (o + x.length + 2) = T := by
      rw [show o + x.length + 2 = o + (x.length + 2) by omega, ← List.drop_drop, hdo]
      have : x ++ 13 :: 10 :: T = (x ++ [13, 10]) ++ T := by simp
      rw [this, List.drop_left' (by simp)]
    rw [cut_pieces hb l _ (some o) (closeOf s i op out) (by rw [hdn, hT]) (fun y hy => hl y (List.mem_cons_of_mem _ hy))]
    have hp : pieceOf s (o + x.length + 2) o = x := by
      unfold pieceOf
      rw [hdo, show max (o + x.length + 2 - 2) o - o = x.length by omega, List.take_left' rfl]
    show some (closeOf s i op out ++ [pieceOf s (o + x.length + 2) o] ++ l) = _
    rw [hp, List.append_assoc]; rfl
theorem cut_back {b : Bs} {l : List Bs} (hb : (13 : UInt8) ∉ b) (hl : ∀ x ∈ l, Lib.contains x (45 :: 45 :: b) = false) : cutB (piecesT b l ++ 45 :: 45 :: (b ++ [45, 45, 13, 10])) b = some l :=
  cut_pieces hb l 0 none [] rfl hl
theorem firstN_spec (p : Nat → Bool) : ∀ k n, p (firstN p k n) = true ∨ ∀ j, n ≤ j → j < n + k → p j = false
  | 0, n => Or.inr fun j h1 h2 => by omega
  | k + 1, n => by
    unfold firstN
    cases hn : p n with
    | true => left; rw [if_pos rfl]; exact hn
    | false =>
      rw [if_neg (by decide)]
      rcases firstN_spec p k (n + 1) with h | h
      · exact Or.inl h
      · right
        intro j h1 h2
        rcases Nat.lt_or_ge n j with h3 | h3
        · exact h j h3 (by omega)
        · rw [show j = n by omega]; exact hn
theorem choose_none (pre : Bs) (l : List Bs) : hasAny pre l (chooseN pre l) = false := by
  unfold chooseN
  rcases firstN_spec (fun n => !hasAny pre l n) (20 * (sumLen l + l.length + 1)) 0 with h | h
  · simpa using h
  · exfalso
    have := hasAny_small pre l (20 * (sumLen l + l.length + 1)) (fun j hj => by simpa using h j (Nat.zero_le _) (by omega))
    omega
theorem hasAny_no {pre : Bs} {l : List Bs} {n : Nat} (h : hasAny pre l n = false) : ∀ x ∈ l, Lib.contains x (pre ++ Lib.itoa n) = false := by
  unfold hasAny at h
  intro x hx
  have := List.any_eq_false.1 h x hx
  simpa using this
theorem L64_all : ((List.range 64).all fun n => idx64 (L64 n) == (n : Int) && !(gapB (L64 n)) && L64 n != 61) = true := by kernel_rfl
theorem L64_idx {k : Nat} (h : k < 64) : idx64 (L64 k) = (k : Int) ∧ gapB (L64 k) = false ∧ L64 k ≠ 61 := by
  have := List.all_eq_true.1 L64_all k (List.mem_range.2 h)
  simp at this
  exact ⟨this.1.1, this.1.2, this.2⟩
theorem unpackL_gap {c : UInt8} (h : gapB c = true) (l : Bs) (v n p : Nat) : unpackL (c :: l) v n p = unpackL l v n p := by
  have e : unpackS c v n p = some ([], v, n, p) := by unfold unpackS; rw [if_pos h]
  conv => lhs; unfold unpackL
  rw [e]
  simp
theorem unpackL_crlf (l : Bs) (v n p : Nat) : unpackL (13 :: 10 :: l) v n p = unpackL l v n p := by
  rw [unpackL_gap (by decide), unpackL_gap (by decide)]
theorem unpackL_let {k : Nat} (h : k < 64) (l : Bs) (v n : Nat) : unpackL (L64 k :: l) v n 0 = match unpackE (v * 64 + k) (n + 1) 0 with
    | none => none
    | some (o, v', n', p') => (unpackL l v' n' p').map (o ++ ·) := by
  obtain ⟨h1, h2, h3⟩ := L64_idx h
  have e : unpackS (L64 k) v n 0 = unpackE (v * 64 + k) (n + 1) 0 := by
    unfold unpackS
    rw [if_neg (by rw [h2]; decide)]
    have : unpackK (L64 k) n 0 = some (k, 0) := by
      unfold unpackK
      rw [if_neg (fun h => h3 h.1), if_neg (by rw [h1]; omega), h1]; simp
    rw [this]
  conv => lhs; unfold unpackL
  rw [e]
  generalize unpackE (v * 64 + k) (n + 1) 0 = r
  rcases r with _ | ⟨o, v', n', p'⟩ <;> rfl
theorem unpackE_mid {v n p : Nat} (h : 0 < n % 4) : unpackE v n p = some ([], v, n, p) := by unfold unpackE; rw [if_pos h]
theorem unpackL_mid {k : Nat} (h : k < 64) (l : Bs) (v n : Nat) (hn : 0 < (n + 1) % 4) : unpackL (L64 k :: l) v n 0 = unpackL l (v * 64 + k) (n + 1) 0 := by
  rw [unpackL_let h, unpackE_mid hn]; simp
theorem unpackL_pad (l : Bs) (v n p : Nat) (h : 2 ≤ n % 4) : unpackL (61 :: l) v n p = match unpackE (v * 64) (n + 1) (p + 1) with
    | none => none
    | some (o, v', n', p') => (unpackL l v' n' p').map (o ++ ·) := by
  have e : unpackS 61 v n p = unpackE (v * 64) (n + 1) (p + 1) := by
    unfold unpackS
    rw [if_neg (by decide)]
    have : unpackK 61 n p = some (0, p + 1) := by unfold unpackK; rw [if_pos ⟨rfl, h⟩]
    rw [this]; rfl
  conv => lhs; unfold unpackL
  rw [e]
  generalize unpackE (v * 64) (n + 1) (p + 1) = r
  rcases r with _ | ⟨o, v', n', p'⟩ <;> rfl
theorem quad_eq (v : Nat) : quad v 3 = [L64 (v / 262144 % 64), L64 (v / 4096 % 64), L64 (v / 64 % 64), L64 (v % 64)] := rfl
theorem unpack_quad3 (a b c : UInt8) (l : Bs) (n : Nat) (hn : n % 4 = 0) : unpackL (quad (a.toNat * 65536 + b.toNat * 256 + c.toNat) 3 ++ l) 0 n 0 = (unpackL l 0 (n + 4) 0).map ([a, b, c] ++ ·) := by
  have ha := a.toNat_lt; have hb := b.toNat_lt; have hc := c.toNat_lt
  rw [quad_eq, List.cons_append, List.cons_append, List.cons_append, List.cons_append, List.nil_append]
  rw [unpackL_mid (Nat.mod_lt _ (by decide)) _ _ _ (by omega), unpackL_mid (Nat.mod_lt _ (by decide)) _ _ _ (by omega), unpackL_mid (Nat.mod_lt _ (by decide)) _ _ _ (by omega), unpackL_let (Nat.mod_lt _ (by decide))]
  obtain ⟨v, hv⟩ : ∃ v, v = a.toNat * 65536 + b.toNat * 256 + c.toNat := ⟨_, rfl⟩
  rw [← hv]
  have e : (((0 * 64 + v / 262144 % 64) * 64 + v / 4096 % 64) * 64 + v / 64 % 64) * 64 + v % 64 = v := by omega
  rw [e]
  have e2 : unpackE v (n + 1 + 1 + 1 + 1) 0 = some ([a, b, c], 0, n + 4, 0) := by
    unfold unpackE
    rw [if_neg (by omega), if_neg (by omega)]
    have k1 : (v / 65536).toUInt8 = a := by rw [show v / 65536 = a.toNat by omega]; simp
    have k2 : (v / 256).toUInt8 = b := by
      apply UInt8.toNat_inj.1; rw [Nat.toUInt8, UInt8.toNat_ofNat']; omega
    have k3 : v.toUInt8 = c := by
      apply UInt8.toNat_inj.1; rw [Nat.toUInt8, UInt8.toNat_ofNat']; omega
    rw [k1, k2, k3]; rfl
  rw [e2]
theorem unpack_quad2 (a b : UInt8) (l : Bs) (n : Nat) (hn : n % 4 = 0) : unpackL (quad (a.toNat * 65536 + b.toNat * 256) 2 ++ l) 0 n 0 = (unpackL l 0 (n + 4) 1).map ([a, b] ++ ·) := by
  have ha := a.toNat_lt; have hb := b.toNat_lt
  rw [show ∀ v, quad v 2 = [L64 (v / 262144 % 64), L64 (v / 4096 % 64), L64 (v / 64 % 64), 61] from fun _ => rfl, List.cons_append, List.cons_append, List.cons_append, List.cons_append, List.nil_append]
  rw [unpackL_mid (Nat.mod_lt _ (by decide)) _ _ _ (by omega), unpackL_mid (Nat.mod_lt _ (by decide)) _ _ _ (by omega), unpackL_mid (Nat.mod_lt _ (by decide)) _ _ _ (by omega), unpackL_pad _ _ _ _ (by omega)]
  obtain ⟨v, hv⟩ : ∃ v, v = a.toNat * 65536 + b.toNat * 256 := ⟨_, rfl⟩
  rw [← hv]
  have e : (((0 * 64 + v / 262144 % 64) * 64 + v / 4096 % 64) * 64 + v / 64 % 64) * 64 = v := by omega
  rw [e]
  have e2 : unpackE v (n + 1 + 1 + 1 + 1) (0 + 1) = some ([a, b], 0, n + 4, 1) := by
    unfold unpackE
    rw [if_neg (by omega), if_neg (by omega)]
    have k1 : (v / 65536).toUInt8 = a := by rw [show v / 65536 = a.toNat by omega]; simp
    have k2 : (v / 256).toUInt8 = b := by
      apply UInt8.toNat_inj.1; rw [Nat.toUInt8, UInt8.toNat_ofNat']; omega
    rw [k1, k2]; rfl
  rw [e2]
theorem unpack_quad1 (a : UInt8) (l : Bs) (n : Nat) (hn : n % 4 = 0) : unpackL (quad (a.toNat * 65536) 1 ++ l) 0 n 0 = (unpackL l 0 (n + 4) 2).map ([a] ++ ·) := by
  have ha := a.toNat_lt
  rw [show ∀ v, quad v 1 = [L64 (v / 262144 % 64), L64 (v / 4096 % 64), 61, 61] from fun _ => rfl, List.cons_append, List.cons_append, List.cons_append, List.cons_append, List.nil_append]
  rw [unpackL_mid (Nat.mod_lt _ (by decide)) _ _ _ (by omega), unpackL_mid (Nat.mod_lt _ (by decide)) _ _ _ (by omega), unpackL_pad _ _ _ _ (by omega), unpackE_mid (by omega)]
  simp only
  rw [unpackL_pad _ _ _ _ (by omega)]
  obtain ⟨v, hv⟩ : ∃ v, v = a.toNat * 65536 := ⟨_, rfl⟩
  rw [← hv]
  have e : ((0 * 64 + v / 262144 % 64) * 64 + v / 4096 % 64) * 64 * 64 = v := by omega
  rw [e]
  have e2 : unpackE v (n + 1 + 1 + 1 + 1) (0 + 1 + 1) = some ([a], 0, n + 4, 2) := by
    unfold unpackE
    rw [if_neg (by omega), if_neg (by omega)]
    have k1 : (v / 65536).toUInt8 = a := by rw [show v / 65536 = a.toNat by omega]; simp
    rw [k1]; rfl
  rw [e2]
  simp [Function.comp_def]
theorem unpackL_end {n : Nat} (hn : n % 4 = 0) (v p : Nat) : unpackL [13, 10] v n p = some [] := by
  rw [unpackL_crlf]; unfold unpackL; rw [if_neg (by omega)]
theorem unpack_pack : ∀ (b : Bs) (k n : Nat), n % 4 = 0 → unpackL (packL b k) 0 n 0 = some b
  | [], _, n, hn => by unfold packL unpackL; rw [if_neg (by omega)]
  | [a], _, n, hn => by unfold packL; rw [unpack_quad1 a _ n hn, unpackL_end (by omega)]; rfl
  | [a, b], _, n, hn => by unfold packL; rw [unpack_quad2 a b _ n hn, unpackL_end (by omega)]; rfl
  | a :: b :: c :: l, k, n, hn => by
    unfold packL
    rw [unpack_quad3 a b c _ n hn]
    split
    · rw [List.cons_append, List.cons_append, List.nil_append, unpackL_crlf, unpack_pack l 0 (n + 4) (by omega)]; rfl
    · rw [unpack_pack l (k + 4) (n + 4) (by omega)]; rfl
theorem unpackT_packT (b : Bs) : unpackT (packT b) = some b := unpack_pack b 0 0 rfl
end Go.Proofs.YtignjjnflcpiiaaGreatDoor
