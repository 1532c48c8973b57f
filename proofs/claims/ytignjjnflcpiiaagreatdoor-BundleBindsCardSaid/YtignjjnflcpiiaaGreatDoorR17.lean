/- A page with other values leads to these values: linksT and replK. No program, no condition; The dots of a path, part by part, as plain data. No program; Where an address leads, as plain data. No program; A sign that stands in no text stands in no address that the texts lead to: cuts, dots, unescapin. -/
import Derived.Lib.Join
import Derived.Test.YtignjjnflcpiiaaGreatDoorR16
namespace Go.Proofs.YtignjjnflcpiiaaGreatDoor
open Go
theorem low60 : ∀ c : UInt8, (lowC c = 60 → c = 60) ∧ (lowC c = 47 → c = 47) ∧ (c = 62 → lowC c = 62) := by
  intro c
  have key : ((List.range 256).all fun n => (lowC n.toUInt8 != 60 || n.toUInt8 == 60) && (lowC n.toUInt8 != 47 || n.toUInt8 == 47) && (n.toUInt8 != 62 || lowC n.toUInt8 == 62)) = true := by kernel_rfl
  have := List.all_eq_true.1 key c.toNat (List.mem_range.2 c.toNat_lt)
  rw [show c.toNat.toUInt8 = c by simp] at this
  simp at this
  obtain ⟨⟨h1, h2⟩, h3⟩ := this
  exact ⟨fun h => h1.resolve_left (fun n => n h), fun h => h2.resolve_left (fun n => n h), fun h => h3.resolve_left (fun n => n h)⟩
theorem links_raw {s name : Bs} {j : Nat} (hj : j ≤ s.length) (hn : (62 : UInt8) ∉ name) (hp : Lib.hasPrefix (lowS (s.drop j)) ([60, 47] ++ name) = true) : linksA s j = [] ∨ Lies (j + (2 + name.length)) (linksA s j) s.length := by
  unfold Lib.hasPrefix at hp
  obtain ⟨y, hy⟩ := List.isPrefixOf_iff_prefix.1 hp
  obtain ⟨c0, c1, r, hd⟩ : ∃ c0 c1 r, s.drop j = c0 :: c1 :: r := by
    match h : s.drop j, hy with
    | [], hy => simp [lowS] at hy
    | [c], hy => simp [lowS] at hy
    | c0 :: c1 :: r, _ => exact ⟨c0, c1, r, rfl⟩
  rw [hd] at hy
  simp only [lowS, List.map_cons, List.cons_append, List.nil_append, List.cons.injEq] at hy
  obtain ⟨h0, h1, hr⟩ := hy
  have h0 := (low60 c0).1 h0.symm
  have h1 := (low60 c1).2.1 h1.symm
  subst h0 h1
  have hlen := drop_len hd
  have hrl := congrArg List.length hr
  rw [List.length_append, List.length_map] at hrl
  simp only [List.length_cons] at hlen
  have hq : (62 : UInt8) ∉ r.take name.length := by
    intro hm
    have h2 : (r.take name.length).map lowC = name := by
      rw [List.map_take, ← hr, List.take_left' rfl]
    have h3 : lowC 62 ∈ (r.take name.length).map lowC := List.mem_map_of_mem hm
    rw [h2] at h3
    exact hn h3
  have hs1 : skipN s [60] j = j + 1 := by
    have hi : Lib.index (s.drop j) [60] = 0 := by
      rw [hd, index_cutP]
      simp [cutP, List.isPrefixOf]
    unfold skipN
    rw [hi, if_neg (by decide)]; rfl
  have hd1 := drop_next hd
  have hs : s.drop (skipN s [60] j) = 47 :: r := by rw [hs1]; exact hd1
  rw [linksA_go hj hs, hs1]
  have hln : linkN s (j + 1) 47 = (skipN s [62] (j + 1), []) := by
    unfold linkN
    rw [hd1, if_neg (by simp [Lib.hasPrefix, List.isPrefixOf]), if_pos (Or.inl rfl)]
  rw [hln]
  simp only [List.nil_append]
  by_cases hk : Lib.index (s.drop (j + 1)) [62] < 0
  · left
    have : skipN s [62] (j + 1) = s.length := by unfold skipN; rw [if_pos hk]
    rw [this]; exact linksA_top s
  · right
    have hsk := skipN_le s [62] (j + 1) (by omega)
    have e : skipN s [62] (j + 1) = j + 1 + ((Lib.index (s.drop (j + 1)) [62]).toNat + 1) := by unfold skipN; rw [if_neg hk]; rfl
    have hge : 1 + name.length ≤ (Lib.index (s.drop (j + 1)) [62]).toNat := by
      rw [hd1, Lib.index_one]
      rcases hasAt_index (47 :: r) 62 with ⟨hh, _⟩ | ⟨a, b, hab, hna, hka⟩
      · rw [hd1, Lib.index_one, hh] at hk; exact absurd (by decide) hk
      · rw [hka, Int.toNat_natCast]
        rcases Nat.lt_or_ge a.length (1 + name.length) with hlt | hge
        · exfalso
          have g1 : (47 :: r)[a.length]? = some 62 := by rw [hab]; simp
          cases ha : a.length with
          | zero => rw [ha] at g1; simp at g1
          | succ m =>
            rw [ha] at g1 hlt
            rw [List.getElem?_cons_succ] at g1
            apply hq
            have : (r.take name.length)[m]? = some 62 := by rw [List.getElem?_take, if_pos (by omega)]; exact g1
            exact List.mem_of_getElem? this
        · exact hge
    have := (linksA_lies (s := s) _ (skipN s [62] (j + 1)) (Nat.le_refl _) hsk.2).1
    exact this.wide (by omega) (Nat.le_refl _)
theorem rawsT_no : ∀ n ∈ rawsT, (62 : UInt8) ∉ n := by decide
theorem hasPrefix_at {T p : Bs} (h : 0 ≤ Lib.index T p) : Lib.hasPrefix (T.drop (Lib.index T p).toNat) p = true := by
  rw [index_cutP] at h ⊢
  cases hc : cutP p T with
  | none => rw [hc] at h; exact absurd h (by decide)
  | some x =>
    obtain ⟨a, b⟩ := x
    have e := cutP_some hc
    simp only [Int.toNat_natCast]
    rw [e, List.append_assoc, List.drop_left' rfl]
    unfold Lib.hasPrefix
    exact List.isPrefixOf_iff_prefix.2 ⟨b, rfl⟩
theorem tag_sim {s s' : Bs} {vals : List Bs} {zs : List (Lnk × Bs)} {i i' : Nat} (hv : vals.length = (tagN s i).2.length) (h : Sim s ((tagN s i).2.zip vals ++ zs) i s' i') (hz : lnks zs = linksA s (tagN s i).1) :
    (tagN s' i').2.map (·.2.2) = vals ∧ Sim s zs (tagN s i).1 s' (tagN s' i').1 := by
  have hi := h.2.1
  have htl := tagN_lies hi
  have hza := after_links htl.2.1 hz
  have hr := runN_le (s.drop i) alnum
  rw [List.length_drop] at hr
  rw [tagN_eq s i] at hv h hz htl hza ⊢
  rw [tagN_eq s' i']
  obtain ⟨p, hp⟩ : ∃ p, p = i + runN (s.drop i) alnum := ⟨_, rfl⟩
  have hpl : p ≤ s.length := by omega
  have hal := attrsT_lies (s := s) _ p (Nat.le_refl _) hpl
  have hal1 := attrsT_lies1 (s := s) _ p (Nat.le_refl _) hpl
  rw [← hp] at hv h hz htl hza ⊢
  have hls : ∀ (name : Bs), (if rawsT.contains name = true then (if Lib.index (lowS (s.drop (attrsT s p).1)) ([60, 47] ++ name) < 0 then s.length else (attrsT s p).1 + (Lib.index (lowS (s.drop (attrsT s p).1)) ([60, 47] ++ name)).toNat, (attrsT s p).2) else attrsT s p).2 = (attrsT s p).2 := by
    intro name; split <;> rfl
  rw [hls] at hv h
  have hge : ∀ (name : Bs), (attrsT s p).1 ≤ (if rawsT.contains name = true then (if Lib.index (lowS (s.drop (attrsT s p).1)) ([60, 47] ++ name) < 0 then s.length else (attrsT s p).1 + (Lib.index (lowS (s.drop (attrsT s p).1)) ([60, 47] ++ name)).toNat, (attrsT s p).2) else attrsT s p).1 := by
    intro name
    split
    · simp only
      split
      · exact hal.2.1
      · omega
    · exact Nat.le_refl _
  have hzr : After s zs (attrsT s p).1 := hza.less (hge _)
  have hzp : After s ((attrsT s p).2.zip vals ++ zs) p := After.app hal1 hv hal.1.le hal.2.1 hzr
  have hth := h.thru (j := p) (by omega) hzp
  have er : runN (s'.drop i') alnum = runN (s.drop i) alnum := hth.run _ (by omega)
  have et : (s'.drop i').take (runN (s.drop i) alnum) = (s.drop i).take (runN (s.drop i) alnum) := hth.take (by omega)
  have hP : Sim s ((attrsT s p).2.zip vals ++ zs) p s' (i' + runN (s.drop i) alnum) := by
    have := (h.to (a := p) (by omega) hpl (hzp.lies (Nat.le_refl _))).1
    rwa [show i' + (p - i) = i' + runN (s.drop i) alnum by omega] at this
  obtain ⟨r1, r2⟩ := attrs_sim _ p vals zs s' _ (Nat.le_refl _) hv hP hzr
  rw [er, et]
  generalize hname : lowS ((s.drop i).take (runN (s.drop i) alnum)) = name at hz hza ⊢
  generalize attrsT s' (i' + runN (s.drop i) alnum) = R' at r1 r2 ⊢
  by_cases hraw : rawsT.contains name = true
  · rw [if_pos hraw] at hz hza ⊢
    rw [if_pos hraw]
    refine ⟨r1, ?_⟩
    simp only at hz hza ⊢
    by_cases hk : Lib.index (lowS (s.drop (attrsT s p).1)) ([60, 47] ++ name) < 0
    · rw [if_pos hk] at hz hza ⊢
      have hz0 : zs = [] := hza.lt.resolve_right (by omega)
      subst hz0
      obtain ⟨e1, e2⟩ := r2.same
      rw [e1, if_pos hk]
      exact ⟨by rw [List.drop_length]; exact (List.drop_length).symm, Nat.le_refl _, Nat.le_refl _⟩
    · rw [if_neg hk] at hz hza ⊢
      have hx := (index_le (lowS (s.drop (attrsT s p).1)) ([60, 47] ++ name)).resolve_left hk
      rw [show (lowS (s.drop (attrsT s p).1)).length = s.length - (attrsT s p).1 from by simp [lowS]] at hx
      have hpre : Lib.hasPrefix (lowS (s.drop ((attrsT s p).1 + (Lib.index (lowS (s.drop (attrsT s p).1)) ([60, 47] ++ name)).toNat))) ([60, 47] ++ name) = true := by
        have := hasPrefix_at (T := lowS (s.drop (attrsT s p).1)) (p := [60, 47] ++ name) hx.1
        rw [← List.drop_drop]
        unfold lowS at this ⊢
        rwa [List.map_drop]
      generalize hkk : (Lib.index (lowS (s.drop (attrsT s p).1)) ([60, 47] ++ name)).toNat = k at hx hz hza hpre ⊢
      have hpl2 : ([60, 47] ++ name : Bs).length = 2 + name.length := by simp; omega
      have hrl := links_raw (s := s) (name := name) (j := (attrsT s p).1 + k) (by omega) (rawsT_no name (by simpa using hraw)) hpre
      have hzz : zs = [] ∨ Lies ((attrsT s p).1 + (k + (2 + name.length))) (lnks zs) s.length := by
        rcases hrl with e | e
        · left; rw [e] at hz; exact List.map_eq_nil_iff.1 hz
        · right; rw [hz]; exact e.wide (by omega) (Nat.le_refl _)
      have ha := r2.agr (a := (attrsT s p).1 + (k + (2 + name.length))) (by omega) (by omega) hzz
      have ei := ha.low.index (p := [60, 47] ++ name) (by omega) (by omega)
      rw [ei, if_neg hk, hkk]
      have := (r2.to (a := (attrsT s p).1 + k) (by omega) (by omega) (hza.lies (Nat.le_refl _))).1
      rwa [show R'.1 + ((attrsT s p).1 + k - (attrsT s p).1) = R'.1 + k by omega] at this
  · rw [if_neg hraw] at hz hza ⊢
    rw [if_neg hraw]
    exact ⟨r1, r2⟩
theorem link_sim {s s' l : Bs} {c : UInt8} {vals : List Bs} {zs : List (Lnk × Bs)} {i i' : Nat} (hd : s.drop i = c :: l) (hv : vals.length = (linkN s i c).2.length) (h : Sim s ((linkN s i c).2.zip vals ++ zs) i s' i') (hz : lnks zs = linksA s (linkN s i c).1) :
    (∃ l', s'.drop i' = c :: l') ∧ (linkN s' i' c).2.map (·.2.2) = vals ∧ Sim s zs (linkN s i c).1 s' (linkN s' i' c).1 := by
  have hi := h.2.1
  have hll := linkN_lies hd
  have hza := after_links hll.2.1 hz
  have hlen := drop_len hd
  have none : ∀ j, linkN s i c = (j, []) → vals = [] ∧ Sim s zs i s' i' ∧ After s zs j ∧ i ≤ j ∧ lnks zs = linksA s j := by
    intro j e
    rw [e] at hv h hz hza hll
    have : vals = [] := List.length_eq_zero_iff.1 hv
    subst this
    exact ⟨rfl, h, hza, hll.1.le, hz⟩
  have skipA : ∀ (p : Bs) (i0 : Nat), lnks zs = linksA s (skipN s p i0) → i0 ≤ s.length → zs = [] ∨ (skipN s p i0 < s.length ∧ Lies (skipN s p i0) (lnks zs) s.length) := by
    intro p i0 e h0
    have := after_links (skipN_le s p i0 h0).2 e
    rcases this.lt with h | h
    · exact Or.inl h
    · exact Or.inr ⟨h.1, h.2.wide (by omega) (Nat.le_refl _)⟩
  unfold linkN at hv h hz hza hll none ⊢
  by_cases hp : Lib.hasPrefix (s.drop i) [33, 45, 45] = true
  · rw [if_pos hp] at none
    obtain ⟨rfl, hS, hA, hle, hz'⟩ := none _ rfl
    have h3 : i + 3 ≤ s.length := by
      have := (List.isPrefixOf_iff_prefix.1 (by unfold Lib.hasPrefix at hp; exact hp)).length_le
      rw [List.length_drop] at this; simp at this; omega
    have hsk := skipN_le s [45, 45, 62] (i + 3) h3
    have hth := hS.thru (j := skipN s [45, 45, 62] (i + 3)) (by omega) hA
    have hp' : Lib.hasPrefix (s'.drop i') [33, 45, 45] = true := by
      have e := hth.take (m := 3) (by omega)
      unfold Lib.hasPrefix at hp ⊢
      rw [List.isPrefixOf_iff_prefix] at hp ⊢
      have h4 : ([33, 45, 45] : Bs) = (s.drop i).take 3 := by
        obtain ⟨y, hy⟩ := hp
        rw [← hy]; rfl
      rw [h4, ← e]
      exact List.take_prefix _ _
    obtain ⟨l', hd', _⟩ := hS.cons (j := skipN s [45, 45, 62] (i + 3)) (by omega) hA hd
    rw [if_pos hp, if_pos hp']
    refine ⟨⟨l', hd'⟩, rfl, ?_⟩
    have h3' := (hS.to (a := i + 3) (by omega) h3 (hA.lies (by omega))).1
    rw [show i' + (i + 3 - i) = i' + 3 by omega] at h3'
    exact skip_sim h3' (skipA _ _ hz' h3)
  rw [if_neg hp] at hv h hz hza hll none ⊢
  by_cases h2 : c = 47 ∨ c = 33 ∨ c = 63
  · rw [if_pos h2] at none ⊢
    obtain ⟨rfl, hS, hA, hle, hz'⟩ := none _ rfl
    have hsk := skipN_le s [62] i hi
    obtain ⟨l', hd', hag⟩ := hS.cons (j := skipN s [62] i) (by omega) hA hd
    have hp' : ¬ Lib.hasPrefix (s'.drop i') [33, 45, 45] = true := by
      intro h5
      by_cases h33 : c = 33
      · subst h33
        by_cases hk : Lib.index (s.drop i) [62] < 0
        · have e : skipN s [62] i = s.length := by unfold skipN; rw [if_pos hk]
          rw [e] at hA
          have hz0 : zs = [] := hA.lt.resolve_right (by omega)
          subst hz0
          rw [hS.same.1] at h5
          exact hp h5
        · -- the > stands not at the first byte
          have e : skipN s [62] i = i + ((Lib.index (s.drop i) [62]).toNat + 1) := by unfold skipN; rw [if_neg hk]; rfl
          have hge : 1 ≤ (Lib.index (s.drop i) [62]).toNat := by
            rw [hd, Lib.index_one]
            rcases hasAt_index (33 :: l) 62 with ⟨hh, _⟩ | ⟨a, b, hab, hna, hka⟩
            · rw [hd, Lib.index_one, hh] at hk; exact absurd (by decide) hk
            · rw [hka, Int.toNat_natCast]
              cases a with
              | nil => simp at hab
              | cons x a => simp
          have hth := hS.thru (j := skipN s [62] i) (by omega) hA
          have e3 := hth.take (m := 3) (by omega)
          apply hp
          unfold Lib.hasPrefix at h5 ⊢
          rw [List.isPrefixOf_iff_prefix] at h5 ⊢
          have h4 : ([33, 45, 45] : Bs) = (s'.drop i').take 3 := by
            obtain ⟨y, hy⟩ := h5
            rw [← hy]; rfl
          rw [h4, e3]
          exact List.take_prefix _ _
      · rw [hd'] at h5
        simp [Lib.hasPrefix, List.isPrefixOf] at h5
        exact h33 h5.1.symm
    rw [if_neg hp', if_pos h2]
    exact ⟨⟨l', hd'⟩, rfl, skip_sim hS (skipA _ _ hz' hi)⟩
  have hne33 : c ≠ 33 := fun e => h2 (Or.inr (Or.inl e))
  have np : ∀ l', s'.drop i' = c :: l' → ¬ Lib.hasPrefix (s'.drop i') [33, 45, 45] = true := by
    intro l' e h5
    rw [e] at h5
    simp [Lib.hasPrefix, List.isPrefixOf] at h5
    exact hne33 h5.1.symm
  rw [if_neg h2] at hv h hz hza hll none ⊢
  by_cases h3 : (alnum.take 52).contains c = true
  · rw [if_pos h3] at hv h hz hza hll ⊢
    have hzi : After s ((tagN s i).2.zip vals ++ zs) i := by
      have hr := runN_le (s.drop i) alnum
      rw [List.length_drop] at hr
      have hl1 := attrsT_lies1 (s := s) _ (i + runN (s.drop i) alnum) (Nat.le_refl _) (by omega)
      have hal := attrsT_lies (s := s) _ (i + runN (s.drop i) alnum) (Nat.le_refl _) (by omega)
      have e2 : (tagN s i).2 = (attrsT s (i + runN (s.drop i) alnum)).2 := by rw [tagN_eq]; split <;> rfl
      have e1 : (attrsT s (i + runN (s.drop i) alnum)).1 ≤ (tagN s i).1 := by
        rw [tagN_eq]
        split
        · simp only
          split
          · exact hal.2.1
          · omega
        · exact Nat.le_refl _
      refine After.app (j := (tagN s i).1) ?_ hv hll.1.le hll.2.1 hza
      rw [e2]
      rcases hl1 with e | e
      · exact Or.inl e
      · exact Or.inr (e.wide (by omega) e1)
    obtain ⟨l', hd', _⟩ := h.cons (j := i) (Nat.le_refl _) hzi hd
    rw [if_neg (np l' hd'), if_neg h2, if_pos h3]
    exact ⟨⟨l', hd'⟩, tag_sim hv h hz⟩
  · rw [if_neg h3] at none ⊢
    obtain ⟨rfl, hS, hA, hle, hz'⟩ := none _ rfl
    obtain ⟨l', hd', _⟩ := hS.cons (j := i) (Nat.le_refl _) hA hd
    rw [if_neg (np l' hd'), if_neg h2, if_neg h3]
    exact ⟨⟨l', hd'⟩, rfl, hS⟩
theorem links_sim {s : Bs} : ∀ (n i : Nat) (vals : List Bs) (s' : Bs) (i' : Nat), s.length - i ≤ n → vals.length = (linksA s i).length → Sim s ((linksA s i).zip vals) i s' i' → (linksA s' i').map (·.2.2) = vals
  | n, i, vals, s', i', hn, hv, h => by
    have hi := h.2.1
    have hs := skipN_le s [60] i hi
    cases hd : s.drop (skipN s [60] i) with
    | nil =>
      have e := linksA_end hd
      rw [e] at hv h
      have : vals = [] := List.length_eq_zero_iff.1 hv
      subst this
      have hS := skip_sim (p := [60]) h (Or.inl rfl)
      have hn : s'.drop (skipN s' [60] i') = [] := by rw [hS.same.1, hd]
      rw [linksA_end hn]; rfl
    | cons c l =>
      have hlen := drop_len hd
      have hlt := skipN_lt s [60] i (by omega) (by simp)
      have hll := linkN_lies hd
      have e := linksA_go hi hd
      have hnx := (linksA_lies (s := s) _ (linkN s (skipN s [60] i) c).1 (Nat.le_refl _) hll.2.1).1
      rw [e] at hv h
      rw [List.length_append] at hv
      obtain ⟨v1, v2, rfl, hv1⟩ : ∃ v1 v2, vals = v1 ++ v2 ∧ v1.length = (linkN s (skipN s [60] i) c).2.length := ⟨vals.take (linkN s (skipN s [60] i) c).2.length, vals.drop (linkN s (skipN s [60] i) c).2.length, (List.take_append_drop _ _).symm, by rw [List.length_take]; omega⟩
      rw [List.length_append] at hv
      rw [List.zip_append hv1.symm] at h
      have hlz : lnks ((linksA s (linkN s (skipN s [60] i) c).1).zip v2) = linksA s (linkN s (skipN s [60] i) c).1 := lnks_zip (by omega)
      have hS := skip_sim (p := [60]) h (Or.inr ⟨by omega, by
        rw [lnks_app, lnks_zip hv1, hlz]
        exact hll.1.append hnx⟩)
      obtain ⟨⟨l', hd'⟩, w1, w2⟩ := link_sim hd hv1 hS hlz
      cases n with
      | zero => omega
      | succ n =>
        have hi' := h.2.2
        rw [linksA_go hi' hd', List.map_append, w1]
        have := hll.1.le
        rw [links_sim n _ v2 s' _ (by omega) (by omega) w2]
theorem links_back {s t : Bs} {vals : List Bs} (h : replK s vals = some t) : (linksT t).map (·.2.2) = vals := by
  unfold replK at h
  split at h
  · rename_i hl
    simp at h
    exact links_sim s.length 0 vals t 0 (by omega) hl.symm ⟨by rw [← h]; rfl, Nat.zero_le _, Nat.zero_le _⟩
  · cases h
def dotStep (first last : Bool) (out : List Bs) (s : Bs) : List Bs :=
  if s = [46] ∨ (s = [] ∧ first = false ∧ last = false) then (if last then out ++ [[]] else out)
  else if s = [46, 46] then (if last then (if 1 < out.length ∨ (out.length = 1 ∧ out ≠ [[]]) then out.dropLast else out) ++ [[]] else (if 1 < out.length ∨ (out.length = 1 ∧ out ≠ [[]]) then out.dropLast else out))
  else out ++ [s]
def dotsUpto (l : List Bs) : Nat → List Bs
  | 0 => []
  | k + 1 => dotStep (k == 0) (k + 1 == l.length) (dotsUpto l k) (l.getD k [])
def dotsL (l : List Bs) : List Bs := dotsUpto l l.length
def dotsA (p : Bs) : Bs := Lib.join (dotsL (splitC 47 p)) [47]
theorem dotStep_len (f la : Bool) (o : List Bs) (s : Bs) : (dotStep f la o s).length ≤ o.length + 1 := by
  unfold dotStep
  repeat' split
  all_goals simp
  all_goals omega
theorem dotsUpto_len (l : List Bs) (k : Nat) : (dotsUpto l k).length ≤ k := by
  induction k with
  | zero => simp [dotsUpto]
  | succ k ih => have := dotStep_len (k == 0) (k + 1 == l.length) (dotsUpto l k) (l.getD k []); unfold dotsUpto; omega
theorem dotsUpto_succ {l : List Bs} {k : Nat} (h : k < l.length) : dotsUpto l (k + 1) = dotStep (k == 0) (k + 1 == l.length) (dotsUpto l k) l[k] := by
  show dotStep _ _ _ _ = _
  rw [List.getD_eq_getElem?_getD, List.getElem?_eq_getElem h]; rfl
theorem dotStep_dot (f la : Bool) (o : List Bs) : dotStep f la o [46] = if la then o ++ [[]] else o := by simp [dotStep]
theorem dotStep_gap (o : List Bs) : dotStep false false o [] = o := by simp [dotStep]
theorem dotStep_end (f la : Bool) (o : List Bs) (h : f = true ∨ la = true) : dotStep f la o [] = o ++ [[]] := by
  rcases h with h | h <;> simp [dotStep, h]
def upOf (o : List Bs) : List Bs := if 1 < o.length ∨ (o.length = 1 ∧ o ≠ [[]]) then o.dropLast else o
theorem dotStep_up (f la : Bool) (o : List Bs) : dotStep f la o [46, 46] = if la then upOf o ++ [[]] else upOf o := by simp [dotStep, upOf]
theorem upOf_nil : upOf [] = [] := rfl
theorem upOf_one : upOf [[]] = [[]] := rfl
theorem upOf_pop {o : List Bs} {y : Bs} (h : o ≠ [] ∨ y ≠ []) : upOf (o ++ [y]) = o := by
  unfold upOf
  rw [if_pos, List.dropLast_concat]
  cases o with
  | nil => right; simpa using h
  | cons x o => left; simp
theorem dotStep_else (f la : Bool) (o : List Bs) (s : Bs) (h1 : s ≠ [46]) (h2 : s ≠ []) (h3 : s ≠ [46, 46]) : dotStep f la o s = o ++ [s] := by simp [dotStep, h1, h2, h3]
theorem dotStep_lens (f la : Bool) (o : List Bs) (s : Bs) : Lib.lens (dotStep f la o s) ≤ Lib.lens o + s.length := by
  have hd : Lib.lens o.dropLast ≤ Lib.lens o := by rw [List.dropLast_eq_take]; exact Lib.lens_take_le _ _
  have ha : ∀ (x y : List Bs), Lib.lens (x ++ y) = Lib.lens x + Lib.lens y := fun x y => by simp [Lib.lens]
  have h1 : Lib.lens [([] : Bs)] = 0 := rfl
  have h2 : ∀ s : Bs, Lib.lens [s] = s.length := fun s => by simp [Lib.lens]
  unfold dotStep
  repeat' split
  all_goals try simp only [ha, h1, h2]
  all_goals omega
theorem dotsUpto_lens (l : List Bs) (k : Nat) (hk : k ≤ l.length) : Lib.lens (dotsUpto l k) ≤ Lib.lens (l.take k) := by
  induction k with
  | zero => simp [dotsUpto, Lib.lens]
  | succ k ih =>
    have h := dotStep_lens (k == 0) (k + 1 == l.length) (dotsUpto l k) (l[k]'(by omega))
    rw [dotsUpto_succ (by omega), Lib.lens_take_succ l k (l[k]'(by omega)) (List.getElem?_eq_getElem (by omega))]
    have := ih (by omega)
    omega
theorem splitC_lens (c : UInt8) (l : Bs) : Lib.lens (splitC c l) + (splitC c l).length = l.length + 1 := by
  induction l with
  | nil => rfl
  | cons x l ih =>
    unfold splitC
    by_cases h : x = c
    · subst h; simp [Lib.lens] at *; omega
    · simp only [h, if_false]
      split
      · rename_i e; exact absurd e (splitC_ne c l)
      · rename_i hd t e; rw [e] at ih; simp [Lib.lens] at *; omega
theorem dotsA_len (p : Bs) : (dotsA p).length ≤ 2 * p.length + 2 := by
  unfold dotsA dotsL
  have h1 := dotsUpto_lens (splitC 47 p) _ (Nat.le_refl _)
  have h2 := splitC_lens 47 p
  have h3 := dotsUpto_len (splitC 47 p) (splitC 47 p).length
  rw [List.take_length] at h1
  cases h : dotsUpto (splitC 47 p) (splitC 47 p).length with
  | nil => simp [Lib.join_nil]
  | cons x r =>
    rw [h] at h1 h3
    rw [Lib.join_length]
    simp at *
    omega
def dirOf (p : Bs) : Bs := p.take (Lib.lastIndexByte ⟨p.toArray⟩ 47 + 1).toNat
def ahead (b : Addr) : Bs := if b.hasAuth && b.path.isEmpty then [47] else dirOf b.path
def resolveA (b a : Addr) : Addr :=
  if a.scheme ≠ [] then { a with path := dotsA a.path }
  else if a.hasAuth then { a with scheme := b.scheme, path := dotsA a.path }
  else match a.path with
    | [] => ⟨b.scheme, b.hasAuth, b.auth, b.path, if a.hasQuery then true else b.hasQuery, if a.hasQuery then a.query else b.query, a.hasFrag, a.frag⟩
    | c :: l => if c = 47 then ⟨b.scheme, b.hasAuth, b.auth, dotsA (c :: l), a.hasQuery, a.query, a.hasFrag, a.frag⟩
      else ⟨b.scheme, b.hasAuth, b.auth, dotsA (ahead b ++ c :: l), a.hasQuery, a.query, a.hasFrag, a.frag⟩
theorem lastIdx_le (s : ByteArray) (c : Int) : ∀ k : Nat, -1 ≤ Lib.lastIdx s c k ∧ Lib.lastIdx s c k < k
  | 0 => by simp [Lib.lastIdx]
  | k + 1 => by
    unfold Lib.lastIdx
    have := lastIdx_le s c k
    split <;> omega
theorem lastIndexByte_le (l : Bs) (c : Int) : -1 ≤ Lib.lastIndexByte ⟨l.toArray⟩ c ∧ Lib.lastIndexByte ⟨l.toArray⟩ c < l.length := lastIdx_le _ c l.length
theorem ahead_len (b : Addr) : (ahead b).length ≤ b.path.length + 1 := by
  unfold ahead dirOf
  split
  · simp
  · simp; omega
theorem contains_iff {x p : Bs} : Lib.contains x p = true ↔ p <:+: x := by
  constructor
  · intro h
    rw [contains_cutP] at h
    cases hc : cutP p x with
    | none => rw [hc] at h; cases h
    | some y =>
      obtain ⟨a, b⟩ := y
      exact ⟨a, b, (cutP_some hc).symm⟩
  · rintro ⟨u, t, h⟩
    cases hc : Lib.contains x p with
    | true => rfl
    | false =>
      rw [← h, List.append_assoc] at hc
      have h1 := contains_suf u _ hc
      have h2 : Lib.hasPrefix (p ++ t) p = true := by
        unfold Lib.hasPrefix
        exact List.isPrefixOf_iff_prefix.2 ⟨t, rfl⟩
      rw [contains_pre h2] at h1; cases h1
def NoE (e x : Bs) : Prop := ¬ e <:+: x
theorem NoE.of {e x y : Bs} (h : NoE e x) (hy : y <:+: x) : NoE e y := fun he => h (he.trans hy)
theorem NoE.nil {e : Bs} (he : e ≠ []) : NoE e [] := fun h => he (List.infix_nil.1 h)
theorem infix_cut {e a b : Bs} (h47 : (47 : UInt8) ∉ e) (h : e <:+: a ++ 47 :: b) : e <:+: a ∨ e <:+: b := by
  obtain ⟨u, t, h⟩ := h
  rcases List.append_eq_append_iff.1 h with ⟨c, h1, h2⟩ | ⟨c, h1, h2⟩
  · -- u ++ e ++ c = a
    exact Or.inl ⟨u, c, h1.symm⟩
  · -- u ++ e = a ++ c
    cases c with
    | nil => exact Or.inl ⟨u, [], by rw [List.append_nil] at h1 ⊢; exact h1⟩
    | cons y c =>
      rw [List.cons_append] at h2
      injection h2 with hy h2
      subst hy
      rcases List.append_eq_append_iff.1 h1 with ⟨d, g1, g2⟩ | ⟨d, g1, g2⟩
      · exact absurd (by rw [g2]; simp) h47
      · cases d with
        | nil => exact absurd (by rw [List.nil_append] at g2; rw [← g2]; simp) h47
        | cons z d =>
          rw [List.cons_append] at g2
          injection g2 with _ g2
          exact Or.inr ⟨d, t, by rw [h2, g2]⟩
theorem join_cons2 (x y : Bs) (r : List Bs) (p : Bs) : Lib.join (x :: y :: r) p = x ++ (p ++ Lib.join (y :: r) p) := by
  rw [Lib.join_cons, Lib.join_cons]; simp [Lib.joinTail]
theorem infix_join {e : Bs} (he : e ≠ []) (h47 : (47 : UInt8) ∉ e) : ∀ l : List Bs, e <:+: Lib.join l [47] → ∃ s ∈ l, e <:+: s
  | [], h => by rw [Lib.join_nil] at h; exact absurd (List.infix_nil.1 h) he
  | [x], h => by rw [Lib.join_one] at h; exact ⟨x, by simp, h⟩
  | x :: y :: r, h => by
    rw [join_cons2] at h
    rcases infix_cut h47 h with h | h
    · exact ⟨x, by simp, h⟩
    · obtain ⟨s, hs, h⟩ := infix_join he h47 (y :: r) h
      exact ⟨s, List.mem_cons_of_mem _ hs, h⟩
theorem dotStep_mem {f la : Bool} {o : List Bs} {s x : Bs} (h : x ∈ dotStep f la o s) : x = [] ∨ x = s ∨ x ∈ o := by
  unfold dotStep at h
  split at h
  · split at h
    · rcases List.mem_append.1 h with h | h
      · exact Or.inr (Or.inr h)
      · exact Or.inl (List.mem_singleton.1 h)
    · exact Or.inr (Or.inr h)
  split at h
  · have key : ∀ y, y ∈ (if 1 < o.length ∨ (o.length = 1 ∧ o ≠ [[]]) then o.dropLast else o) → y ∈ o := by
      intro y hy
      split at hy
      · exact (List.dropLast_sublist o).subset hy
      · exact hy
    split at h
    · rcases List.mem_append.1 h with h | h
      · exact Or.inr (Or.inr (key _ h))
      · exact Or.inl (List.mem_singleton.1 h)
    · exact Or.inr (Or.inr (key _ h))
  · rcases List.mem_append.1 h with h | h
    · exact Or.inr (Or.inr h)
    · exact Or.inr (Or.inl (List.mem_singleton.1 h))
theorem dotsUpto_mem {l : List Bs} {x : Bs} : ∀ k, x ∈ dotsUpto l k → x = [] ∨ x ∈ l
  | 0, h => by cases h
  | k + 1, h => by
    unfold dotsUpto at h
    rcases dotStep_mem h with h | h | h
    · exact Or.inl h
    · rcases Nat.lt_or_ge k l.length with hk | hk
      · rw [List.getD_eq_getElem?_getD, List.getElem?_eq_getElem hk] at h
        exact Or.inr (h ▸ List.getElem_mem hk)
      · rw [List.getD_eq_getElem?_getD, List.getElem?_eq_none hk] at h
        exact Or.inl h
    · exact dotsUpto_mem k h
theorem splitC_first {c : UInt8} : ∀ {l h : Bs} {t : List Bs}, splitC c l = h :: t → h <+: l
  | [], h, t, e => by simp [splitC] at e; rw [e.1]; exact List.prefix_rfl
  | x :: l, h, t, e => by
    unfold splitC at e
    split at e
    · injection e with e _; rw [← e]; exact List.nil_prefix
    · split at e
      · rename_i e2; exact absurd e2 (splitC_ne c l)
      · rename_i hd tl e2
        injection e with e _
        rw [← e]
        exact (List.prefix_cons_inj x).2 (splitC_first e2)
theorem splitC_infix {c : UInt8} : ∀ {l s : Bs}, s ∈ splitC c l → s <:+: l
  | [], s, h => by simp [splitC] at h; rw [h]; exact List.infix_rfl
  | x :: l, s, h => by
    unfold splitC at h
    split at h
    · rcases List.mem_cons.1 h with h | h
      · rw [h]; exact List.nil_infix
      · exact (splitC_infix h).trans (List.suffix_cons x l).isInfix
    · split at h
      · rename_i e2; exact absurd e2 (splitC_ne c l)
      · rename_i hd tl e2
        rcases List.mem_cons.1 h with h | h
        · rw [h]
          exact ((List.prefix_cons_inj x).2 (splitC_first e2)).isInfix
        · exact (splitC_infix (l := l) (by rw [e2]; exact List.mem_cons_of_mem _ h)).trans (List.suffix_cons x l).isInfix
def SgnOk (e : Bs) : Prop := e ≠ [] ∧ ∀ c ∈ e, c ≠ 47 ∧ c ≠ 38 ∧ c ≠ 34 ∧ c ≠ 39 ∧ c ≠ 60 ∧ c ≠ 62
theorem SgnOk.no {e : Bs} (h : SgnOk e) : (47 : UInt8) ∉ e := fun hm => (h.2 _ hm).1 rfl
theorem NoE.dots {e p : Bs} (he : SgnOk e) (h : NoE e p) : NoE e (dotsA p) := by
  intro hi
  obtain ⟨s, hs, hi⟩ := infix_join he.1 he.no _ hi
  rcases dotsUpto_mem _ hs with rfl | hs
  · exact NoE.nil he.1 hi
  · exact h (hi.trans (splitC_infix hs))
theorem lastIdx_is (s : ByteArray) (c : Int) : ∀ k : Nat, 0 ≤ Lib.lastIdx s c k → ((s.data[(Lib.lastIdx s c k).toNat]!).toNat : Int) = c
  | 0, h => by simp [Lib.lastIdx] at h
  | k + 1, h => by
    unfold Lib.lastIdx at h ⊢
    split
    · rename_i hc
      simpa using hc
    · rename_i hc
      rw [if_neg hc] at h
      exact lastIdx_is s c k h
theorem dirOf_end (p : Bs) : dirOf p = [] ∨ ∃ q, dirOf p = q ++ [47] ∧ q <+: p := by
  unfold dirOf
  have hle := lastIndexByte_le p 47
  by_cases h : Lib.lastIndexByte ⟨p.toArray⟩ 47 < 0
  · left
    rw [show (Lib.lastIndexByte ⟨p.toArray⟩ 47 + 1).toNat = 0 by omega]; rfl
  · right
    have hi := lastIdx_is ⟨p.toArray⟩ 47 p.length (by
      have : Lib.lastIndexByte ⟨p.toArray⟩ 47 = Lib.lastIdx ⟨p.toArray⟩ 47 p.length := rfl
      omega)
    have e : Lib.lastIdx ⟨p.toArray⟩ 47 p.length = Lib.lastIndexByte ⟨p.toArray⟩ 47 := rfl
    rw [e] at hi
    generalize Lib.lastIndexByte ⟨p.toArray⟩ 47 = kz at hi hle h ⊢
    obtain ⟨k, rfl⟩ : ∃ k : Nat, kz = (k : Int) := ⟨kz.toNat, by omega⟩
    rw [Int.toNat_natCast] at hi
    have hk : k < p.length := by omega
    have h47 : p[k] = 47 := by
      have e2 : (⟨p.toArray⟩ : ByteArray).data[k]! = p[k] := by
        show p.toArray[k]! = p[k]
        rw [List.getElem!_toArray]
        exact getElem!_pos p k hk
      rw [e2] at hi
      exact UInt8.toNat_inj.1 (by exact_mod_cast hi)
    refine ⟨p.take k, ?_, List.take_prefix _ _⟩
    rw [show ((k : Int) + 1).toNat = k + 1 by omega, List.take_succ_eq_append_getElem hk, h47]
theorem NoE.resolve {e : Bs} {b a : Addr} (he : SgnOk e) (hb : NoE e b.path) (ha : NoE e a.path) : NoE e (resolveA b a).path := by
  unfold resolveA
  split
  · exact ha.dots he
  split
  · exact ha.dots he
  split
  · exact hb
  · rename_i c l hp
    split
    · rw [← hp]; exact ha.dots he
    · rw [← hp]
      refine NoE.dots he ?_
      unfold ahead
      split
      · intro hi
        rcases infix_cut (a := []) he.no hi with h | h
        · exact NoE.nil he.1 h
        · exact ha h
      · rcases dirOf_end b.path with h | ⟨q, h, hq⟩
        · rw [h]; exact ha
        · rw [h, List.append_assoc]
          intro hi
          rcases infix_cut he.no hi with h | h
          · exact hb (h.trans hq.isInfix)
          · exact ha h
theorem cut_cases (l : Bs) (c : UInt8) : (c ∉ l ∧ Lib.cut l [c] = (l, [], false)) ∨ ∃ a b, l = a ++ c :: b ∧ c ∉ a ∧ Lib.cut l [c] = (a, b, true) := by
  cases h : cutP [c] l with
  | none => exact Or.inl ⟨cutC_none.1 h, by rw [cut_cutP, h]⟩
  | some x =>
    obtain ⟨a, b⟩ := x
    obtain ⟨e, hn⟩ := cutC_some h
    exact Or.inr ⟨a, b, e, hn, by rw [cut_cutP, h]⟩
theorem cut_infix (l : Bs) (c : UInt8) : (Lib.cut l [c]).1 <:+: l ∧ (Lib.cut l [c]).2.1 <:+: l := by
  rcases cut_cases l c with ⟨_, e⟩ | ⟨a, b, e1, _, e⟩
  · rw [e]; exact ⟨List.infix_rfl, List.nil_infix⟩
  · rw [e, e1]
    exact ⟨⟨[], c :: b, rfl⟩, ⟨a ++ [c], [], by simp⟩⟩
theorem parseScheme_infix (l : Bs) : (parseScheme l).2 <:+: l := by
  unfold parseScheme
  cases hc : cutP [58] l with
  | none => exact List.infix_rfl
  | some x =>
    obtain ⟨a, b⟩ := x
    simp only
    split
    · have e := (cutC_some hc).1
      rw [e]
      exact ⟨a ++ [58], [], by simp⟩
    · exact List.infix_rfl
theorem parseAuth_infix (l : Bs) : (parseAuth l).2.2 <:+: l := by
  unfold parseAuth
  split
  · cases hc : cutP [47] (l.drop 2) with
    | none => exact List.nil_infix
    | some x =>
      obtain ⟨a, b⟩ := x
      have e := (cutC_some hc).1
      exact (show (47 :: b) <:+: l.drop 2 from ⟨a, [], by rw [e]; simp⟩).trans (List.drop_suffix 2 l).isInfix
  · exact List.infix_rfl
theorem read_path {v : Bs} {a : Addr} (h : readA v = some a) : a.path <:+: v ∧ a.frag <:+: v ∧ v.all okB = true := by
  unfold readA at h
  split at h
  · rename_i hall
    simp at h
    subst h
    refine ⟨?_, (cut_infix v 35).2, hall⟩
    show (parseAuth (parseScheme (Lib.cut (Lib.cut v [35]).1 [63]).1).2).2.2 <:+: v
    exact (((parseAuth_infix _).trans (parseScheme_infix _)).trans (cut_infix _ 63).1).trans (cut_infix v 35).1
  · cases h
theorem sig_one : ∀ j, j < 5 → ∃ c, (sigT.getD j ([], [])).1 = [c] ∧ (c = 38 ∨ c = 34 ∨ c = 39 ∨ c = 60 ∨ c = 62) := by
  intro j hj
  rcases (show j = 0 ∨ j = 1 ∨ j = 2 ∨ j = 3 ∨ j = 4 by omega) with rfl | rfl | rfl | rfl | rfl
  · exact ⟨38, rfl, by decide⟩
  · exact ⟨34, rfl, by decide⟩
  · exact ⟨39, rfl, by decide⟩
  · exact ⟨60, rfl, by decide⟩
  · exact ⟨62, rfl, by decide⟩
theorem sigI_lt {s : Bs} {j : Nat} (h : sigI s = some j) : j < 5 := by
  unfold sigI at h
  have := (List.findIdx?_eq_some_iff_getElem.1 h).1
  exact this
theorem unesc_step (k : Nat) (l : Bs) (hl : l ≠ []) : ∃ c l', unescF (k + 1) l = c :: unescF k l' ∧ (l = c :: l' ∨ ((c = 38 ∨ c = 34 ∨ c = 39 ∨ c = 60 ∨ c = 62) ∧ l' <:+ l)) := by
  cases l with
  | nil => exact absurd rfl hl
  | cons c l =>
    have e : unescF (k + 1) (c :: l) = match sigI (c :: l) with
        | none => (c :: l).take 1 ++ unescF k ((c :: l).drop 1)
        | some j => (sigT.getD j ([], [])).1 ++ unescF k ((c :: l).drop (sigT.getD j ([], [])).2.length) := by
      conv => lhs; unfold unescF
      rw [if_neg hl]
      cases sigI (c :: l) <;> rfl
    rw [e]
    cases hs : sigI (c :: l) with
    | none => exact ⟨c, l, rfl, Or.inl rfl⟩
    | some j =>
      obtain ⟨d, h1, h2⟩ := sig_one j (sigI_lt hs)
      refine ⟨d, (c :: l).drop (sigT.getD j ([], [])).2.length, ?_, Or.inr ⟨h2, List.drop_suffix _ _⟩⟩
      simp only
      rw [h1]; rfl
theorem unesc_pre {e : Bs} : ∀ (k : Nat) (l : Bs), (∀ c ∈ e, c ≠ 47 ∧ c ≠ 38 ∧ c ≠ 34 ∧ c ≠ 39 ∧ c ≠ 60 ∧ c ≠ 62) → e <+: unescF k l → e <+: l := by
  induction e with
  | nil => intro k l _ _; exact List.nil_prefix
  | cons x e ih =>
    intro k l he h
    cases k with
    | zero => simp [unescF] at h
    | succ k =>
      by_cases hl : l = []
      · subst hl; simp [unescF] at h
      · obtain ⟨c, l', h1, h2⟩ := unesc_step k l hl
        rw [h1, List.cons_prefix_cons] at h
        obtain ⟨rfl, h⟩ := h
        have hx := he x (List.mem_cons_self ..)
        rcases h2 with rfl | ⟨h2, _⟩
        · rw [List.cons_prefix_cons]
          exact ⟨rfl, ih k l' (fun c hc => he c (List.mem_cons_of_mem _ hc)) h⟩
        · exfalso
          rcases h2 with h2 | h2 | h2 | h2 | h2
          · exact hx.2.1 h2
          · exact hx.2.2.1 h2
          · exact hx.2.2.2.1 h2
          · exact hx.2.2.2.2.1 h2
          · exact hx.2.2.2.2.2 h2
theorem unesc_infix {e : Bs} (he : SgnOk e) : ∀ (k : Nat) (l : Bs), e <:+: unescF k l → e <:+: l
  | 0, l, h => by simp only [unescF] at h; exact absurd (List.infix_nil.1 h) he.1
  | k + 1, l, h => by
    by_cases hl : l = []
    · subst hl
      have : unescF (k + 1) [] = [] := by simp [unescF]
      rwa [this] at h
    · obtain ⟨c, l', h1, h2⟩ := unesc_step k l hl
      by_cases hp : e <+: unescF (k + 1) l
      · exact (unesc_pre (k + 1) l he.2 hp).isInfix
      · rw [h1] at h hp
        rw [List.infix_cons_iff] at h
        have ih := unesc_infix he k l' (h.resolve_left hp)
        rcases h2 with rfl | ⟨_, h2⟩
        · exact ih.trans (List.suffix_cons c l').isInfix
        · exact ih.trans h2.isInfix
theorem NoE.unesc {e l : Bs} (he : SgnOk e) (h : NoE e l) : NoE e (unescT l) := fun hi => h (unesc_infix he _ l hi)
def LkOk (s : Bs) (l : List Lnk) : Prop := ∀ x ∈ l, ∃ y, y <:+: s ∧ x.2.2 = unescT y
theorem LkOk.nil (s : Bs) : LkOk s [] := fun x h => by cases h
theorem LkOk.app {s : Bs} {l m : List Lnk} (h : LkOk s l) (h' : LkOk s m) : LkOk s (l ++ m) := fun x hx => (List.mem_append.1 hx).elim (h x) (h' x)
theorem valueN_lk (s name : Bs) (i : Nat) : LkOk s (valueN s name i).2.2 := by
  cases hd : s.drop i with
  | nil =>
    unfold valueN
    rw [hd]; exact LkOk.nil s
  | cons c l =>
    have h1 : (c :: l) <:+: s := by rw [← hd]; exact (List.drop_suffix i s).isInfix
    cases hq : quoB c with
    | true =>
      rw [valueN_q hd hq]
      split
      · exact LkOk.nil s
      · simp only
        split
        · intro x hx
          rw [List.mem_singleton.1 hx]
          exact ⟨_, ((List.take_prefix _ _).isInfix.trans (List.suffix_cons c l).isInfix).trans h1, rfl⟩
        · exact LkOk.nil s
    | false =>
      rw [valueN_u hd hq]
      split
      · exact LkOk.nil s
      · simp only
        split
        · intro x hx
          rw [List.mem_singleton.1 hx]
          exact ⟨_, (List.take_prefix _ _).isInfix.trans h1, rfl⟩
        · exact LkOk.nil s
theorem attrN_lk (s : Bs) (i : Nat) : LkOk s (attrN s i).2.2 := by
  rw [attrN_front]
  cases front s i with
  | stop j => exact LkOk.nil s
  | bare d => exact LkOk.nil s
  | val n d => exact valueN_lk s n _
theorem attrsF_lk (s : Bs) : ∀ f i, LkOk s (attrsF s f i).2
  | 0, _ => LkOk.nil s
  | f + 1, i => by
    have ha := attrN_lk s i
    unfold attrsF
    rcases he : attrN s i with ⟨b, j, l⟩
    rw [he] at ha
    cases b with
    | false => exact ha
    | true => exact ha.app (attrsF_lk s f j)
theorem tagN_lk (s : Bs) (i : Nat) : LkOk s (tagN s i).2 := by
  rw [tagN_eq]
  have := attrsF_lk s (s.length + 1) (i + runN (s.drop i) alnum)
  split
  · exact this
  · exact this
theorem linksF_lk (s : Bs) : ∀ f i, LkOk s (linksF s f i)
  | 0, _ => LkOk.nil s
  | f + 1, i => by
    cases hd : s.drop (skipN s [60] i) with
    | nil => rw [linksF_end hd]; exact LkOk.nil s
    | cons c l =>
      rw [linksF_go hd]
      refine LkOk.app ?_ (linksF_lk s f _)
      unfold linkN
      split
      · exact LkOk.nil s
      split
      · exact LkOk.nil s
      split
      · exact tagN_lk s _
      · exact LkOk.nil s
theorem linksT_lk (s : Bs) : LkOk s (linksT s) := linksF_lk s _ 0
end Go.Proofs.YtignjjnflcpiiaaGreatDoor
namespace Go.Proofs.YtignjjnflcpiiaaGreatDoor
open Go Go.RowKit
def wholeA (a : Addr) : Addr := ⟨lowS a.scheme, a.hasAuth, lowS a.auth, a.path, a.hasQuery, a.query, false, []⟩
set_option maxHeartbeats 1000000 in
set_option maxRecDepth 100000 in
theorem addrWhole_any (a : Addr) (w : World) (h1 : a.scheme.length ≤ 140737488355328) (h2 : a.auth.length ≤ 140737488355328) :
    Calls Tryz.prog 62 #[a.val] w fun e w' => e = .returned (wholeA a).val ∧ Below w.heap.size w w' := by
  obtain ⟨s, ha, u, p, hq, q, hf, f⟩ := a
  simp only at h1 h2
  go_enter Tryz.func62, Tryz.ntmps62
  go_upto_region 1 with fail
  go_cut [2] (fun s2 wx => s2 = .pointer (some ⟨w.heap.size + 1, 0, none⟩) ∧ Blk wx w.heap.size (Addr.cells ⟨s, ha, u, p, hq, q, false, []⟩) 36 ∧ Blk wx (w.heap.size + 1) zCells 36 ∧ Below w.heap.size w wx)
  case first =>
    have r1 := ((((Blk.new w (Addr.cells ⟨s, ha, u, p, hq, q, hf, f⟩) 36).alloc (.cells zCells 36)).set 6 (.bool false)).set 7 (.string ⟨#[]⟩))
    go_wp2_with fail
    go_meet
    refine ⟨rfl, ?_, ?_, by go_grown⟩
    · exact (Blk.new w (Addr.cells ⟨s, ha, u, p, hq, q, false, []⟩) 36).alloc _
    · have h := Blk.new (w.alloc (.cells (Addr.cells ⟨s, ha, u, p, hq, q, false, []⟩) 36)) zCells 36
      rw [World.size_alloc] at h
      exact h
  case rest =>
    obtain ⟨rfl, r1, r2, B⟩ := hcut
    obtain ⟨w1, rfl⟩ : ∃ w1 : World, w1 = wc := ⟨_, rfl⟩
    go_upto_region 2 with fail
    go_cut [2] (fun s2 wx => s2 = .pointer (some ⟨w.heap.size + 1, 0, none⟩) ∧ Blk wx w.heap.size (Addr.cells ⟨lowS s, ha, lowS u, p, hq, q, false, []⟩) 36 ∧ Blk wx (w.heap.size + 1) zCells 36 ∧ Below w.heap.size w wx)
    case first =>
      have rc := r1.cell
      have rf := r1.free
      have hlt := r1.lt
      go_region_with ((refine (small_any _ _ (by assumption)).mono ?_); (rintro e w2 ⟨rfl, hb⟩); (have K := belowStep hb (w0 := w1) (by repeat (first | exact Below.refl _ _ | assumption | refine Below.drew ?_))); (have rc := (r1.next K hlt).cell); (have rf := (r1.next K hlt).free))
      all_goals go_wp2_with fail
      all_goals
        go_meet
        refine ⟨rfl, ((r1.next K hlt).set 0 (.string ⟨(lowS s).toArray⟩)).set 2 (.string ⟨(lowS u).toArray⟩), ((r2.next K r2.lt).setO (a := ⟨w.heap.size, 0, none⟩) (by simp) (.string ⟨(lowS s).toArray⟩)).setO (a := ⟨w.heap.size, 2, none⟩) (by simp) (.string ⟨(lowS u).toArray⟩), ?_⟩
        have KK := B.trans (K.mono B.size)
        go_grown
    case rest =>
      obtain ⟨rfl, r1, r2, B⟩ := hcut
      have rc := r1.cell
      have r2f := r2.free
      have r2c := r2.cell
      have hlt := r2.lt
      go_wp2_with fail
      refine bodyPost_ret (v := (wholeA ⟨s, ha, u, p, hq, q, hf, f⟩).val) (by simp [results, Tryz.results62, go_sem, wholeA, r2c]) rfl ⟨rfl, by go_grown⟩
end Go.Proofs.YtignjjnflcpiiaaGreatDoor
