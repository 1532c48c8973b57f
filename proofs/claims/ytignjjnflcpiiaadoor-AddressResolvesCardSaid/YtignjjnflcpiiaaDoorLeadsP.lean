/-
  The plain law of where addresses lead: what is read is written back; where one leads may be, and leads there again. No program, no condition.
-/
import Derived.Test.YtignjjnflcpiiaaDoorResP
import Derived.Test.YtignjjnflcpiiaaDoorAddrRight
import Derived.Test.YtignjjnflcpiiaaDoorAddrWhole
namespace Go.Proofs.YtignjjnflcpiiaaDoor
open Go

/-! ### Cutting -/

theorem cut_no {l : Bs} {c : UInt8} (h : c ∉ l) : Lib.cut l [c] = (l, [], false) := by rw [cut_cutP, cutC_none.2 h]
theorem cut_yes {a b : Bs} {c : UInt8} (h : c ∉ a) : Lib.cut (a ++ c :: b) [c] = (a, b, true) := by rw [cut_cutP, cutC_mk h]
theorem cut_cases (l : Bs) (c : UInt8) : (c ∉ l ∧ Lib.cut l [c] = (l, [], false)) ∨ ∃ a b, l = a ++ c :: b ∧ c ∉ a ∧ Lib.cut l [c] = (a, b, true) := by
  cases h : cutP [c] l with
  | none => exact Or.inl ⟨cutC_none.1 h, by rw [cut_cutP, h]⟩
  | some x =>
    obtain ⟨a, b⟩ := x
    obtain ⟨e, hn⟩ := cutC_some h
    exact Or.inr ⟨a, b, e, hn, by rw [cut_cutP, h]⟩
theorem parseScheme_cases (l : Bs) : parseScheme l = ([], l) ∨ ∃ a b, l = a ++ 58 :: b ∧ a ≠ [] ∧ schemeB a = true ∧ parseScheme l = (a, b) := by
  cases h : hasScheme l with
  | false => exact Or.inl (parseScheme_no h)
  | true =>
    right
    unfold hasScheme at h
    cases hc : cutP [58] l with
    | none => rw [hc] at h; cases h
    | some x =>
      obtain ⟨a, b⟩ := x
      rw [hc] at h
      simp only at h
      obtain ⟨e, hn⟩ := cutC_some hc
      have h' := h
      rw [Bool.and_eq_true] at h'
      refine ⟨a, b, e, by simpa using h'.1, h'.2, ?_⟩
      unfold parseScheme
      rw [hc]; simp only; rw [if_pos h]
theorem parseAuth_cases (l : Bs) : ((¬ ∃ r, l = 47 :: 47 :: r) ∧ parseAuth l = (false, [], l)) ∨ ∃ r, l = 47 :: 47 :: r ∧ ((47 ∉ r ∧ parseAuth l = (true, r, [])) ∨ ∃ a b, r = a ++ 47 :: b ∧ 47 ∉ a ∧ parseAuth l = (true, a, 47 :: b)) := by
  by_cases h : Lib.hasPrefix l [47, 47] = true
  · right
    have e := isPrefixOf_append _ _ h
    simp only [List.length_cons, List.length_nil] at e
    refine ⟨l.drop 2, e, ?_⟩
    unfold parseAuth
    rw [if_pos h]
    cases hc : cutP [47] (l.drop 2) with
    | none => exact Or.inl ⟨cutC_none.1 hc, rfl⟩
    | some x =>
      obtain ⟨a, b⟩ := x
      obtain ⟨e2, hn⟩ := cutC_some hc
      exact Or.inr ⟨a, b, e2, hn, rfl⟩
  · refine Or.inl ⟨?_, parseAuth_no h⟩
    rintro ⟨r, rfl⟩
    exact h (by simp [Lib.hasPrefix, List.isPrefixOf])

/-! ### Addresses that may be -/

structure WF (a : Addr) : Prop where
  sch : a.scheme = [] ∨ schemeB a.scheme = true
  okS : ∀ x ∈ a.scheme, okB x = true
  okU : ∀ x ∈ a.auth, okB x = true ∧ x ≠ 47 ∧ x ≠ 63 ∧ x ≠ 35
  okP : ∀ x ∈ a.path, okB x = true ∧ x ≠ 63 ∧ x ≠ 35
  okQ : ∀ x ∈ a.query, okB x = true ∧ x ≠ 35
  okF : ∀ x ∈ a.frag, okB x = true
  noU : a.hasAuth = false → a.auth = []
  noQ : a.hasQuery = false → a.query = []
  noF : a.hasFrag = false → a.frag = []
  pathU : a.hasAuth = true → a.path = [] ∨ ∃ l, a.path = 47 :: l
  pathN : a.hasAuth = false → ¬ ∃ l, a.path = 47 :: 47 :: l

theorem schemeL_ok : ∀ x ∈ schemeL, okB x = true ∧ x ≠ 35 ∧ x ≠ 63 ∧ x ≠ 58 ∧ x ≠ 47 := by decide
theorem schemeB_mem {l : Bs} (h : schemeB l = true) : ∀ x ∈ l, x ∈ schemeL := by
  cases l with
  | nil => intro x hx; cases hx
  | cons c l =>
    unfold schemeB at h
    rw [Bool.and_eq_true] at h
    intro x hx
    have := List.all_eq_true.1 h.2 x hx
    simpa using this
theorem schemeB_ne {l : Bs} (h : schemeB l = true) : l ≠ [] := by rintro rfl; cases h

theorem read_some {s : Bs} {x : Addr} (h : readA s = some x) : s.all okB = true ∧ x = parseA s := by
  unfold readA at h
  split at h
  · rename_i h'; exact ⟨h', by injection h with h; exact h.symm⟩
  · cases h

theorem read_WF {s : Bs} {x : Addr} (h : readA s = some x) : WF x ∧ writeA x = s := by
  obtain ⟨hok, rfl⟩ := read_some h
  have hok' : ∀ y ∈ s, okB y = true := fun y hy => List.all_eq_true.1 hok y hy
  clear h hok
  -- the fragment
  obtain ⟨s1, f, hf, e1, hs1, hfN, h1⟩ : ∃ s1 f hf, Lib.cut s [35] = (s1, f, hf) ∧ 35 ∉ s1 ∧ (hf = false → f = []) ∧ s = s1 ++ bits hf (35 :: f) := by
    rcases cut_cases s 35 with ⟨hn, e⟩ | ⟨a, b, rfl, hn, e⟩
    · exact ⟨_, _, _, e, hn, fun _ => rfl, by simp [bits]⟩
    · exact ⟨_, _, _, e, hn, (fun h => by cases h), by simp [bits]⟩
  obtain ⟨s2, q, hq, e2, hs2, hqN, h2⟩ : ∃ s2 q hq, Lib.cut s1 [63] = (s2, q, hq) ∧ 63 ∉ s2 ∧ (hq = false → q = []) ∧ s1 = s2 ++ bits hq (63 :: q) := by
    rcases cut_cases s1 63 with ⟨hn, e⟩ | ⟨a, b, rfl, hn, e⟩
    · exact ⟨_, _, _, e, hn, fun _ => rfl, by simp [bits]⟩
    · exact ⟨_, _, _, e, hn, (fun h => by cases h), by simp [bits]⟩
  obtain ⟨sc, s3, e3, hsc, h3⟩ : ∃ sc s3, parseScheme s2 = (sc, s3) ∧ (sc = [] ∨ schemeB sc = true) ∧ s2 = bits (!sc.isEmpty) (sc ++ [58]) ++ s3 := by
    rcases parseScheme_cases s2 with e | ⟨a, b, rfl, ha, hb, e⟩
    · exact ⟨_, _, e, Or.inl rfl, by simp [bits]⟩
    · refine ⟨_, _, e, Or.inr hb, ?_⟩
      have : a.isEmpty = false := by cases a <;> simp at *
      simp [bits, this]
  obtain ⟨ha, u, p, e4, hu, huN, hpU, hpN, h4⟩ : ∃ ha u p, parseAuth s3 = (ha, u, p) ∧ 47 ∉ u ∧ (ha = false → u = []) ∧ (ha = true → p = [] ∨ ∃ l, p = 47 :: l) ∧ (ha = false → ¬ ∃ l, p = 47 :: 47 :: l) ∧ s3 = bits ha (47 :: 47 :: u) ++ p := by
    rcases parseAuth_cases s3 with ⟨hn, e⟩ | ⟨r, rfl, ⟨hn, e⟩ | ⟨a, b, rfl, hn, e⟩⟩
    · exact ⟨_, _, _, e, by simp, fun _ => rfl, (fun h => by cases h), fun _ => hn, by simp [bits]⟩
    · exact ⟨_, _, _, e, hn, (fun h => by cases h), fun _ => Or.inl rfl, (fun h => by cases h), by simp [bits]⟩
    · exact ⟨_, _, _, e, hn, (fun h => by cases h), fun _ => Or.inr ⟨_, rfl⟩, (fun h => by cases h), by simp [bits]⟩
  rw [parseA_eq e1 e2 e3 e4]
  have hw : writeA ⟨sc, ha, u, p, hq, q, hf, f⟩ = s := by
    rw [writeA_bits, h1, h2, h3, h4]; simp
  refine ⟨?_, hw⟩
  have in1 : ∀ y ∈ s1, y ∈ s := fun y hy => by rw [h1]; exact List.mem_append_left _ hy
  have in2 : ∀ y ∈ s2, y ∈ s1 := fun y hy => by rw [h2]; exact List.mem_append_left _ hy
  have in3 : ∀ y ∈ s3, y ∈ s2 := fun y hy => by rw [h3]; exact List.mem_append_right _ hy
  have inS : ∀ y ∈ sc, y ∈ s2 := fun y hy => by
    rw [h3]; apply List.mem_append_left
    cases sc with
    | nil => cases hy
    | cons c l => simp only [bits, List.isEmpty_cons, Bool.not_false, if_true]; exact List.mem_append_left _ hy
  have inU : ∀ y ∈ u, y ∈ s3 := fun y hy => by
    cases ha with
    | false => rw [huN rfl] at hy; cases hy
    | true => rw [h4]; apply List.mem_append_left; simp [bits, hy]
  have inP : ∀ y ∈ p, y ∈ s3 := fun y hy => by rw [h4]; exact List.mem_append_right _ hy
  have inQ : ∀ y ∈ q, y ∈ s1 := fun y hy => by
    cases hq with
    | false => rw [hqN rfl] at hy; cases hy
    | true => rw [h2]; apply List.mem_append_right; simp [bits, hy]
  have inF : ∀ y ∈ f, y ∈ s := fun y hy => by
    cases hf with
    | false => rw [hfN rfl] at hy; cases hy
    | true => rw [h1]; apply List.mem_append_right; simp [bits, hy]
  have n35 : ∀ y ∈ s1, y ≠ 35 := fun y hy e => hs1 (e ▸ hy)
  have n63 : ∀ y ∈ s2, y ≠ 63 := fun y hy e => hs2 (e ▸ hy)
  have n47 : ∀ y ∈ u, y ≠ 47 := fun y hy e => hu (e ▸ hy)
  exact {
    sch := hsc
    okS := fun y hy => hok' y (in1 y (in2 y (inS y hy)))
    okU := fun y hy => ⟨hok' y (in1 y (in2 y (in3 y (inU y hy)))), n47 y hy, n63 y (in3 y (inU y hy)), n35 y (in2 y (in3 y (inU y hy)))⟩
    okP := fun y hy => ⟨hok' y (in1 y (in2 y (in3 y (inP y hy)))), n63 y (in3 y (inP y hy)), n35 y (in2 y (in3 y (inP y hy)))⟩
    okQ := fun y hy => ⟨hok' y (in1 y (inQ y hy)), n35 y (inQ y hy)⟩
    okF := fun y hy => hok' y (inF y hy)
    noU := huN, noQ := hqN, noF := hfN, pathU := hpU, pathN := hpN }

theorem read_write {a : Addr} (h : WF a) (hs : a.scheme ≠ []) : readA (writeA a) = some a := by
  obtain ⟨sc, ha, u, p, hq, q, hf, f⟩ := a
  obtain ⟨hsc, okS, okU, okP, okQ, okF, noU, noQ, noF, pathU, pathN⟩ := h
  simp only at *
  have hb : schemeB sc = true := hsc.resolve_left hs
  have hmem := schemeB_mem hb
  have he : sc.isEmpty = false := by cases sc <;> simp at *
  have hbody : writeA ⟨sc, ha, u, p, hq, q, hf, f⟩ = ((sc ++ 58 :: (bits ha (47 :: 47 :: u) ++ p)) ++ bits hq (63 :: q)) ++ bits hf (35 :: f) := by
    rw [writeA_bits]; simp [bits, he]
  have hU : ∀ y ∈ bits ha (47 :: 47 :: u), okB y = true ∧ y ≠ 63 ∧ y ≠ 35 := by
    intro y hy
    cases ha with
    | false => cases hy
    | true =>
      simp only [bits, if_true, List.mem_cons] at hy
      rcases hy with rfl | rfl | hy
      · decide
      · decide
      · exact ⟨(okU y hy).1, (okU y hy).2.2⟩
  have hB : ∀ y ∈ sc ++ 58 :: (bits ha (47 :: 47 :: u) ++ p), okB y = true ∧ y ≠ 63 ∧ y ≠ 35 := by
    intro y hy
    rw [List.mem_append, List.mem_cons, List.mem_append] at hy
    rcases hy with hy | rfl | hy | hy
    · have := schemeL_ok y (hmem y hy); exact ⟨this.1, this.2.2.1, this.2.1⟩
    · decide
    · exact hU y hy
    · exact okP y hy
  have hQ : ∀ y ∈ bits hq (63 :: q), okB y = true ∧ y ≠ 35 := by
    intro y hy
    cases hq with
    | false => cases hy
    | true =>
      simp only [bits, if_true, List.mem_cons] at hy
      rcases hy with rfl | hy
      · decide
      · exact okQ y hy
  have hF : ∀ y ∈ bits hf (35 :: f), okB y = true := by
    intro y hy
    cases hf with
    | false => cases hy
    | true =>
      simp only [bits, if_true, List.mem_cons] at hy
      rcases hy with rfl | hy
      · decide
      · exact okF y hy
  have hall : (writeA ⟨sc, ha, u, p, hq, q, hf, f⟩).all okB = true := by
    rw [hbody, List.all_eq_true]
    intro y hy
    rw [List.mem_append, List.mem_append] at hy
    rcases hy with (hy | hy) | hy
    · exact (hB y hy).1
    · exact (hQ y hy).1
    · exact hF y hy
  unfold readA
  rw [if_pos hall]
  generalize hbd : sc ++ 58 :: (bits ha (47 :: 47 :: u) ++ p) = body at hbody hB
  have n63 : (63 : UInt8) ∉ body := fun hm => (hB _ hm).2.1 rfl
  have n35 : (35 : UInt8) ∉ body ++ bits hq (63 :: q) := by
    rw [List.mem_append]
    rintro (hm | hm)
    · exact (hB _ hm).2.2 rfl
    · exact (hQ _ hm).2 rfl
  have e1 : Lib.cut (writeA ⟨sc, ha, u, p, hq, q, hf, f⟩) [35] = (body ++ bits hq (63 :: q), f, hf) := by
    rw [hbody]
    cases hf with
    | false => rw [noF rfl]; simp only [bits, Bool.false_eq_true, if_false, List.append_nil] at n35 ⊢; exact cut_no n35
    | true => simp only [bits, if_true] at n35 ⊢; exact cut_yes n35
  have e2 : Lib.cut (body ++ bits hq (63 :: q)) [63] = (body, q, hq) := by
    cases hq with
    | false => rw [noQ rfl]; simp only [bits, Bool.false_eq_true, if_false, List.append_nil]; exact cut_no n63
    | true => simp only [bits, if_true]; exact cut_yes n63
  have e3 : parseScheme body = (sc, bits ha (47 :: 47 :: u) ++ p) := by
    rw [← hbd]
    have n58 : (58 : UInt8) ∉ sc := fun hm => (schemeL_ok _ (hmem _ hm)).2.2.2.1 rfl
    unfold parseScheme
    rw [cutC_mk n58]
    simp [he, hb]
  have e4 : parseAuth (bits ha (47 :: 47 :: u) ++ p) = (ha, u, p) := by
    cases ha with
    | false =>
      rw [noU rfl]
      simp only [bits, Bool.false_eq_true, if_false, List.nil_append]
      rcases parseAuth_cases p with ⟨_, e⟩ | ⟨r, hr, _⟩
      · exact e
      · exact absurd ⟨r, hr⟩ (pathN rfl)
    | true =>
      have n47 : (47 : UInt8) ∉ u := fun hm => (okU _ hm).2.1 rfl
      simp only [bits, if_true, List.cons_append]
      have hp : Lib.hasPrefix (47 :: 47 :: (u ++ p)) [47, 47] = true := by simp [Lib.hasPrefix, List.isPrefixOf]
      unfold parseAuth
      rw [if_pos hp]
      simp only [List.drop_succ_cons, List.drop_zero]
      rcases pathU rfl with rfl | ⟨l, rfl⟩
      · rw [List.append_nil, cutC_none.2 n47]
      · rw [cutC_mk n47]
  rw [parseA_eq e1 e2 e3 e4]

end Go.Proofs.YtignjjnflcpiiaaDoor
