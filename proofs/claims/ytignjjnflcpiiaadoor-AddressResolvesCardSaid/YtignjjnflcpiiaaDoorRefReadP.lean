/-
  How the document's ReadAddress parts a text, as plain data: the same as address.Read; and strings.Index of one byte. No condition.
-/
import Derived.Test.YtignjjnflcpiiaaDoorAddrP
import Derived.Test.YtignjjnflcpiiaaDoorRefB
namespace Go.Proofs.YtignjjnflcpiiaaDoor
open Go Go.RowKit

/-- strings.Index of one byte. -/
theorem idxOne (l : Bs) (c : UInt8) (w : World) :
    Calls Tryd.prog 30 #[.string ⟨l.toArray⟩, .string ⟨#[c]⟩] w fun e w' => ∃ k, HasAt l c k ∧ e = .returned (.int .i64 k) ∧ w = w' := by
  refine (Tryd.strings_Index_one ⟨l.toArray⟩ c w).mono ?_
  rintro e w' ⟨rfl, rfl⟩
  exact ⟨_, hasAt_index l c, rfl, rfl⟩

theorem HasAt.ge {l : Bs} {c : UInt8} {k : Int} (h : HasAt l c k) : -1 ≤ k := by
  rcases h with ⟨rfl, _⟩ | ⟨a, b, rfl, _, rfl⟩ <;> omega
theorem HasAt.lt' {l : Bs} {c : UInt8} {k : Int} (h : HasAt l c k) : k < l.length := by
  rcases h with ⟨rfl, _⟩ | ⟨a, b, rfl, _, rfl⟩
  · omega
  · simp; omega
theorem HasAt.cut_no {l : Bs} {c : UInt8} {k : Int} (h : HasAt l c k) (h0 : k < 0) : Lib.cut l [c] = (l, [], false) := by
  rcases h with ⟨rfl, hn⟩ | ⟨a, b, rfl, hn, rfl⟩
  · rw [cut_cutP, cutC_none.2 hn]
  · omega
theorem HasAt.cut_yes {l : Bs} {c : UInt8} {k : Int} (h : HasAt l c k) (h0 : 0 ≤ k) : Lib.cut l [c] = (l.take k.toNat, l.drop (k + 1).toNat, true) := by
  rcases h with ⟨rfl, hn⟩ | ⟨a, b, rfl, hn, rfl⟩
  · omega
  · rw [cut_cutP, cutC_mk hn, show ((a.length : Int) + 1).toNat = a.length + 1 from by omega]
    simp

/-- A byte of a scheme, by the document: a small letter (after low), or, but at the beginning, a digit, +, -, a point. -/
def schB (c : UInt8) (first : Bool) : Bool :=
  (decide (97 ≤ lowC c) && decide (lowC c ≤ 122)) || (!first && ((decide (48 ≤ lowC c) && decide (lowC c ≤ 57)) || lowC c == 43 || lowC c == 45 || lowC c == 46))

theorem schB_first_all : ((List.range 256).all fun n => schB n.toUInt8 true == (alphaL.contains n.toUInt8 && schemeL.contains n.toUInt8)) = true := by kernel_rfl
theorem schB_more_all : ((List.range 256).all fun n => schB n.toUInt8 false == schemeL.contains n.toUInt8) = true := by kernel_rfl
theorem u8_nat (c : UInt8) : c.toNat.toUInt8 = c := by simp
theorem schB_first (c : UInt8) : schB c true = (alphaL.contains c && schemeL.contains c) := by
  have := List.all_eq_true.1 schB_first_all c.toNat (List.mem_range.2 c.toNat_lt)
  rw [u8_nat] at this
  exact beq_iff_eq.1 this
theorem schB_more (c : UInt8) : schB c false = schemeL.contains c := by
  have := List.all_eq_true.1 schB_more_all c.toNat (List.mem_range.2 c.toNat_lt)
  rw [u8_nat] at this
  exact beq_iff_eq.1 this

/-- Whether the first k bytes may be a scheme's. -/
def schU (l : Bs) : Nat → Bool
  | 0 => true
  | k + 1 => schU l k && schB (l.getD k 0) (k == 0)

theorem schU_succ {l : Bs} {k : Nat} (h : k < l.length) : schU l (k + 1) = (schU l k && schB l[k] (k == 0)) := by
  show (schU l k && schB (l.getD k 0) (k == 0)) = _
  rw [List.getD_eq_getElem?_getD, List.getElem?_eq_getElem h]; rfl

theorem schU_cons (c : UInt8) (l : Bs) (k : Nat) (hk : k ≤ l.length) : schU (c :: l) (k + 1) = (schB c true && (l.take k).all (schemeL.contains ·)) := by
  induction k with
  | zero => simp [schU]
  | succ k ih =>
    rw [schU_succ (by simp; omega), ih (by omega)]
    have h : k < l.length := by omega
    rw [List.take_succ_eq_append_getElem h, List.all_append]
    have e : ((k + 1 : Nat) == 0) = false := rfl
    rw [e, List.getElem_cons_succ, schB_more]
    simp [Bool.and_assoc]

theorem HasAt.sch {l : Bs} {k : Int} (h : HasAt l 58 k) (h0 : 0 ≤ k) : hasScheme l = (decide (0 < k) && schU l k.toNat) := by
  rcases h with ⟨rfl, hn⟩ | ⟨a, b, rfl, hn, rfl⟩
  · omega
  · unfold hasScheme
    rw [cutC_mk hn]
    cases a with
    | nil => rfl
    | cons x a =>
      have e : (((x :: a).length : Int)).toNat = a.length + 1 := by simp
      rw [e]
      show (!(x :: a).isEmpty && schemeB (x :: a)) = _
      rw [List.cons_append, schU_cons x (a ++ 58 :: b) a.length (by simp)] 
      simp [schemeB, schB_first, Bool.and_assoc]

theorem HasAt.auth {r : Bs} {k : Int} (h : HasAt (r ++ [47]) 47 k) : 0 ≤ k ∧ k ≤ r.length ∧ authRest r = (true, r.take k.toNat, r.drop k.toNat) := by
  rcases h with ⟨rfl, hn⟩ | ⟨a, b, e, hn, rfl⟩
  · exact absurd (by simp) hn
  · refine ⟨by omega, ?_, ?_⟩
    · have := congrArg List.length e; simp at this; omega
    · rcases List.eq_nil_or_concat b with hb | ⟨b', y, hb⟩
      · subst hb
        have e2 : r = a := by simpa using List.append_inj_left' e rfl
        subst e2
        unfold authRest
        rw [cutC_none.2 hn]
        simp
      · rw [List.concat_eq_append] at hb
        subst hb
        have e2 : r = a ++ 47 :: b' := List.append_inj_left' (by rw [e]; simp : r ++ [47] = (a ++ 47 :: b') ++ [y]) rfl
        subst e2
        unfold authRest
        rw [cutC_mk hn]
        simp

theorem parseScheme_le (l : Bs) : (parseScheme l).2.length ≤ l.length := by
  unfold parseScheme
  cases h : cutP [58] l with
  | none => simp
  | some x =>
    obtain ⟨a, b⟩ := x
    simp only
    split
    · have := congrArg List.length (cutP_some h); simp at this ⊢; omega
    · simp

theorem low_one (s : Bs) (j : Nat) (h : j < s.length) : lowS ((s.drop j).take 1) = [lowC s[j]] := by
  rw [List.drop_eq_getElem_cons h, List.take_succ_cons, List.take_zero]; rfl

/-- The same of the byte in small, in the walk's words. -/
def schI (d : UInt8) (more : Bool) : Bool :=
  (decide (97 ≤ (d.toNat : Int)) && decide ((d.toNat : Int) ≤ 122)) || (more && ((decide (48 ≤ (d.toNat : Int)) && decide ((d.toNat : Int) ≤ 57)) || ((d.toNat : Int) == 43) || ((d.toNat : Int) == 45) || ((d.toNat : Int) == 46)))
theorem schI_all : ((List.range 256).all fun n => schI (lowC n.toUInt8) false == schB n.toUInt8 true && schI (lowC n.toUInt8) true == schB n.toUInt8 false) = true := by kernel_rfl
theorem schB_I (c : UInt8) (f : Bool) : schB c f = schI (lowC c) (!f) := by
  have := List.all_eq_true.1 schI_all c.toNat (List.mem_range.2 c.toNat_lt)
  rw [u8_nat, Bool.and_eq_true] at this
  cases f
  · exact (beq_iff_eq.1 this.2).symm
  · exact (beq_iff_eq.1 this.1).symm

end Go.Proofs.YtignjjnflcpiiaaDoor
