/-
  The document's Dots gives a path without its dots. Condition: the path takes less than 2^32 bytes (the shelf's bound on Split).
-/
import Derived.Test.YtignjjnflcpiiaaDoorDotsP
namespace Go.Proofs.YtignjjnflcpiiaaDoor
open Go Go.RowKit

set_option maxHeartbeats 3000000 in
set_option maxRecDepth 100000 in
theorem refDots_any (p : Bs) (w : World) (hl : p.length < 4294967281) (hg : Ground w) :
    Calls Tryd.prog 19 #[.string ⟨p.toArray⟩] w fun e w' => e = .returned (.string ⟨(dotsA p).toArray⟩) ∧ Below w.heap.size w w' := by
  have hS := splitOne p 47 w hl hg
  have hcnt : (splitC 47 p).length ≤ p.length + 1 := by rw [splitC_count]; have := List.count_le_length (a := (47 : UInt8)) (l := p); omega
  have hpos : 0 < (splitC 47 p).length := List.length_pos_iff.2 (splitC_ne 47 p)
  have hD : Hid (dotsA p = Lib.join (dotsUpto (splitC 47 p) (splitC 47 p).length) [47]) := Lib.hid rfl
  generalize splitC 47 p = l at hS hcnt hpos hD
  go_enter Tryd.func19, Tryd.ntmps19
  go_wp2_with fail
  refine hS.mono ?_
  rintro e w1 ⟨rfl, rfl⟩
  go_wp2_with fail
  go_loopw [4, 12] (fun v i wr => ∃ k : Nat, k ≤ l.length ∧ i = .int .i64 k ∧ OwnS wr (w.heap.size + 1) v (dotsUpto l k) ∧ Blk wr w.heap.size (strRow l) 9 ∧ Below w.heap.size w wr) (fun _ i _ => l.length - (intOf i).toNat)
  case atStart => exact ⟨0, Nat.zero_le _, rfl, World.ownsRow_nil _ _ _ _, Blk.new _ _ _, by go_grown⟩
  case round =>
    obtain ⟨k, hk, rfl, hown, hrow, hbel⟩ := hrel
    have hlt0 := hrow.lt
    by_cases hlt : k < l.length
    · have hc : wr.cell? ⟨w.heap.size, k, none⟩ = some (.string ⟨(l[k]).toArray⟩) := by rw [hrow.cell]; simp [strRow, hlt]
      have hol := dotsUpto_len l k
      have hSt := dotsUpto_succ hlt
      generalize l[k] = s at hc hSt
      generalize dotsUpto l k = o at hown hol hSt
      by_cases hla : k + 1 = l.length
      · have hlb : ((k : Int) == (l.length : Int) - 1) = true := by rw [beq_iff_eq]; omega
        have hlc : (k + 1 == l.length) = true := by rw [beq_iff_eq]; exact hla
        rw [hlc] at hSt
        clear hla hlc
        have HSt := Lib.hid hSt; clear hSt
        by_cases h1 : s = [46]
        · subst h1
          go_wp2_with (at_builtin; refine appS rfl _ _ rfl (w.heap.size + 1) _ o [] wr.heap.size rfl (hown.alloc _) rfl ?_ (by omega) (by go_size) ?_)
          all_goals first
            | (exact (Blk.new _ _ _).cell 0)
            | (intro v' w2 hown2 hg2 hb2
               go_wp2_with fail
               go_roundw
               case rel => exact ⟨k + 1, by omega, by go_num, by rw [HSt.out, dotStep_dot _ true]; exact hown2, (hrow.alloc _).next hb2 (by omega), (hbel.alloc hbel.size _).trans (hb2.mono (by omega))⟩
               case measure => simp [intOf]; omega)
        · by_cases h2 : s = []
          · subst h2
            go_wp2_with (at_builtin; refine appS rfl _ _ rfl (w.heap.size + 1) _ o [] wr.heap.size rfl (hown.alloc _) rfl ?_ (by omega) (by go_size) ?_)
            all_goals first
              | (exact (Blk.new _ _ _).cell 0)
              | (intro v' w2 hown2 hg2 hb2
                 go_wp2_with fail
                 go_roundw
                 case rel => exact ⟨k + 1, by omega, by go_num, by rw [HSt.out, dotStep_end _ true _ (Or.inr rfl)]; exact hown2, (hrow.alloc _).next hb2 (by omega), (hbel.alloc hbel.size _).trans (hb2.mono (by omega))⟩
                 case measure => simp [intOf]; omega)
          · have h1b : (s == [46]) = false := by rw [beq_eq_false_iff_ne]; exact h1
            by_cases h3 : s = [46, 46]
            · subst h3
              rcases List.eq_nil_or_concat o with ho | ⟨o', y, ho⟩
              · subst ho
                obtain ⟨va, vc, rfl⟩ := hown.shape
                simp only [List.length_nil] at hown
                go_wp2_with (at_builtin; refine appS rfl _ _ rfl (w.heap.size + 1) _ [] [] wr.heap.size rfl (hown.alloc _) rfl ?_ (by decide) (by go_size) ?_)
                all_goals first
                  | (exact (Blk.new _ _ _).cell 0)
                  | (intro v' w2 hown2 hg2 hb2
                     go_wp2_with fail
                     go_roundw
                     case rel => exact ⟨k + 1, by omega, by go_num, by rw [HSt.out, dotStep_up _ true, if_pos rfl, upOf_nil]; exact hown2, (hrow.alloc _).next hb2 (by omega), (hbel.alloc hbel.size _).trans (hb2.mono (by omega))⟩
                     case measure => simp [intOf]; omega)
              · rw [List.concat_eq_append] at ho
                subst ho
                obtain ⟨g, cap, rfl, hcap, hgB, hpop, hcells⟩ := hown.shapeC
                rw [List.length_append] at hol
                simp only [List.length_cons, List.length_nil] at hol
                by_cases ho' : o' = []
                · subst ho'
                  have hc0 := hcells 0 y rfl
                  clear hcells
                  by_cases hy : y = []
                  · subst hy
                    go_wp2_with (at_builtin; refine appS rfl _ _ rfl (w.heap.size + 1) _ [[]] [] wr.heap.size rfl (hown.alloc _) rfl ?_ (by decide) (by go_size) ?_)
                    all_goals first
                      | (exact (Blk.new _ _ _).cell 0)
                      | (intro v' w2 hown2 hg2 hb2
                         go_wp2_with fail
                         go_roundw
                         case rel => exact ⟨k + 1, by omega, by go_num, by rw [HSt.out, dotStep_up _ true, if_pos rfl, List.nil_append, upOf_one]; exact hown2, (hrow.alloc _).next hb2 (by omega), (hbel.alloc hbel.size _).trans (hb2.mono (by omega))⟩
                         case measure => simp [intOf]; omega)
                  · have hyb : y.isEmpty = false := by rw [Bool.eq_false_iff]; simpa using hy
                    go_wp2_with (at_builtin; refine appS rfl _ _ rfl (w.heap.size + 1) _ [] [] wr.heap.size rfl (hpop.alloc _) rfl ?_ (by decide) (by go_size) ?_)
                    all_goals first
                      | (exact (Blk.new _ _ _).cell 0)
                      | (intro v' w2 hown2 hg2 hb2
                         go_wp2_with fail
                         go_roundw
                         case rel => exact ⟨k + 1, by omega, by go_num, by rw [HSt.out, dotStep_up _ true, if_pos rfl, upOf_pop (Or.inr hy)]; exact hown2, (hrow.alloc _).next hb2 (by omega), (hbel.alloc hbel.size _).trans (hb2.mono (by omega))⟩
                         case measure => simp [intOf]; omega)
                · have ho2 : 0 < o'.length := List.length_pos_iff.2 ho'
                  clear hcells
                  go_wp2_with (at_builtin; refine appS rfl _ _ rfl (w.heap.size + 1) _ o' [] wr.heap.size rfl (hpop.alloc _) rfl ?_ (by omega) (by go_size) ?_)
                  all_goals first
                    | (exact (Blk.new _ _ _).cell 0)
                    | (intro v' w2 hown2 hg2 hb2
                       go_wp2_with fail
                       go_roundw
                       case rel => exact ⟨k + 1, by omega, by go_num, by rw [HSt.out, dotStep_up _ true, if_pos rfl, upOf_pop (Or.inl ho')]; exact hown2, (hrow.alloc _).next hb2 (by omega), (hbel.alloc hbel.size _).trans (hb2.mono (by omega))⟩
                       case measure => simp [intOf]; omega)
            · have h3b : (s == [46, 46]) = false := by rw [beq_eq_false_iff_ne]; exact h3
              go_wp2_with (at_builtin; refine appS rfl _ _ rfl (w.heap.size + 1) _ o s wr.heap.size rfl (hown.alloc _) rfl ?_ (by omega) (by go_size) ?_)
              all_goals first
                | (exact (Blk.new _ _ _).cell 0)
                | (intro v' w2 hown2 hg2 hb2
                   go_wp2_with fail
                   go_roundw
                   case rel => exact ⟨k + 1, by omega, by go_num, by rw [HSt.out, dotStep_else _ _ _ _ h1 h2 h3]; exact hown2, (hrow.alloc _).next hb2 (by omega), (hbel.alloc hbel.size _).trans (hb2.mono (by omega))⟩
                   case measure => simp [intOf]; omega)
      · have hlb : ((k : Int) == (l.length : Int) - 1) = false := by rw [beq_eq_false_iff_ne]; omega
        have hlc : (k + 1 == l.length) = false := by rw [beq_eq_false_iff_ne]; exact hla
        rw [hlc] at hSt
        clear hla hlc
        have HSt := Lib.hid hSt; clear hSt
        by_cases h1 : s = [46]
        · subst h1
          go_wp2_with fail
          all_goals
            go_roundw
            case rel => exact ⟨k + 1, by omega, by go_num, by rw [HSt.out, dotStep_dot _ false]; exact hown, hrow, hbel⟩
            case measure => simp [intOf]; omega
        · by_cases h2 : s = []
          · subst h2
            by_cases h0 : 0 < k
            · have hkb : (k == 0) = false := by rw [beq_eq_false_iff_ne]; omega
              go_wp2_with fail
              all_goals
                go_roundw
                case rel => exact ⟨k + 1, by omega, by go_num, by rw [HSt.out, hkb, dotStep_gap]; exact hown, hrow, hbel⟩
                case measure => simp [intOf]; omega
            · have hkb : (k == 0) = true := by rw [beq_iff_eq]; omega
              go_wp2_with (at_builtin; refine appS rfl _ _ rfl (w.heap.size + 1) _ o [] wr.heap.size rfl (hown.alloc _) rfl ?_ (by omega) (by go_size) ?_)
              all_goals first
                | (exact (Blk.new _ _ _).cell 0)
                | (intro v' w2 hown2 hg2 hb2
                   go_wp2_with fail
                   go_roundw
                   case rel => exact ⟨k + 1, by omega, by go_num, by rw [HSt.out, hkb, dotStep_end true _ _ (Or.inl rfl)]; exact hown2, (hrow.alloc _).next hb2 (by omega), (hbel.alloc hbel.size _).trans (hb2.mono (by omega))⟩
                   case measure => simp [intOf]; omega)
          · have h1b : (s == [46]) = false := by rw [beq_eq_false_iff_ne]; exact h1
            by_cases h3 : s = [46, 46]
            · subst h3
              rcases List.eq_nil_or_concat o with ho | ⟨o', y, ho⟩
              · subst ho
                obtain ⟨va, vc, rfl⟩ := hown.shape
                simp only [List.length_nil] at hown
                go_wp2_with fail
                all_goals
                  go_roundw
                  case rel => exact ⟨k + 1, by omega, by go_num, by rw [HSt.out, dotStep_up _ false, if_neg (by decide), upOf_nil]; exact hown, hrow, hbel⟩
                  case measure => simp [intOf]; omega
              · rw [List.concat_eq_append] at ho
                subst ho
                obtain ⟨g, cap, rfl, hcap, hgB, hpop, hcells⟩ := hown.shapeC
                rw [List.length_append] at hol
                simp only [List.length_cons, List.length_nil] at hol
                by_cases ho' : o' = []
                · subst ho'
                  have hc0 := hcells 0 y rfl
                  clear hcells
                  by_cases hy : y = []
                  · subst hy
                    go_wp2_with fail
                    all_goals
                      go_roundw
                      case rel => exact ⟨k + 1, by omega, by go_num, by rw [HSt.out, dotStep_up _ false, if_neg (by decide), List.nil_append, upOf_one]; exact hown, hrow, hbel⟩
                      case measure => simp [intOf]; omega
                  · have hyb : y.isEmpty = false := by rw [Bool.eq_false_iff]; simpa using hy
                    go_wp2_with fail
                    all_goals
                      go_roundw
                      case rel => exact ⟨k + 1, by omega, by go_num, by rw [HSt.out, dotStep_up _ false, if_neg (by decide), upOf_pop (Or.inr hy)]; exact hpop, hrow, hbel⟩
                      case measure => simp [intOf]; omega
                · have ho2 : 0 < o'.length := List.length_pos_iff.2 ho'
                  clear hcells
                  go_wp2_with fail
                  all_goals
                    go_roundw
                    case rel => exact ⟨k + 1, by omega, by go_num, by rw [HSt.out, dotStep_up _ false, if_neg (by decide), upOf_pop (Or.inl ho')]; exact hpop, hrow, hbel⟩
                    case measure => simp [intOf]; omega
            · have h3b : (s == [46, 46]) = false := by rw [beq_eq_false_iff_ne]; exact h3
              go_wp2_with (at_builtin; refine appS rfl _ _ rfl (w.heap.size + 1) _ o s wr.heap.size rfl (hown.alloc _) rfl ?_ (by omega) (by go_size) ?_)
              all_goals first
                | (exact (Blk.new _ _ _).cell 0)
                | (intro v' w2 hown2 hg2 hb2
                   go_wp2_with fail
                   go_roundw
                   case rel => exact ⟨k + 1, by omega, by go_num, by rw [HSt.out, dotStep_else _ _ _ _ h1 h2 h3]; exact hown2, (hrow.alloc _).next hb2 (by omega), (hbel.alloc hbel.size _).trans (hb2.mono (by omega))⟩
                   case measure => simp [intOf]; omega)
    · obtain rfl : k = l.length := by omega
      have hlen : (Lib.join (dotsUpto l l.length) [47]).length ≤ 140737488355328 := by
        rw [← hD.out]; have := dotsA_len p; omega
      have hol := dotsUpto_len l l.length
      generalize dotsUpto l l.length = o at hown hol hlen hD
      rcases List.eq_nil_or_concat o with ho | ⟨o', y, ho⟩
      · subst ho
        obtain ⟨va, vc, rfl⟩ := hown.shape
        go_wp2_with fail
        refine (joinNone _ _ _ _).mono ?_
        rintro e w2 ⟨rfl, rfl⟩
        go_wp2_with fail
        go_ret
        exact ⟨ret_str hD.out.symm, hbel⟩
      · rw [List.concat_eq_append] at ho
        subst ho
        obtain ⟨g, cap, rfl, hcap, hgB, hpop, hcells⟩ := hown.shapeC
        have hJ := joinStr g 0 cap (o' ++ [y]) [47] wr (fun j x hj => by rw [Nat.zero_add]; exact hcells j x hj) (World.block_lt_of_cell? wr _ (hcells o'.length y (by simp))) (by omega) (by simpa using hcap) hlen
        rw [List.length_append] at hJ
        clear hcells
        go_wp2_with fail
        refine hJ.mono ?_
        rintro e w2 ⟨rfl, hb2⟩
        go_wp2_with fail
        go_ret
        exact ⟨ret_str hD.out.symm, hbel.trans (hb2.mono hbel.size)⟩
end Go.Proofs.YtignjjnflcpiiaaDoor
