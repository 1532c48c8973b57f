/- address.Dots gives a path without its dots. Condition: the path takes less than 2^32 bytes (the shelf's bound on Split); address.Resolve gives where an address leads that stands at another one. Condition: the paths take less than 2^31 bytes each; address.Write gives what an address is written as. Co. -/
import Derived.Test.YtignjjnflcpiiaaGreatDoorQ13
namespace Go.Proofs.YtignjjnflcpiiaaGreatDoor
open Go Go.RowKit
set_option maxHeartbeats 1000000 in
set_option maxRecDepth 100000 in
theorem dots_any (p : Bs) (w : World) (hl : p.length < 4294967281) (hg : Ground w) :
    Calls Tryz.prog 111 #[.string ⟨p.toArray⟩] w fun e w' => e = .returned (.string ⟨(dotsA p).toArray⟩) ∧ Below w.heap.size w w' := by
  have hS := splitOne p 47 w hl hg
  have hcnt : (splitC 47 p).length ≤ p.length + 1 := by rw [splitC_count]; have := List.count_le_length (a := (47 : UInt8)) (l := p); omega
  have hpos : 0 < (splitC 47 p).length := List.length_pos_iff.2 (splitC_ne 47 p)
  have hD : Hid (dotsA p = Lib.join (dotsUpto (splitC 47 p) (splitC 47 p).length) [47]) := Lib.hid rfl
  generalize splitC 47 p = l at hS hcnt hpos hD
  go_enter Tryz.func111, Tryz.ntmps111
  go_wp2_with fail
  refine hS.mono ?_
  rintro e w1 ⟨rfl, rfl⟩
  go_wp2_with fail
  go_loopw [3, 13] (fun v i wr => ∃ k : Nat, k ≤ l.length ∧ i = .int .i64 k ∧ OwnS wr (w.heap.size + 1) v (dotsUpto l k) ∧ Blk wr w.heap.size (strRow l) 9 ∧ Below w.heap.size w wr) (fun _ i _ => l.length - (intOf i).toNat)
  case atStart => exact ⟨0, Nat.zero_le _, rfl, World.ownsRow_nil _ _ _ _, Blk.new _ _ _, by go_grown⟩
  case round =>
    obtain ⟨k, hk, rfl, hown, hrow, hbel⟩ := hrel
    have hlt0 := hrow.lt
    by_cases hlt : k < l.length
    · have hc : wr.cell? ⟨w.heap.size, k, none⟩ = some (.string ⟨(l[k]).toArray⟩) := by rw [hrow.cell]; simp [strRow, hlt]
      have hol := dotsUpto_len l k
      have hSt := dotsUpto_succ hlt
      generalize l[k] = s at hc hSt
      generalize dotsUpto l k = o at hown hol hSt
      by_cases hla : k + 1 = l.length
      · have hlb : ((k : Int) + 1 == (l.length : Int)) = true := by rw [beq_iff_eq]; omega
        have hlc : (k + 1 == l.length) = true := by rw [beq_iff_eq]; exact hla
        rw [hlc] at hSt
        clear hla hlc
        have HSt := Lib.hid hSt; clear hSt
        by_cases h1 : s = [46]
        · subst h1
          go_wp2_with (at_builtin; refine appS rfl _ _ rfl (w.heap.size + 1) _ o [] wr.heap.size rfl (hown.alloc _) rfl ?_ (by omega) (by go_size) ?_)
          all_goals first
            | (exact (Blk.new _ _ _).cell 0)
            | (intro v' w2 hown2 hg2 hb2
               go_wp2_with fail
               go_roundw
               case rel => exact ⟨k + 1, by omega, by go_num, by rw [HSt.out, dotStep_dot _ true]; exact hown2, (hrow.alloc _).next hb2 (by omega), (hbel.alloc hbel.size _).trans (hb2.mono (by omega))⟩
               case measure => simp [intOf]; omega)
        · by_cases h2 : s = []
          · subst h2
            go_wp2_with (at_builtin; refine appS rfl _ _ rfl (w.heap.size + 1) _ o [] wr.heap.size rfl (hown.alloc _) rfl ?_ (by omega) (by go_size) ?_)
            all_goals first
              | (exact (Blk.new _ _ _).cell 0)
              | (intro v' w2 hown2 hg2 hb2
                 go_wp2_with fail
                 go_roundw
                 case rel => exact ⟨k + 1, by omega, by go_num, by rw [HSt.out, dotStep_end _ true _ (Or.inr rfl)]; exact hown2, (hrow.alloc _).next hb2 (by omega), (hbel.alloc hbel.size _).trans (hb2.mono (by omega))⟩
                 case measure => simp [intOf]; omega)
          · have h1b : (s == [46]) = false := by rw [beq_eq_false_iff_ne]; exact h1
            by_cases h3 : s = [46, 46]
            · subst h3
              rcases List.eq_nil_or_concat o with ho | ⟨o', y, ho⟩
              · subst ho
                obtain ⟨va, vc, rfl⟩ := hown.shape
                simp only [List.length_nil] at hown
                go_wp2_with (at_builtin; refine appS rfl _ _ rfl (w.heap.size + 1) _ [] [] wr.heap.size rfl (hown.alloc _) rfl ?_ (by decide) (by go_size) ?_)
                all_goals first
                  | (exact (Blk.new _ _ _).cell 0)
                  | (intro v' w2 hown2 hg2 hb2
                     go_wp2_with fail
                     go_roundw
                     case rel => exact ⟨k + 1, by omega, by go_num, by rw [HSt.out, dotStep_up _ true, if_pos rfl, upOf_nil]; exact hown2, (hrow.alloc _).next hb2 (by omega), (hbel.alloc hbel.size _).trans (hb2.mono (by omega))⟩
                     case measure => simp [intOf]; omega)
              · rw [List.concat_eq_append] at ho
                subst ho
                obtain ⟨g, cap, rfl, hcap, hgB, hpop, hcells⟩ := hown.shapeC
                rw [List.length_append] at hol
                simp only [List.length_cons, List.length_nil] at hol
                by_cases ho' : o' = []
                · subst ho'
                  have hc0 := hcells 0 y rfl
                  clear hcells
                  by_cases hy : y = []
                  · subst hy
                    go_wp2_with (at_builtin; refine appS rfl _ _ rfl (w.heap.size + 1) _ [[]] [] wr.heap.size rfl (hown.alloc _) rfl ?_ (by decide) (by go_size) ?_)
                    all_goals first
                      | (exact (Blk.new _ _ _).cell 0)
                      | (intro v' w2 hown2 hg2 hb2
                         go_wp2_with fail
                         go_roundw
                         case rel => exact ⟨k + 1, by omega, by go_num, by rw [HSt.out, dotStep_up _ true, if_pos rfl, List.nil_append, upOf_one]; exact hown2, (hrow.alloc _).next hb2 (by omega), (hbel.alloc hbel.size _).trans (hb2.mono (by omega))⟩
                         case measure => simp [intOf]; omega)
                  · have hyb : y.isEmpty = false := by rw [Bool.eq_false_iff]; simpa using hy
                    go_wp2_with (at_builtin; refine appS rfl _ _ rfl (w.heap.size + 1) _ [] [] wr.heap.size rfl (hpop.alloc _) rfl ?_ (by decide) (by go_size) ?_)
                    all_goals first
                      | (exact (Blk.new _ _ _).cell 0)
                      | (intro v' w2 hown2 hg2 hb2
                         go_wp2_with fail
                         go_roundw
                         case rel => exact ⟨k + 1, by omega, by go_num, by rw [HSt.out, dotStep_up _ true, if_pos rfl, upOf_pop (Or.inr hy)]; exact hown2, (hrow.alloc _).next hb2 (by omega), (hbel.alloc hbel.size _).trans (hb2.mono (by omega))⟩
                         case measure => simp [intOf]; omega)
                · have ho2 : 0 < o'.length := List.length_pos_iff.2 ho'
                  clear hcells
                  go_wp2_with (at_builtin; refine appS rfl _ _ rfl (w.heap.size + 1) _ o' [] wr.heap.size rfl (hpop.alloc _) rfl ?_ (by omega) (by go_size) ?_)
                  all_goals first
                    | (exact (Blk.new _ _ _).cell 0)
                    | (intro v' w2 hown2 hg2 hb2
                       go_wp2_with fail
                       go_roundw
                       case rel => exact ⟨k + 1, by omega, by go_num, by rw [HSt.out, dotStep_up _ true, if_pos rfl, upOf_pop (Or.inl ho')]; exact hown2, (hrow.alloc _).next hb2 (by omega), (hbel.alloc hbel.size _).trans (hb2.mono (by omega))⟩
                       case measure => simp [intOf]; omega)
            · have h3b : (s == [46, 46]) = false := by rw [beq_eq_false_iff_ne]; exact h3
              go_wp2_with (at_builtin; refine appS rfl _ _ rfl (w.heap.size + 1) _ o s wr.heap.size rfl (hown.alloc _) rfl ?_ (by omega) (by go_size) ?_)
              all_goals first
                | (exact (Blk.new _ _ _).cell 0)
                | (intro v' w2 hown2 hg2 hb2
                   go_wp2_with fail
                   go_roundw
                   case rel => exact ⟨k + 1, by omega, by go_num, by rw [HSt.out, dotStep_else _ _ _ _ h1 h2 h3]; exact hown2, (hrow.alloc _).next hb2 (by omega), (hbel.alloc hbel.size _).trans (hb2.mono (by omega))⟩
                   case measure => simp [intOf]; omega)
      · have hlb : ((k : Int) + 1 == (l.length : Int)) = false := by rw [beq_eq_false_iff_ne]; omega
        have hlc : (k + 1 == l.length) = false := by rw [beq_eq_false_iff_ne]; exact hla
        rw [hlc] at hSt
        clear hla hlc
        have HSt := Lib.hid hSt; clear hSt
        by_cases h1 : s = [46]
        · subst h1
          go_wp2_with fail
          all_goals
            go_roundw
            case rel => exact ⟨k + 1, by omega, by go_num, by rw [HSt.out, dotStep_dot _ false]; exact hown, hrow, hbel⟩
            case measure => simp [intOf]; omega
        · by_cases h2 : s = []
          · subst h2
            by_cases h0 : 0 < k
            · have hkb : (k == 0) = false := by rw [beq_eq_false_iff_ne]; omega
              go_wp2_with fail
              all_goals
                go_roundw
                case rel => exact ⟨k + 1, by omega, by go_num, by rw [HSt.out, hkb, dotStep_gap]; exact hown, hrow, hbel⟩
                case measure => simp [intOf]; omega
            · have hkb : (k == 0) = true := by rw [beq_iff_eq]; omega
              go_wp2_with (at_builtin; refine appS rfl _ _ rfl (w.heap.size + 1) _ o [] wr.heap.size rfl (hown.alloc _) rfl ?_ (by omega) (by go_size) ?_)
              all_goals first
                | (exact (Blk.new _ _ _).cell 0)
                | (intro v' w2 hown2 hg2 hb2
                   go_wp2_with fail
                   go_roundw
                   case rel => exact ⟨k + 1, by omega, by go_num, by rw [HSt.out, hkb, dotStep_end true _ _ (Or.inl rfl)]; exact hown2, (hrow.alloc _).next hb2 (by omega), (hbel.alloc hbel.size _).trans (hb2.mono (by omega))⟩
                   case measure => simp [intOf]; omega)
          · have h1b : (s == [46]) = false := by rw [beq_eq_false_iff_ne]; exact h1
            by_cases h3 : s = [46, 46]
            · subst h3
              rcases List.eq_nil_or_concat o with ho | ⟨o', y, ho⟩
              · subst ho
                obtain ⟨va, vc, rfl⟩ := hown.shape
                simp only [List.length_nil] at hown
                go_wp2_with fail
                all_goals
                  go_roundw
                  case rel => exact ⟨k + 1, by omega, by go_num, by rw [HSt.out, dotStep_up _ false, if_neg (by decide), upOf_nil]; exact hown, hrow, hbel⟩
                  case measure => simp [intOf]; omega
              · rw [List.concat_eq_append] at ho
                subst ho
                obtain ⟨g, cap, rfl, hcap, hgB, hpop, hcells⟩ := hown.shapeC
                rw [List.length_append] at hol
                simp only [List.length_cons, List.length_nil] at hol
                by_cases ho' : o' = []
                · subst ho'
                  have hc0 := hcells 0 y rfl
                  clear hcells
                  by_cases hy : y = []
                  · subst hy
                    go_wp2_with fail
                    all_goals
                      go_roundw
                      case rel => exact ⟨k + 1, by omega, by go_num, by rw [HSt.out, dotStep_up _ false, if_neg (by decide), List.nil_append, upOf_one]; exact hown, hrow, hbel⟩
                      case measure => simp [intOf]; omega
                  · have hyb : y.isEmpty = false := by rw [Bool.eq_false_iff]; simpa using hy
                    go_wp2_with fail
                    all_goals
                      go_roundw
                      case rel => exact ⟨k + 1, by omega, by go_num, by rw [HSt.out, dotStep_up _ false, if_neg (by decide), upOf_pop (Or.inr hy)]; exact hpop, hrow, hbel⟩
                      case measure => simp [intOf]; omega
                · have ho2 : 0 < o'.length := List.length_pos_iff.2 ho'
                  clear hcells
                  go_wp2_with fail
                  all_goals
                    go_roundw
                    case rel => exact ⟨k + 1, by omega, by go_num, by rw [HSt.out, dotStep_up _ false, if_neg (by decide), upOf_pop (Or.inl ho')]; exact hpop, hrow, hbel⟩
                    case measure => simp [intOf]; omega
            · have h3b : (s == [46, 46]) = false := by rw [beq_eq_false_iff_ne]; exact h3
              go_wp2_with (at_builtin; refine appS rfl _ _ rfl (w.heap.size + 1) _ o s wr.heap.size rfl (hown.alloc _) rfl ?_ (by omega) (by go_size) ?_)
              all_goals first
                | (exact (Blk.new _ _ _).cell 0)
                | (intro v' w2 hown2 hg2 hb2
                   go_wp2_with fail
                   go_roundw
                   case rel => exact ⟨k + 1, by omega, by go_num, by rw [HSt.out, dotStep_else _ _ _ _ h1 h2 h3]; exact hown2, (hrow.alloc _).next hb2 (by omega), (hbel.alloc hbel.size _).trans (hb2.mono (by omega))⟩
                   case measure => simp [intOf]; omega)
    · obtain rfl : k = l.length := by omega
      have hlen : (Lib.join (dotsUpto l l.length) [47]).length ≤ 140737488355328 := by
        rw [← hD.out]; have := dotsA_len p; omega
      have hol := dotsUpto_len l l.length
      generalize dotsUpto l l.length = o at hown hol hlen hD
      rcases List.eq_nil_or_concat o with ho | ⟨o', y, ho⟩
      · subst ho
        obtain ⟨va, vc, rfl⟩ := hown.shape
        go_wp2_with fail
        refine (joinNone _ _ _ _).mono ?_
        rintro e w2 ⟨rfl, rfl⟩
        go_wp2_with fail
        go_ret
        exact ⟨ret_str hD.out.symm, hbel⟩
      · rw [List.concat_eq_append] at ho
        subst ho
        obtain ⟨g, cap, rfl, hcap, hgB, hpop, hcells⟩ := hown.shapeC
        have hJ := joinStr g 0 cap (o' ++ [y]) [47] wr (fun j x hj => by rw [Nat.zero_add]; exact hcells j x hj) (World.block_lt_of_cell? wr _ (hcells o'.length y (by simp))) (by omega) (by simpa using hcap) hlen
        rw [List.length_append] at hJ
        clear hcells
        go_wp2_with fail
        refine hJ.mono ?_
        rintro e w2 ⟨rfl, hb2⟩
        go_wp2_with fail
        go_ret
        exact ⟨ret_str hD.out.symm, hbel.trans (hb2.mono hbel.size)⟩
set_option maxHeartbeats 1000000 in
set_option maxRecDepth 100000 in
theorem resolve_scheme (b a : Addr) (w : World) (hl : a.path.length ≤ 2147483648) (hg : Ground w) (hs : a.scheme ≠ []) :
    Calls Tryz.prog 50 #[b.val, a.val] w fun e w' => e = .returned (resolveA b a).val ∧ Below w.heap.size w w' := by
  obtain ⟨s, ha, u, p, hq, q, hf, f⟩ := a
  simp only at hl hs
  have hR := Lib.hid (show resolveA b ⟨s, ha, u, p, hq, q, hf, f⟩ = ⟨s, ha, u, dotsA p, hq, q, hf, f⟩ from if_pos hs)
  have hsb : s.isEmpty = false := by rw [Bool.eq_false_iff]; simpa using hs
  have hsb2 : (!s.isEmpty) = true := by rw [hsb]; rfl
  go_enter Tryz.func50, Tryz.ntmps50
  go_wp2_with fail
  refine (dots_any p _ (by omega) (hg.next (by go_grown))).mono ?_
  rintro e w1 ⟨rfl, hb⟩
  have r1 := ((Blk.new (w.alloc (.cells b.cells 36)) (Addr.cells ⟨s, ha, u, p, hq, q, hf, f⟩) 36).alloc (.cells zCells 36)).next hb (by go_size)
  have r2 := (Blk.new ((w.alloc (.cells b.cells 36)).alloc (.cells (Addr.cells ⟨s, ha, u, p, hq, q, hf, f⟩) 36)) zCells 36).next hb (by go_size)
  rw [World.size_alloc] at r1
  rw [World.size_alloc, World.size_alloc] at r2
  have B1 : Below w.heap.size w w1 := ((((Below.refl _ w).alloc (Nat.le_refl _) _).alloc (by go_size) _).alloc (by go_size) _).trans (hb.mono (by go_size))
  have rc1 := r1.cell
  have rf1 := r1.free
  have rc2 := r2.cell
  have rf2 := r2.free
  have hlt1 := r1.lt
  have hlt2 := r2.lt
  go_wp2_with fail
  refine bodyPost_ret (v := (resolveA b ⟨s, ha, u, p, hq, q, hf, f⟩).val) (by rw [hR.out]; simp [results, Tryz.results50, go_sem, rc2]) rfl ⟨rfl, by go_grown⟩
set_option maxHeartbeats 1000000 in
set_option maxRecDepth 100000 in
theorem resolve_auth (b a : Addr) (w : World) (hl : a.path.length ≤ 2147483648) (hg : Ground w) (hs : a.scheme = []) (h2 : a.hasAuth = true) :
    Calls Tryz.prog 50 #[b.val, a.val] w fun e w' => e = .returned (resolveA b a).val ∧ Below w.heap.size w w' := by
  obtain ⟨s, ha, u, p, hq, q, hf, f⟩ := a
  obtain ⟨bs, bha, bu, bp, bhq, bq, bhf, bf⟩ := b
  simp only at hl hs h2
  subst hs
  subst h2
  have hR := Lib.hid (show resolveA ⟨bs, bha, bu, bp, bhq, bq, bhf, bf⟩ ⟨[], true, u, p, hq, q, hf, f⟩ = ⟨bs, true, u, dotsA p, hq, q, hf, f⟩ from rfl)
  go_enter Tryz.func50, Tryz.ntmps50
  go_upto_region 1 with fail
  go_cut [7] (fun s7 wx => s7 = .bool false ∧ Blk wx w.heap.size (Addr.cells ⟨bs, bha, bu, bp, bhq, bq, bhf, bf⟩) 36 ∧ Blk wx (w.heap.size + 1) (Addr.cells ⟨[], true, u, p, hq, q, hf, f⟩) 36 ∧ Blk wx (w.heap.size + 2) zCells 36 ∧ Below w.heap.size w wx)
  case first =>
    have r1 := ((Blk.new (w.alloc (.cells (Addr.cells ⟨bs, bha, bu, bp, bhq, bq, bhf, bf⟩) 36)) (Addr.cells ⟨[], true, u, p, hq, q, hf, f⟩) 36).alloc (.cells zCells 36))
    have r2 := (Blk.new ((w.alloc (.cells (Addr.cells ⟨bs, bha, bu, bp, bhq, bq, bhf, bf⟩) 36)).alloc (.cells (Addr.cells ⟨[], true, u, p, hq, q, hf, f⟩) 36)) zCells 36)
    rw [World.size_alloc] at r1
    rw [World.size_alloc, World.size_alloc] at r2
    go_wp2_with fail
    go_meet
    exact ⟨rfl, ((Blk.new w (Addr.cells ⟨bs, bha, bu, bp, bhq, bq, bhf, bf⟩) 36).alloc _).alloc _, r1, r2, by go_grown⟩
  case rest =>
    obtain ⟨rfl, r0, r1, r2, B⟩ := hcut
    obtain ⟨w1, rfl⟩ : ∃ w1 : World, w1 = wc := ⟨_, rfl⟩
    have rc0 := r0.cell
    have rc1 := r1.cell
    have rf1 := r1.free
    have hlt0 := r0.lt
    have hlt1 := r1.lt
    have hlt2 := r2.lt
    go_upto_region 5 with fail
    go_cut [7] (fun _s7 wx => Blk wx (w.heap.size + 1) (Addr.cells ⟨bs, true, u, dotsA p, hq, q, hf, f⟩) 36 ∧ Blk wx (w.heap.size + 2) zCells 36 ∧ Below w.heap.size w wx)
    case first =>
      go_region_with ((refine (dots_any _ _ (by omega) (hg.next (by first | exact B | exact B.drew | exact B.drew.drew | exact B.drew.drew.drew | exact B.drew.drew.drew.drew))).mono ?_); (rintro e w2 ⟨rfl, hb⟩); (have K := belowStep hb (w0 := w1) (by repeat (first | exact Below.refl _ _ | assumption | refine Below.drew ?_))); (have rc0 := (r0.next K hlt0).cell); (have rc1 := (r1.next K hlt1).cell); (have rf1 := (r1.next K hlt1).free))
      all_goals go_wp2_with fail
      all_goals
        go_meet
        refine ⟨((r1.next K hlt1).set 0 (.string ⟨bs.toArray⟩)).set 3 (.string ⟨(dotsA p).toArray⟩), ((r2.next K hlt2).setO (a := ⟨w.heap.size + 1, 0, none⟩) (by simp) (.string ⟨bs.toArray⟩)).setO (a := ⟨w.heap.size + 1, 3, none⟩) (by simp) (.string ⟨(dotsA p).toArray⟩), ?_⟩
        have KK := B.trans (K.mono B.size)
        go_grown
    case rest =>
      obtain ⟨r1, r2, B⟩ := hcut
      have rc1 := r1.cell
      have rf2 := r2.free
      have rc2 := r2.cell
      have hlt2 := r2.lt
      go_wp2_with fail
      refine bodyPost_ret (v := (resolveA ⟨bs, bha, bu, bp, bhq, bq, bhf, bf⟩ ⟨[], true, u, p, hq, q, hf, f⟩).val) (by rw [hR.out]; simp [results, Tryz.results50, go_sem, rc2]) rfl ⟨rfl, by go_grown⟩
set_option maxHeartbeats 1000000 in
set_option maxRecDepth 100000 in
theorem resolve_none (b : Addr) (u q f : Bs) (hq hf : Bool)  (w : World) :
    Calls Tryz.prog 50 #[b.val, (Addr.val ⟨[], false, u, [], hq, q, hf, f⟩)] w fun e w' => e = .returned (resolveA b ⟨[], false, u, [], hq, q, hf, f⟩).val ∧ Below w.heap.size w w' := by
  obtain ⟨bs, bha, bu, bp, bhq, bq, bhf, bf⟩ := b
  have hR := Lib.hid (show resolveA ⟨bs, bha, bu, bp, bhq, bq, bhf, bf⟩ ⟨[], false, u, [], hq, q, hf, f⟩ = ⟨bs, bha, bu, bp, if hq then true else bhq, if hq then q else bq, hf, f⟩ from rfl)
  go_enter Tryz.func50, Tryz.ntmps50
  go_upto_region 1 with fail
  go_cut [7] (fun s7 wx => s7 = .bool false ∧ Blk wx w.heap.size (Addr.cells ⟨bs, bha, bu, bp, bhq, bq, bhf, bf⟩) 36 ∧ Blk wx (w.heap.size + 1) (Addr.cells ⟨[], false, u, [], hq, q, hf, f⟩) 36 ∧ Blk wx (w.heap.size + 2) zCells 36 ∧ Below w.heap.size w wx)
  case first =>
    have r1 := ((Blk.new (w.alloc (.cells (Addr.cells ⟨bs, bha, bu, bp, bhq, bq, bhf, bf⟩) 36)) (Addr.cells ⟨[], false, u, [], hq, q, hf, f⟩) 36).alloc (.cells zCells 36))
    have r2 := (Blk.new ((w.alloc (.cells (Addr.cells ⟨bs, bha, bu, bp, bhq, bq, bhf, bf⟩) 36)).alloc (.cells (Addr.cells ⟨[], false, u, [], hq, q, hf, f⟩) 36)) zCells 36)
    rw [World.size_alloc] at r1
    rw [World.size_alloc, World.size_alloc] at r2
    go_wp2_with fail
    go_meet
    exact ⟨rfl, ((Blk.new w (Addr.cells ⟨bs, bha, bu, bp, bhq, bq, bhf, bf⟩) 36).alloc _).alloc _, r1, r2, by go_grown⟩
  case rest =>
    obtain ⟨rfl, r0, r1, r2, B⟩ := hcut
    obtain ⟨w1, rfl⟩ : ∃ w1 : World, w1 = wc := ⟨_, rfl⟩
    have rc0 := r0.cell
    have rc1 := r1.cell
    have rf1 := r1.free
    have hlt0 := r0.lt
    have hlt1 := r1.lt
    have hlt2 := r2.lt
    go_upto_region 7 with fail
    go_cut [7] (fun _s7 wx => Blk wx w.heap.size (Addr.cells ⟨bs, bha, bu, bp, bhq, bq, bhf, bf⟩) 36 ∧ Blk wx (w.heap.size + 1) (Addr.cells ⟨bs, bha, bu, [], hq, q, hf, f⟩) 36 ∧ Blk wx (w.heap.size + 2) zCells 36 ∧ Below w.heap.size w wx)
    case first =>
      go_region
      all_goals go_wp2_with fail
      all_goals
        go_meet
        exact ⟨((r0.setO (a := ⟨w.heap.size + 1, 0, none⟩) (by simp) (.string ⟨bs.toArray⟩)).setO (a := ⟨w.heap.size + 1, 1, none⟩) (by simp) (.bool bha)).setO (a := ⟨w.heap.size + 1, 2, none⟩) (by simp) (.string ⟨bu.toArray⟩),
          ((r1.set 0 (.string ⟨bs.toArray⟩)).set 1 (.bool bha)).set 2 (.string ⟨bu.toArray⟩),
          ((r2.setO (a := ⟨w.heap.size + 1, 0, none⟩) (by simp) (.string ⟨bs.toArray⟩)).setO (a := ⟨w.heap.size + 1, 1, none⟩) (by simp) (.bool bha)).setO (a := ⟨w.heap.size + 1, 2, none⟩) (by simp) (.string ⟨bu.toArray⟩), by go_grown⟩
    case rest =>
      clear rc0 rc1 rf1 hlt0 hlt1 hlt2 r0 r1 r2 B
      obtain ⟨r0, r1, r2, B⟩ := hcut
      have rc0 := r0.cell
      have rc1 := r1.cell
      have rf1 := r1.free
      have hlt0 := r0.lt
      have hlt1 := r1.lt
      have hlt2 := r2.lt
      have rf2 := r2.free
      have rc2 := r2.cell
      go_upto_if 45 with fail
      cases hq with
      | true =>
        go_wp2_with fail
        refine bodyPost_ret (v := (resolveA ⟨bs, bha, bu, bp, bhq, bq, bhf, bf⟩ ⟨[], false, u, [], true, q, hf, f⟩).val) (by rw [hR.out]; simp [results, Tryz.results50, go_sem, rc2]) rfl ⟨rfl, by go_grown⟩
      | false =>
        go_wp2_with fail
        go_region
        all_goals go_wp2_with fail
        all_goals
          refine bodyPost_ret (v := (resolveA ⟨bs, bha, bu, bp, bhq, bq, bhf, bf⟩ ⟨[], false, u, [], false, q, hf, f⟩).val) (by rw [hR.out]; simp [results, Tryz.results50, go_sem, rc2]) rfl ⟨rfl, by go_grown⟩
set_option maxHeartbeats 1000000 in
set_option maxRecDepth 100000 in
theorem resolve_root (b : Addr) (u q f : Bs) (hq hf : Bool) {l : Bs} (hl : l.length ≤ 2147483648) (w : World) : Ground w →
    Calls Tryz.prog 50 #[b.val, (Addr.val ⟨[], false, u, (47 :: l), hq, q, hf, f⟩)] w fun e w' => e = .returned (resolveA b ⟨[], false, u, (47 :: l), hq, q, hf, f⟩).val ∧ Below w.heap.size w w' := by
  obtain ⟨bs, bha, bu, bp, bhq, bq, bhf, bf⟩ := b
  intro hg
  have hR := Lib.hid (show resolveA ⟨bs, bha, bu, bp, bhq, bq, bhf, bf⟩ ⟨[], false, u, 47 :: l, hq, q, hf, f⟩ = ⟨bs, bha, bu, dotsA (47 :: l), hq, q, hf, f⟩ from rfl)
  go_enter Tryz.func50, Tryz.ntmps50
  go_upto_region 1 with fail
  go_cut [7] (fun s7 wx => s7 = .bool false ∧ Blk wx w.heap.size (Addr.cells ⟨bs, bha, bu, bp, bhq, bq, bhf, bf⟩) 36 ∧ Blk wx (w.heap.size + 1) (Addr.cells ⟨[], false, u, 47 :: l, hq, q, hf, f⟩) 36 ∧ Blk wx (w.heap.size + 2) zCells 36 ∧ Below w.heap.size w wx)
  case first =>
    have r1 := ((Blk.new (w.alloc (.cells (Addr.cells ⟨bs, bha, bu, bp, bhq, bq, bhf, bf⟩) 36)) (Addr.cells ⟨[], false, u, 47 :: l, hq, q, hf, f⟩) 36).alloc (.cells zCells 36))
    have r2 := (Blk.new ((w.alloc (.cells (Addr.cells ⟨bs, bha, bu, bp, bhq, bq, bhf, bf⟩) 36)).alloc (.cells (Addr.cells ⟨[], false, u, 47 :: l, hq, q, hf, f⟩) 36)) zCells 36)
    rw [World.size_alloc] at r1
    rw [World.size_alloc, World.size_alloc] at r2
    go_wp2_with fail
    go_meet
    exact ⟨rfl, ((Blk.new w (Addr.cells ⟨bs, bha, bu, bp, bhq, bq, bhf, bf⟩) 36).alloc _).alloc _, r1, r2, by go_grown⟩
  case rest =>
    obtain ⟨rfl, r0, r1, r2, B⟩ := hcut
    obtain ⟨w1, rfl⟩ : ∃ w1 : World, w1 = wc := ⟨_, rfl⟩
    have rc0 := r0.cell
    have rc1 := r1.cell
    have rf1 := r1.free
    have hlt0 := r0.lt
    have hlt1 := r1.lt
    have hlt2 := r2.lt
    go_upto_region 7 with fail
    go_cut [7] (fun _s7 wx => Blk wx w.heap.size (Addr.cells ⟨bs, bha, bu, bp, bhq, bq, bhf, bf⟩) 36 ∧ Blk wx (w.heap.size + 1) (Addr.cells ⟨bs, bha, bu, 47 :: l, hq, q, hf, f⟩) 36 ∧ Blk wx (w.heap.size + 2) zCells 36 ∧ Below w.heap.size w wx)
    case first =>
      go_region
      all_goals go_wp2_with fail
      all_goals
        go_meet
        exact ⟨((r0.setO (a := ⟨w.heap.size + 1, 0, none⟩) (by simp) (.string ⟨bs.toArray⟩)).setO (a := ⟨w.heap.size + 1, 1, none⟩) (by simp) (.bool bha)).setO (a := ⟨w.heap.size + 1, 2, none⟩) (by simp) (.string ⟨bu.toArray⟩),
          ((r1.set 0 (.string ⟨bs.toArray⟩)).set 1 (.bool bha)).set 2 (.string ⟨bu.toArray⟩),
          ((r2.setO (a := ⟨w.heap.size + 1, 0, none⟩) (by simp) (.string ⟨bs.toArray⟩)).setO (a := ⟨w.heap.size + 1, 1, none⟩) (by simp) (.bool bha)).setO (a := ⟨w.heap.size + 1, 2, none⟩) (by simp) (.string ⟨bu.toArray⟩), by go_grown⟩
    case rest =>
      clear rc0 rc1 rf1 hlt0 hlt1 hlt2 r0 r1 r2 B
      obtain ⟨r0, r1, r2, B⟩ := hcut
      have rc0 := r0.cell
      have rc1 := r1.cell
      have rf1 := r1.free
      have hlt0 := r0.lt
      have hlt1 := r1.lt
      have hlt2 := r2.lt
      have rf2 := r2.free
      have rc2 := r2.cell
      go_wp2_with fail
      refine (dots_any (47 :: l) _ (by simp; omega) (hg.next B)).mono ?_
      rintro e w2 ⟨rfl, hb⟩
      have s1 := r1.next hb hlt1
      have s2 := r2.next hb hlt2
      have K := B.trans (hb.mono B.size)
      clear rc0 rc1 rf1 rf2 rc2 r0 r1 r2 B hlt0 hlt1 hlt2
      have rc1 := s1.cell
      have rf1 := s1.free
      have rc2 := s2.cell
      have rf2 := s2.free
      have hlt1 := s1.lt
      have hlt2 := s2.lt
      go_wp2_with fail
      refine bodyPost_ret (v := (resolveA ⟨bs, bha, bu, bp, bhq, bq, bhf, bf⟩ ⟨[], false, u, 47 :: l, hq, q, hf, f⟩).val) (by rw [hR.out]; simp [results, Tryz.results50, go_sem, rc2]) rfl ⟨rfl, by go_grown⟩
set_option maxHeartbeats 1000000 in
set_option maxRecDepth 100000 in
theorem resolve_on (b : Addr) (u q f : Bs) (hq hf : Bool) {c : UInt8} {l : Bs} (hc : c ≠ 47) (hl : l.length ≤ 1073741824) (hbl : b.path.length ≤ 1073741824) (w : World) : Ground w →
    Calls Tryz.prog 50 #[b.val, (Addr.val ⟨[], false, u, (c :: l), hq, q, hf, f⟩)] w fun e w' => e = .returned (resolveA b ⟨[], false, u, (c :: l), hq, q, hf, f⟩).val ∧ Below w.heap.size w w' := by
  obtain ⟨bs, bha, bu, bp, bhq, bq, bhf, bf⟩ := b
  intro hg
  simp only at hbl
  have hR := Lib.hid (show resolveA ⟨bs, bha, bu, bp, bhq, bq, bhf, bf⟩ ⟨[], false, u, c :: l, hq, q, hf, f⟩ = ⟨bs, bha, bu, dotsA (ahead ⟨bs, bha, bu, bp, bhq, bq, bhf, bf⟩ ++ c :: l), hq, q, hf, f⟩ from if_neg hc)
  have hal := ahead_len ⟨bs, bha, bu, bp, bhq, bq, bhf, bf⟩
  simp only at hal
  have hcb : ((c.toNat : Int) == 47) = false := by
    rw [beq_eq_false_iff_ne]; intro e; apply hc; apply UInt8.toNat_inj.1; show c.toNat = 47; omega
  have hcb2 : ((c.toNat : Int) != 47) = true := by simp only [bne, hcb]; rfl
  have hk := lastIndexByte_le bp 47
  have hL := fun w => lastIdx bp 47 w (by omega)
  have hA : Hid (ahead ⟨bs, bha, bu, bp, bhq, bq, bhf, bf⟩ = if bha && bp.isEmpty then [47] else bp.take (Lib.lastIndexByte ⟨bp.toArray⟩ 47 + 1).toNat) := Lib.hid rfl
  generalize Lib.lastIndexByte ⟨bp.toArray⟩ 47 = k at hk hL hA
  go_enter Tryz.func50, Tryz.ntmps50
  go_upto_region 1 with fail
  go_cut [7] (fun s7 wx => s7 = .bool false ∧ Blk wx w.heap.size (Addr.cells ⟨bs, bha, bu, bp, bhq, bq, bhf, bf⟩) 36 ∧ Blk wx (w.heap.size + 1) (Addr.cells ⟨[], false, u, c :: l, hq, q, hf, f⟩) 36 ∧ Blk wx (w.heap.size + 2) zCells 36 ∧ Below w.heap.size w wx)
  case first =>
    have r1 := ((Blk.new (w.alloc (.cells (Addr.cells ⟨bs, bha, bu, bp, bhq, bq, bhf, bf⟩) 36)) (Addr.cells ⟨[], false, u, c :: l, hq, q, hf, f⟩) 36).alloc (.cells zCells 36))
    have r2 := (Blk.new ((w.alloc (.cells (Addr.cells ⟨bs, bha, bu, bp, bhq, bq, bhf, bf⟩) 36)).alloc (.cells (Addr.cells ⟨[], false, u, c :: l, hq, q, hf, f⟩) 36)) zCells 36)
    rw [World.size_alloc] at r1
    rw [World.size_alloc, World.size_alloc] at r2
    go_wp2_with fail
    go_meet
    exact ⟨rfl, ((Blk.new w (Addr.cells ⟨bs, bha, bu, bp, bhq, bq, bhf, bf⟩) 36).alloc _).alloc _, r1, r2, by go_grown⟩
  case rest =>
    obtain ⟨rfl, r0, r1, r2, B⟩ := hcut
    obtain ⟨w1, rfl⟩ : ∃ w1 : World, w1 = wc := ⟨_, rfl⟩
    have rc0 := r0.cell
    have rc1 := r1.cell
    have rf1 := r1.free
    have hlt0 := r0.lt
    have hlt1 := r1.lt
    have hlt2 := r2.lt
    go_upto_region 7 with fail
    go_cut [7] (fun _s7 wx => Blk wx w.heap.size (Addr.cells ⟨bs, bha, bu, bp, bhq, bq, bhf, bf⟩) 36 ∧ Blk wx (w.heap.size + 1) (Addr.cells ⟨bs, bha, bu, c :: l, hq, q, hf, f⟩) 36 ∧ Blk wx (w.heap.size + 2) zCells 36 ∧ Below w.heap.size w wx)
    case first =>
      go_region
      all_goals go_wp2_with fail
      all_goals
        go_meet
        exact ⟨((r0.setO (a := ⟨w.heap.size + 1, 0, none⟩) (by simp) (.string ⟨bs.toArray⟩)).setO (a := ⟨w.heap.size + 1, 1, none⟩) (by simp) (.bool bha)).setO (a := ⟨w.heap.size + 1, 2, none⟩) (by simp) (.string ⟨bu.toArray⟩),
          ((r1.set 0 (.string ⟨bs.toArray⟩)).set 1 (.bool bha)).set 2 (.string ⟨bu.toArray⟩),
          ((r2.setO (a := ⟨w.heap.size + 1, 0, none⟩) (by simp) (.string ⟨bs.toArray⟩)).setO (a := ⟨w.heap.size + 1, 1, none⟩) (by simp) (.bool bha)).setO (a := ⟨w.heap.size + 1, 2, none⟩) (by simp) (.string ⟨bu.toArray⟩), by go_grown⟩
    case rest =>
      clear rc0 rc1 rf1 hlt0 hlt1 hlt2 r0 r1 r2 B
      obtain ⟨r0, r1, r2, B⟩ := hcut
      have rc0 := r0.cell
      have rc1 := r1.cell
      have rf1 := r1.free
      have hlt0 := r0.lt
      have hlt1 := r1.lt
      have hlt2 := r2.lt
      have rf2 := r2.free
      have rc2 := r2.cell
      go_wp2_with fail
      refine (hL _).mono ?_
      rintro e w2 ⟨rfl, rfl⟩
      cases bha with
      | false =>
          go_wp2_with fail
          refine (dots_any _ _ (by simp; omega) (hg.next (by go_grown))).mono ?_
          rintro e w3 ⟨rfl, hb⟩
          have s1 := (r1.set 3 _).next hb (by go_size)
          have s2 := (r2.setO (a := ⟨w.heap.size + 1, 3, none⟩) (by simp) _).next hb (by go_size)
          have K := (B.setCell (p := ⟨w.heap.size + 1, 3, none⟩) (by simp) _).trans (hb.mono (by have := B.size; go_size))
          clear rc0 rc1 rf1 rf2 rc2 r0 r1 r2 B hlt0 hlt1 hlt2
          have rc1 := s1.cell
          have rf1 := s1.free
          have rc2 := s2.cell
          have rf2 := s2.free
          have hlt1 := s1.lt
          have hlt2 := s2.lt
          go_wp2_with fail
          refine bodyPost_ret (v := (resolveA ⟨bs, false, bu, bp, bhq, bq, bhf, bf⟩ ⟨[], false, u, c :: l, hq, q, hf, f⟩).val) (by rw [hR.out, hA.out]; simp [results, Tryz.results50, go_sem, rc2]) rfl ⟨rfl, by go_grown⟩
      | true =>
        cases bp with
        | nil =>
          have hk1 : -1 ≤ k := hk.1
          have hk2 : k < 0 := hk.2
          clear hk
          go_wp2_with fail
          refine (dots_any _ _ (by simp; omega) (hg.next (by go_grown))).mono ?_
          rintro e w3 ⟨rfl, hb⟩
          have s1 := (r1.set 3 _).next hb (by go_size)
          have s2 := (r2.setO (a := ⟨w.heap.size + 1, 3, none⟩) (by simp) _).next hb (by go_size)
          have K := (B.setCell (p := ⟨w.heap.size + 1, 3, none⟩) (by simp) _).trans (hb.mono (by have := B.size; go_size))
          clear rc0 rc1 rf1 rf2 rc2 r0 r1 r2 B hlt0 hlt1 hlt2
          have rc1 := s1.cell
          have rf1 := s1.free
          have rc2 := s2.cell
          have rf2 := s2.free
          have hlt1 := s1.lt
          have hlt2 := s2.lt
          go_wp2_with fail
          refine bodyPost_ret (v := (resolveA ⟨bs, true, bu, [], bhq, bq, bhf, bf⟩ ⟨[], false, u, c :: l, hq, q, hf, f⟩).val) (by rw [hR.out, hA.out]; simp [results, Tryz.results50, go_sem, rc2]) rfl ⟨rfl, by go_grown⟩
        | cons x bp =>
          have hk1 : -1 ≤ k := hk.1
          have hk2 : k < (bp.length : Int) + 1 := hk.2
          clear hk
          have hbl' : bp.length + 1 ≤ 1073741824 := hbl
          go_wp2_with fail
          refine (dots_any _ _ (by simp; omega) (hg.next (by go_grown))).mono ?_
          rintro e w3 ⟨rfl, hb⟩
          have s1 := (r1.set 3 _).next hb (by go_size)
          have s2 := (r2.setO (a := ⟨w.heap.size + 1, 3, none⟩) (by simp) _).next hb (by go_size)
          have K := (B.setCell (p := ⟨w.heap.size + 1, 3, none⟩) (by simp) _).trans (hb.mono (by have := B.size; go_size))
          clear rc0 rc1 rf1 rf2 rc2 r0 r1 r2 B hlt0 hlt1 hlt2
          have rc1 := s1.cell
          have rf1 := s1.free
          have rc2 := s2.cell
          have rf2 := s2.free
          have hlt1 := s1.lt
          have hlt2 := s2.lt
          go_wp2_with fail
          refine bodyPost_ret (v := (resolveA ⟨bs, true, bu, (x :: bp), bhq, bq, bhf, bf⟩ ⟨[], false, u, c :: l, hq, q, hf, f⟩).val) (by rw [hR.out, hA.out]; simp [results, Tryz.results50, go_sem, rc2]) rfl ⟨rfl, by go_grown⟩
theorem resolve_any (b a : Addr) (w : World) (hb : b.path.length ≤ 1073741824) (ha : a.path.length ≤ 1073741824) (hg : Ground w) :
    Calls Tryz.prog 50 #[b.val, a.val] w fun e w' => e = .returned (resolveA b a).val ∧ Below w.heap.size w w' := by
  by_cases h1 : a.scheme = []
  · cases h2 : a.hasAuth with
    | true => exact resolve_auth b a w (by omega) hg h1 h2
    | false =>
      obtain ⟨s, ha', u, p, hq, q, hf, f⟩ := a
      simp only at h1 h2 ha
      subst h1
      subst h2
      cases p with
      | nil => exact resolve_none b u q f hq hf w
      | cons c l =>
        have hl : l.length + 1 ≤ 1073741824 := ha
        by_cases hc : c = 47
        · subst hc
          exact resolve_root b u q f hq hf (by omega) w hg
        · exact resolve_on b u q f hq hf hc (by omega) hb w hg
  · exact resolve_scheme b a w (by omega) hg h1
def Addr.len (a : Addr) : Nat := a.scheme.length + a.auth.length + a.path.length + a.query.length + a.frag.length
def bits (b : Bool) (l : Bs) : Bs := if b then l else []
theorem bits_le (b : Bool) (l : Bs) : (bits b l).length ≤ l.length := by cases b <;> simp [bits]
theorem writeA_bits (a : Addr) : writeA a = bits (!a.scheme.isEmpty) (a.scheme ++ [58]) ++ bits a.hasAuth (47 :: 47 :: a.auth) ++ a.path ++ bits a.hasQuery (63 :: a.query) ++ bits a.hasFrag (35 :: a.frag) := by
  unfold writeA bits
  cases h : a.scheme <;> simp
set_option maxHeartbeats 1000000 in
set_option maxRecDepth 100000 in
theorem addrWrite_any (a : Addr) (w : World) (hl : a.len ≤ 140737488355000) :
    Calls Tryz.prog 51 #[a.val] w fun e w' => e = .returned (.string ⟨(writeA a).toArray⟩) ∧ Below w.heap.size w w' := by
  obtain ⟨s, ha, u, p, hq, q, hf, f⟩ := a
  unfold Addr.len at hl
  simp only at hl
  go_enter Tryz.func51, Tryz.ntmps51
  go_upto_if 6 with fail
  go_cut [0, 2] (fun _s0 s2 wx => s2 = .string ⟨#[]⟩ ∧ Blk wx w.heap.size (Addr.cells ⟨s, ha, u, p, hq, q, hf, f⟩) 36 ∧ Bld (w.heap.size + 1) (w.heap.size + 1) (bits (!s.isEmpty) (s ++ [58])) wx ∧ Below w.heap.size w wx)
  case first =>
    have r0 := (Blk.new w (Addr.cells ⟨s, ha, u, p, hq, q, hf, f⟩) 36).alloc (.cells #[.pointer none, .slice none 0 0] 128)
    have b0 := (bldNew (w.alloc (.cells (Addr.cells ⟨s, ha, u, p, hq, q, hf, f⟩) 36)))
    rw [World.size_alloc] at b0
    have B0 : Below w.heap.size w _ := ((Below.refl _ w).alloc (Nat.le_refl _) (.cells (Addr.cells ⟨s, ha, u, p, hq, q, hf, f⟩) 36)).alloc (by go_size) (.cells #[.pointer none, .slice none 0 0] 128)
    have rc := r0.cell
    go_wp2_with fail
    · refine (wrStr (w.heap.size + 1) _ _ _ _ b0 (by simp; omega) r0.lt).mono ?_
      have hs : (!List.isEmpty s) = true := by assumption
      rintro e w1 ⟨rfl, b', hb'⟩
      go_wp2_with fail
      go_meet
      refine ⟨rfl, r0.next hb' (by omega), ?_, B0.trans (hb'.mono (by omega))⟩
      rw [hs]; simpa [bits] using b'
    · go_meet
      have hs : (!List.isEmpty s) = false := by assumption
      refine ⟨rfl, r0, ?_, B0⟩
      rw [hs]; simpa [bits] using b0
  case rest =>
    obtain ⟨rfl, r1, b1, B1⟩ := hcut
    have rc1 := r1.cell
    go_upto_if 12 with fail
    go_cut [0, 2] (fun _s0 s2 wx => s2 = .string ⟨#[]⟩ ∧ Blk wx w.heap.size (Addr.cells ⟨s, ha, u, p, hq, q, hf, f⟩) 36 ∧ Bld (w.heap.size + 1) (w.heap.size + 1) (bits (!s.isEmpty) (s ++ [58]) ++ bits ha (47 :: 47 :: u)) wx ∧ Below w.heap.size w wx)
    case first =>
      have rc := r1.cell
      go_wp2_with fail
      · refine (wrStr (w.heap.size + 1) _ _ _ _ b1 (by have := bits_le (!s.isEmpty) (s ++ [58]); simp at *; omega) r1.lt).mono ?_
        have hs : ha = true := by assumption
        rintro e w1 ⟨rfl, b', hb'⟩
        go_wp2_with fail
        go_meet
        refine ⟨rfl, r1.next hb' (by omega), ?_, B1.trans (hb'.mono (by omega))⟩
        simpa [bits, hs] using b'
      · go_meet
        have hs : ha = false := by assumption
        refine ⟨rfl, r1, ?_, B1⟩
        simpa [bits, hs] using b1
    case rest =>
      obtain ⟨rfl, r2, b2, B2⟩ := hcut
      have rc := r2.cell
      go_wp2_with fail
      refine (wrStr (w.heap.size + 1) _ _ _ _ b2 (by have := bits_le (!s.isEmpty) (s ++ [58]); have := bits_le ha (47 :: 47 :: u); simp at *; omega) r2.lt).mono ?_
      rintro e w3 ⟨rfl, b3, hb3⟩
      have r3 := r2.next hb3 (by omega)
      have B3 := B2.trans (hb3.mono (by omega))
      clear rc r2 B2 hb3 b2
      have rc := r3.cell
      go_upto_if 21 with fail
      go_cut [0, 2] (fun _s0 s2 wx => s2 = .string ⟨#[]⟩ ∧ Blk wx w.heap.size (Addr.cells ⟨s, ha, u, p, hq, q, hf, f⟩) 36 ∧ Bld (w.heap.size + 1) (w.heap.size + 1) (bits (!s.isEmpty) (s ++ [58]) ++ bits ha (47 :: 47 :: u) ++ p ++ bits hq (63 :: q)) wx ∧ Below w.heap.size w wx)
      case first =>
        have rc := r3.cell
        go_wp2_with fail
        · refine (wrStr (w.heap.size + 1) _ _ _ _ b3 (by have := bits_le (!s.isEmpty) (s ++ [58]); have := bits_le ha (47 :: 47 :: u); simp at *; omega) r3.lt).mono ?_
          have hs : hq = true := by assumption
          rintro e w1 ⟨rfl, b', hb'⟩
          go_wp2_with fail
          go_meet
          refine ⟨rfl, r3.next hb' (by omega), ?_, B3.trans (hb'.mono (by omega))⟩
          simpa [bits, hs] using b'
        · go_meet
          have hs : hq = false := by assumption
          refine ⟨rfl, r3, ?_, B3⟩
          simpa [bits, hs] using b3
      case rest =>
        obtain ⟨rfl, r4, b4, B4⟩ := hcut
        have rc4 := r4.cell
        go_upto_if 27 with fail
        go_cut [0, 2] (fun _s0 s2 wx => s2 = .string ⟨#[]⟩ ∧ Blk wx w.heap.size (Addr.cells ⟨s, ha, u, p, hq, q, hf, f⟩) 36 ∧ Bld (w.heap.size + 1) (w.heap.size + 1) (bits (!s.isEmpty) (s ++ [58]) ++ bits ha (47 :: 47 :: u) ++ p ++ bits hq (63 :: q) ++ bits hf (35 :: f)) wx ∧ Below w.heap.size w wx)
        case first =>
          have rc := r4.cell
          go_wp2_with fail
          · refine (wrStr (w.heap.size + 1) _ _ _ _ b4 (by have := bits_le (!s.isEmpty) (s ++ [58]); have := bits_le ha (47 :: 47 :: u); have := bits_le hq (63 :: q); simp at *; omega) r4.lt).mono ?_
            have hs : hf = true := by assumption
            rintro e w1 ⟨rfl, b', hb'⟩
            go_wp2_with fail
            go_meet
            refine ⟨rfl, r4.next hb' (by omega), ?_, B4.trans (hb'.mono (by omega))⟩
            simpa [bits, hs] using b'
          · go_meet
            have hs : hf = false := by assumption
            refine ⟨rfl, r4, ?_, B4⟩
            simpa [bits, hs] using b4
        case rest =>
          obtain ⟨rfl, r5, b5, B5⟩ := hcut
          go_wp2_with fail
          refine (bldStr (w.heap.size + 1) _ _ _ b5 r5.lt).mono ?_
          rintro e w6 ⟨rfl, hb6⟩
          go_wp2_with fail
          go_ret
          refine ⟨ret_str ?_, B5.trans (hb6.mono (by omega))⟩
          rw [writeA_bits]
          simp
end Go.Proofs.YtignjjnflcpiiaaGreatDoor
