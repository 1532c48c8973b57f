/-
  The document's Resolve gives where an address leads that stands at another one. Condition: the paths take at most 2^30 bytes each.
-/
import Derived.Test.YtignjjnflcpiiaaDoorRefDots
import Derived.Test.YtignjjnflcpiiaaDoorResP
namespace Go.Proofs.YtignjjnflcpiiaaDoor
open Go Go.RowKit

/-- What a path has up to the last slash among its first k bytes. -/
def dirU (l : Bs) : Nat → Bs
  | 0 => []
  | k + 1 => if l.getD k 0 = 47 then l.take (k + 1) else dirU l k
theorem dirU_len (l : Bs) (k : Nat) : (dirU l k).length ≤ k := by
  induction k with
  | zero => simp [dirU]
  | succ k ih =>
    unfold dirU
    split
    · simp; omega
    · omega
theorem dirU_yes {l : Bs} {k : Nat} (h : k < l.length) (e : l[k] = 47) : dirU l (k + 1) = l.take (k + 1) := by
  unfold dirU
  rw [if_pos]
  rw [List.getD_eq_getElem?_getD, List.getElem?_eq_getElem h]; exact e
theorem dirU_no {l : Bs} {k : Nat} (h : k < l.length) (e : l[k] ≠ 47) : dirU l (k + 1) = dirU l k := by
  show (if l.getD k 0 = 47 then l.take (k + 1) else dirU l k) = dirU l k
  rw [if_neg]
  rw [List.getD_eq_getElem?_getD, List.getElem?_eq_getElem h]; exact e
theorem dirU_idx (l : Bs) (k : Nat) (hk : k ≤ l.length) : dirU l k = l.take (Lib.lastIdx ⟨l.toArray⟩ 47 k + 1).toNat := by
  induction k with
  | zero => simp [dirU, Lib.lastIdx]
  | succ k ih =>
    have hlt : k < l.length := by omega
    have ih := ih (by omega)
    unfold Lib.lastIdx
    by_cases e : l[k] = 47
    · rw [dirU_yes hlt e, if_pos]
      · congr 1
      · simp [e, hlt]
    · rw [dirU_no hlt e, if_neg, ih]
      simp [hlt]
      intro h
      apply e
      apply UInt8.toNat_inj.1
      show l[k].toNat = 47
      omega
theorem dirU_all (l : Bs) : dirU l l.length = dirOf l := dirU_idx l l.length (Nat.le_refl _)

set_option maxHeartbeats 1000000 in
set_option maxRecDepth 100000 in
theorem refResolve_own (b a : Addr) (w : World) (hl : a.path.length ≤ 2147483648) (hg : Ground w) (hs : a.scheme ≠ [] ∨ a.hasAuth = true) :
    Calls Tryd.prog 15 #[b.val, a.val] w fun e w' => e = .returned (resolveA b a).val ∧ Below w.heap.size w w' := by
  obtain ⟨s, ha, u, p, hq, q, hf, f⟩ := a
  simp only at hl hs
  have hR := Lib.hid (show resolveA b ⟨s, ha, u, p, hq, q, hf, f⟩ = ⟨if s = [] then b.scheme else s, ha, u, dotsA p, hq, q, hf, f⟩ from by
    unfold resolveA
    by_cases h1 : s = []
    · rcases hs with hs | hs
      · exact absurd h1 hs
      · simp [h1, hs]
    · simp [h1])
  go_enter Tryd.func15, Tryd.ntmps15
  go_upto_region 1 with fail
  have r0 := ((Blk.new w b.cells 24).alloc (.cells (Addr.cells ⟨s, ha, u, p, hq, q, hf, f⟩) 24)).alloc (.cells zCells 24)
  have r1 := ((Blk.new (w.alloc (.cells b.cells 24)) (Addr.cells ⟨s, ha, u, p, hq, q, hf, f⟩) 24).alloc (.cells zCells 24))
  have r2 := (Blk.new ((w.alloc (.cells b.cells 24)).alloc (.cells (Addr.cells ⟨s, ha, u, p, hq, q, hf, f⟩) 24)) zCells 24)
  rw [World.size_alloc] at r1
  rw [World.size_alloc, World.size_alloc] at r2
  have B : Below w.heap.size w _ := (((Below.refl _ w).alloc (Nat.le_refl _) (.cells b.cells 24)).alloc (by go_size) (.cells (Addr.cells ⟨s, ha, u, p, hq, q, hf, f⟩) 24)).alloc (by go_size) (.cells zCells 24)
  generalize hw1 : ((w.alloc (.cells b.cells 24)).alloc (.cells (Addr.cells ⟨s, ha, u, p, hq, q, hf, f⟩) 24)).alloc (.cells zCells 24) = w1 at r0 r1 r2 B ⊢
  clear hw1
  go_cut [15] (fun s15 wx => s15 = .bool true ∧ wx = w1)
  case first =>
    have rc1 := r1.cell
    cases s with
    | nil =>
      have ha' : ha = true := by rcases hs with hs | hs; exact absurd rfl hs; exact hs
      subst ha'
      go_wp2_with fail
      go_meet
      exact ⟨rfl, rfl⟩
    | cons c s =>
      go_wp2_with fail
      go_meet
      exact ⟨rfl, rfl⟩
  case rest =>
    obtain ⟨rfl, rfl⟩ := hcut
    obtain ⟨w1, rfl⟩ : ∃ w1 : World, w1 = wc := ⟨_, rfl⟩
    have rc0 := r0.cell
    have rc1 := r1.cell
    have rf1 := r1.free
    have hlt0 := r0.lt
    have hlt1 := r1.lt
    have hlt2 := r2.lt
    cases s with
    | nil =>
      have B' := B.setCell (p := ⟨w.heap.size + 1, 0, none⟩) (by simp) (.string ⟨b.scheme.toArray⟩)
      go_wp2_with fail
      refine (refDots_any p _ (by omega) (hg.next B')).mono ?_
      rintro e w2 ⟨rfl, hb⟩
      have s1 := (r1.set 0 (.string ⟨b.scheme.toArray⟩)).next hb (by go_size)
      have s2 := (r2.setO (a := ⟨w.heap.size + 1, 0, none⟩) (by simp) (.string ⟨b.scheme.toArray⟩)).next hb (by go_size)
      have K := B'.trans (hb.mono (by go_size))
      clear rc0 rc1 rf1 r0 r1 r2 B B' hlt0 hlt1 hlt2 hb
      have rc1 := s1.cell
      have rf1 := s1.free
      have rc2 := s2.cell
      have rf2 := s2.free
      have hlt1 := s1.lt
      have hlt2 := s2.lt
      go_wp2_with fail
      refine bodyPost_ret (v := (resolveA b ⟨[], ha, u, p, hq, q, hf, f⟩).val) (by rw [hR.out]; simp [results, Tryd.results15, go_sem, rc2]) rfl ⟨rfl, by go_grown⟩
    | cons c s =>
      go_wp2_with fail
      refine (refDots_any p _ (by omega) (hg.next B)).mono ?_
      rintro e w2 ⟨rfl, hb⟩
      have s1 := r1.next hb (by go_size)
      have s2 := r2.next hb (by go_size)
      have K := B.trans (hb.mono B.size)
      clear rc0 rc1 rf1 r0 r1 r2 B hlt0 hlt1 hlt2 hb
      have rc1 := s1.cell
      have rf1 := s1.free
      have rc2 := s2.cell
      have rf2 := s2.free
      have hlt1 := s1.lt
      have hlt2 := s2.lt
      go_wp2_with fail
      refine bodyPost_ret (v := (resolveA b ⟨c :: s, ha, u, p, hq, q, hf, f⟩).val) (by rw [hR.out]; simp [results, Tryd.results15, go_sem, rc2]) rfl ⟨rfl, by go_grown⟩

/-- The four blocks of the second half. -/
structure RS (w W : World) (b a o : Addr) : Prop where
  r0 : Blk W w.heap.size b.cells 24
  r1 : Blk W (w.heap.size + 1) a.cells 24
  r2 : Blk W (w.heap.size + 2) zCells 24
  r3 : Blk W (w.heap.size + 3) o.cells 24
  B : Below w.heap.size w W
theorem RS.next {w W W' : World} {b a o : Addr} (h : RS w W b a o) (hb : Below W.heap.size W W') : RS w W' b a o :=
  ⟨h.r0.next hb h.r0.lt, h.r1.next hb h.r1.lt, h.r2.next hb h.r2.lt, h.r3.next hb h.r3.lt, h.B.trans (hb.mono h.B.size)⟩

set_option maxHeartbeats 2000000 in
set_option maxRecDepth 100000 in
theorem refResolve_rest (b : Addr) (u p q f : Bs) (hq hf : Bool) (w : World) (hl : p.length ≤ 1073741824) (hbl : b.path.length ≤ 1073741824) : Ground w →
    Calls Tryd.prog 15 #[b.val, (Addr.val ⟨[], false, u, p, hq, q, hf, f⟩)] w fun e w' => e = .returned (resolveA b ⟨[], false, u, p, hq, q, hf, f⟩).val ∧ Below w.heap.size w w' := by
  obtain ⟨bs, bha, bu, bp, bhq, bq, bhf, bf⟩ := b
  intro hg
  simp only at hbl
  go_enter Tryd.func15, Tryd.ntmps15
  go_upto_region 1 with fail
  go_cut [15] (fun s15 wx => s15 = .bool false ∧ Blk wx w.heap.size (Addr.cells ⟨bs, bha, bu, bp, bhq, bq, bhf, bf⟩) 24 ∧ Blk wx (w.heap.size + 1) (Addr.cells ⟨[], false, u, p, hq, q, hf, f⟩) 24 ∧ Blk wx (w.heap.size + 2) zCells 24 ∧ wx.heap.size = w.heap.size + 3 ∧ Below w.heap.size w wx)
  case first =>
    have r1 := ((Blk.new (w.alloc (.cells (Addr.cells ⟨bs, bha, bu, bp, bhq, bq, bhf, bf⟩) 24)) (Addr.cells ⟨[], false, u, p, hq, q, hf, f⟩) 24).alloc (.cells zCells 24))
    have r2 := (Blk.new ((w.alloc (.cells (Addr.cells ⟨bs, bha, bu, bp, bhq, bq, bhf, bf⟩) 24)).alloc (.cells (Addr.cells ⟨[], false, u, p, hq, q, hf, f⟩) 24)) zCells 24)
    rw [World.size_alloc] at r1
    rw [World.size_alloc, World.size_alloc] at r2
    go_wp2_with fail
    go_meet
    exact ⟨rfl, ((Blk.new w (Addr.cells ⟨bs, bha, bu, bp, bhq, bq, bhf, bf⟩) 24).alloc _).alloc _, r1, r2, by simp, by go_grown⟩
  case rest =>
    obtain ⟨rfl, r0, r1, r2, hsz, B⟩ := hcut
    obtain ⟨w1, rfl⟩ : ∃ w1 : World, w1 = wc := ⟨_, rfl⟩
    have rc0 := r0.cell
    go_upto_region 7 with fail
    have q0 := r0.alloc (.cells (Addr.cells ⟨bs, bha, bu, bp, bhq, bq, bhf, bf⟩) 24)
    have q1 := r1.alloc (.cells (Addr.cells ⟨bs, bha, bu, bp, bhq, bq, bhf, bf⟩) 24)
    have q2 := r2.alloc (.cells (Addr.cells ⟨bs, bha, bu, bp, bhq, bq, bhf, bf⟩) 24)
    have q3 := Blk.new w1 (Addr.cells ⟨bs, bha, bu, bp, bhq, bq, bhf, bf⟩) 24
    rw [hsz] at q3
    have KB := B.alloc B.size (.cells (Addr.cells ⟨bs, bha, bu, bp, bhq, bq, bhf, bf⟩) 24)
    generalize hw2 : w1.alloc (.cells (Addr.cells ⟨bs, bha, bu, bp, bhq, bq, bhf, bf⟩) 24) = w2 at q0 q1 q2 q3 KB ⊢
    clear hw2
    go_cut [5] (fun s5 wx => s5 = .pointer (some ⟨w.heap.size + 3, 0, none⟩) ∧ RS w wx ⟨bs, bha, bu, bp, bhq, bq, bhf, bf⟩ ⟨[], false, u, p, hq, q, hf, f⟩ ⟨bs, bha, bu, bp, bhq, bq, hf, f⟩)
    case first =>
      have rc1 := q1.cell
      have rc3 := q3.cell
      have rf3 := q3.free
      have hlt3 := q3.lt
      clear rc0 r0 r1 r2
      go_region
      all_goals go_wp2_with fail
      all_goals
        go_meet
        refine ⟨rfl, ⟨(q0.setO (a := ⟨w.heap.size + 3, 6, none⟩) (by simp) (.bool hf)).setO (a := ⟨w.heap.size + 3, 7, none⟩) (by simp) (.string ⟨f.toArray⟩),
          (q1.setO (a := ⟨w.heap.size + 3, 6, none⟩) (by simp) (.bool hf)).setO (a := ⟨w.heap.size + 3, 7, none⟩) (by simp) (.string ⟨f.toArray⟩),
          (q2.setO (a := ⟨w.heap.size + 3, 6, none⟩) (by simp) (.bool hf)).setO (a := ⟨w.heap.size + 3, 7, none⟩) (by simp) (.string ⟨f.toArray⟩),
          (q3.set 6 (.bool hf)).set 7 (.string ⟨f.toArray⟩),
          by have := KB.size; go_grown⟩⟩
    case rest =>
      obtain ⟨rfl, R⟩ := hcut
      clear rc0 r0 r1 r2 hsz B
      obtain ⟨w1, rfl⟩ : ∃ w1 : World, w1 = wc := ⟨_, rfl⟩
      have rc1 := R.r1.cell
      cases p with
      | nil =>
        have rc3 := R.r3.cell
        have rf3 := R.r3.free
        have rf2 := R.r2.free
        have rc2 := R.r2.cell
        have hlt2 := R.r2.lt
        have hlt3 := R.r3.lt
        have B := R.B
        have hR := Lib.hid (show resolveA ⟨bs, bha, bu, bp, bhq, bq, bhf, bf⟩ ⟨[], false, u, [], hq, q, hf, f⟩ = ⟨bs, bha, bu, bp, if hq then true else bhq, if hq then q else bq, hf, f⟩ from rfl)
        cases hq with
        | true =>
          go_wp2_with fail
          go_region
          all_goals go_wp2_with fail
          all_goals
            refine bodyPost_ret (v := (resolveA ⟨bs, bha, bu, bp, bhq, bq, bhf, bf⟩ ⟨[], false, u, [], true, q, hf, f⟩).val) (by rw [hR.out]; simp [results, Tryd.results15, go_sem, rc2]) rfl ⟨rfl, by go_grown⟩
        | false =>
          go_wp2_with fail
          refine bodyPost_ret (v := (resolveA ⟨bs, bha, bu, bp, bhq, bq, bhf, bf⟩ ⟨[], false, u, [], false, q, hf, f⟩).val) (by rw [hR.out]; simp [results, Tryd.results15, go_sem, rc2]) rfl ⟨rfl, by go_grown⟩
      | cons c l =>
        go_upto_region 9 with fail
        go_cut [5] (fun s5 wx => s5 = .pointer (some ⟨w.heap.size + 3, 0, none⟩) ∧ RS w wx ⟨bs, bha, bu, bp, bhq, bq, bhf, bf⟩ ⟨[], false, u, c :: l, hq, q, hf, f⟩ ⟨bs, bha, bu, bp, hq, q, hf, f⟩)
        case first =>
          have rc3 := R.r3.cell
          have rf3 := R.r3.free
          have hlt3 := R.r3.lt
          have KB := R.B
          go_region
          all_goals go_wp2_with fail
          all_goals
            go_meet
            refine ⟨rfl, ⟨(R.r0.setO (a := ⟨w.heap.size + 3, 4, none⟩) (by simp) (.bool hq)).setO (a := ⟨w.heap.size + 3, 5, none⟩) (by simp) (.string ⟨q.toArray⟩),
              (R.r1.setO (a := ⟨w.heap.size + 3, 4, none⟩) (by simp) (.bool hq)).setO (a := ⟨w.heap.size + 3, 5, none⟩) (by simp) (.string ⟨q.toArray⟩),
              (R.r2.setO (a := ⟨w.heap.size + 3, 4, none⟩) (by simp) (.bool hq)).setO (a := ⟨w.heap.size + 3, 5, none⟩) (by simp) (.string ⟨q.toArray⟩),
              (R.r3.set 4 (.bool hq)).set 5 (.string ⟨q.toArray⟩),
              by have := KB.size; go_grown⟩⟩
        case rest =>
          clear rc1 R
          obtain ⟨rfl, R⟩ := hcut
          obtain ⟨w1, rfl⟩ : ∃ w1 : World, w1 = wc := ⟨_, rfl⟩
          have rc1 := R.r1.cell
          by_cases hc : c = 47
          · subst hc
            have hR := Lib.hid (show resolveA ⟨bs, bha, bu, bp, bhq, bq, bhf, bf⟩ ⟨[], false, u, 47 :: l, hq, q, hf, f⟩ = ⟨bs, bha, bu, dotsA (47 :: l), hq, q, hf, f⟩ from rfl)
            have hl' : l.length + 1 ≤ 1073741824 := hl
            go_wp2_with fail
            refine (refDots_any (47 :: l) _ (by simp; omega) (hg.next R.B)).mono ?_
            rintro e w2 ⟨rfl, hb⟩
            have R := R.next hb
            clear rc1 hb
            have rc3 := R.r3.cell
            have rf3 := R.r3.free
            have rf2 := R.r2.free
            have rc2 := R.r2.cell
            have hlt2 := R.r2.lt
            have hlt3 := R.r3.lt
            have B := R.B
            go_wp2_with fail
            refine bodyPost_ret (v := (resolveA ⟨bs, bha, bu, bp, bhq, bq, bhf, bf⟩ ⟨[], false, u, 47 :: l, hq, q, hf, f⟩).val) (by rw [hR.out]; simp [results, Tryd.results15, go_sem, rc2]) rfl ⟨rfl, by go_grown⟩
          · have hl' : l.length + 1 ≤ 1073741824 := hl
            have hcb : ((c.toNat : Int) == 47) = false := by
              rw [beq_eq_false_iff_ne]; intro e; apply hc; apply UInt8.toNat_inj.1; show c.toNat = 47; omega
            have hcb2 : ((c.toNat : Int) != 47) = true := by simp only [bne, hcb]; rfl
            have hR := Lib.hid (show resolveA ⟨bs, bha, bu, bp, bhq, bq, bhf, bf⟩ ⟨[], false, u, c :: l, hq, q, hf, f⟩ = ⟨bs, bha, bu, dotsA (ahead ⟨bs, bha, bu, bp, bhq, bq, bhf, bf⟩ ++ c :: l), hq, q, hf, f⟩ from if_neg hc)
            have hal := ahead_len ⟨bs, bha, bu, bp, bhq, bq, bhf, bf⟩
            simp only at hal
            have hA : Hid (ahead ⟨bs, bha, bu, bp, bhq, bq, bhf, bf⟩ = if bha && bp.isEmpty then [47] else dirU bp bp.length) := Lib.hid (by rw [dirU_all]; rfl)
            cases bha with
            | false =>
              have rc0 := R.r0.cell
              go_upto_if 55 with fail
              go_cut [6] (fun s6 wx => s6 = .string ⟨(ahead ⟨bs, false, bu, bp, bhq, bq, bhf, bf⟩ ++ c :: l).toArray⟩ ∧ wx = w1)
              case first =>
                go_wp2_with fail
                go_loop [7, 59] (fun d i => ∃ k : Nat, k ≤ bp.length ∧ i = .int .i64 k ∧ d = .string ⟨(dirU bp k).toArray⟩) (fun _ i => bp.length - (intOf i).toNat)
                case atStart => exact ⟨0, Nat.zero_le _, rfl, rfl⟩
                case round =>
                  obtain ⟨k, hk, rfl, rfl⟩ := hrel
                  by_cases hlt : k < bp.length
                  · by_cases e : bp[k] = 47
                    · have eb : ((bp[k].toNat : Int) == 47) = true := by rw [e]; rfl
                      have hd := Lib.hid (dirU_yes hlt e)
                      clear e
                      go_wp2_with fail
                      go_round
                      case rel => exact ⟨k + 1, by omega, by go_num, by rw [hd.out]⟩
                      case measure => simp [intOf]; omega
                    · have eb : ((bp[k].toNat : Int) == 47) = false := by
                        rw [beq_eq_false_iff_ne]; intro h; apply e; apply UInt8.toNat_inj.1; show bp[k].toNat = 47; omega
                      have hd := Lib.hid (dirU_no hlt e)
                      clear e
                      go_wp2_with fail
                      go_round
                      case rel => exact ⟨k + 1, by omega, by go_num, by rw [hd.out]⟩
                      case measure => simp [intOf]; omega
                  · obtain rfl : k = bp.length := by omega
                    have hdl := dirU_len bp bp.length
                    cases hbe : bp.isEmpty
                    all_goals
                      go_wp2_with fail
                      go_meet
                      exact ⟨by rw [hA.out]; simp [hbe], rfl⟩
              case rest =>
                obtain ⟨rfl, rfl⟩ := hcut
                obtain ⟨w1, rfl⟩ : ∃ w1 : World, w1 = wc := ⟨_, rfl⟩
                generalize ahead ⟨bs, false, bu, bp, bhq, bq, bhf, bf⟩ = d at hR hal
                clear hA rc0 rc1
                go_wp2_with fail
                refine (refDots_any _ _ (by simp; omega) (hg.next R.B)).mono ?_
                rintro e w2 ⟨rfl, hb⟩
                have R := R.next hb
                clear hb
                have rc3 := R.r3.cell
                have rf3 := R.r3.free
                have rf2 := R.r2.free
                have rc2 := R.r2.cell
                have hlt2 := R.r2.lt
                have hlt3 := R.r3.lt
                have B := R.B
                go_wp2_with fail
                refine bodyPost_ret (v := (resolveA ⟨bs, false, bu, bp, bhq, bq, bhf, bf⟩ ⟨[], false, u, c :: l, hq, q, hf, f⟩).val) (by rw [hR.out]; simp [results, Tryd.results15, go_sem, rc2]) rfl ⟨rfl, by go_grown⟩
            | true =>
              have rc0 := R.r0.cell
              go_upto_if 55 with fail
              go_cut [6] (fun s6 wx => s6 = .string ⟨(ahead ⟨bs, true, bu, bp, bhq, bq, bhf, bf⟩ ++ c :: l).toArray⟩ ∧ wx = w1)
              case first =>
                go_wp2_with fail
                go_loop [7, 59] (fun d i => ∃ k : Nat, k ≤ bp.length ∧ i = .int .i64 k ∧ d = .string ⟨(dirU bp k).toArray⟩) (fun _ i => bp.length - (intOf i).toNat)
                case atStart => exact ⟨0, Nat.zero_le _, rfl, rfl⟩
                case round =>
                  obtain ⟨k, hk, rfl, rfl⟩ := hrel
                  by_cases hlt : k < bp.length
                  · by_cases e : bp[k] = 47
                    · have eb : ((bp[k].toNat : Int) == 47) = true := by rw [e]; rfl
                      have hd := Lib.hid (dirU_yes hlt e)
                      clear e
                      go_wp2_with fail
                      go_round
                      case rel => exact ⟨k + 1, by omega, by go_num, by rw [hd.out]⟩
                      case measure => simp [intOf]; omega
                    · have eb : ((bp[k].toNat : Int) == 47) = false := by
                        rw [beq_eq_false_iff_ne]; intro h; apply e; apply UInt8.toNat_inj.1; show bp[k].toNat = 47; omega
                      have hd := Lib.hid (dirU_no hlt e)
                      clear e
                      go_wp2_with fail
                      go_round
                      case rel => exact ⟨k + 1, by omega, by go_num, by rw [hd.out]⟩
                      case measure => simp [intOf]; omega
                  · obtain rfl : k = bp.length := by omega
                    have hdl := dirU_len bp bp.length
                    cases hbe : bp.isEmpty
                    all_goals
                      go_wp2_with fail
                      go_meet
                      exact ⟨by rw [hA.out]; simp [hbe], rfl⟩
              case rest =>
                obtain ⟨rfl, rfl⟩ := hcut
                obtain ⟨w1, rfl⟩ : ∃ w1 : World, w1 = wc := ⟨_, rfl⟩
                generalize ahead ⟨bs, true, bu, bp, bhq, bq, bhf, bf⟩ = d at hR hal
                clear hA rc0 rc1
                go_wp2_with fail
                refine (refDots_any _ _ (by simp; omega) (hg.next R.B)).mono ?_
                rintro e w2 ⟨rfl, hb⟩
                have R := R.next hb
                clear hb
                have rc3 := R.r3.cell
                have rf3 := R.r3.free
                have rf2 := R.r2.free
                have rc2 := R.r2.cell
                have hlt2 := R.r2.lt
                have hlt3 := R.r3.lt
                have B := R.B
                go_wp2_with fail
                refine bodyPost_ret (v := (resolveA ⟨bs, true, bu, bp, bhq, bq, bhf, bf⟩ ⟨[], false, u, c :: l, hq, q, hf, f⟩).val) (by rw [hR.out]; simp [results, Tryd.results15, go_sem, rc2]) rfl ⟨rfl, by go_grown⟩

theorem refResolve_any (b a : Addr) (w : World) (hb : b.path.length ≤ 1073741824) (ha : a.path.length ≤ 1073741824) (hg : Ground w) :
    Calls Tryd.prog 15 #[b.val, a.val] w fun e w' => e = .returned (resolveA b a).val ∧ Below w.heap.size w w' := by
  by_cases h1 : a.scheme = []
  · cases h2 : a.hasAuth with
    | true => exact refResolve_own b a w (by omega) hg (Or.inr h2)
    | false =>
      obtain ⟨s, ha', u, p, hq, q, hf, f⟩ := a
      simp only at h1 h2 ha
      subst h1
      subst h2
      exact refResolve_rest b u p q f hq hf w ha hb hg
  · exact refResolve_own b a w (by omega) hg (Or.inl h1)

end Go.Proofs.YtignjjnflcpiiaaDoor
