/-
  address.Resolve gives where an address leads that stands at another one. Condition: the paths take less than 2^31 bytes each.
-/
import Derived.Test.YtignjjnflcpiiaaDoorDots
import Derived.Test.YtignjjnflcpiiaaDoorResP
namespace Go.Proofs.YtignjjnflcpiiaaDoor
open Go Go.RowKit

set_option maxHeartbeats 1000000 in
set_option maxRecDepth 100000 in
theorem resolve_scheme (b a : Addr) (w : World) (hl : a.path.length ≤ 2147483648) (hg : Ground w) (hs : a.scheme ≠ []) :
    Calls Tryd.prog 9 #[b.val, a.val] w fun e w' => e = .returned (resolveA b a).val ∧ Below w.heap.size w w' := by
  obtain ⟨s, ha, u, p, hq, q, hf, f⟩ := a
  simp only at hl hs
  have hR := Lib.hid (show resolveA b ⟨s, ha, u, p, hq, q, hf, f⟩ = ⟨s, ha, u, dotsA p, hq, q, hf, f⟩ from if_pos hs)
  have hsb : s.isEmpty = false := by rw [Bool.eq_false_iff]; simpa using hs
  have hsb2 : (!s.isEmpty) = true := by rw [hsb]; rfl
  go_enter Tryd.func9, Tryd.ntmps9
  go_wp2_with fail
  refine (dots_any p _ (by omega) (hg.next (by go_grown))).mono ?_
  rintro e w1 ⟨rfl, hb⟩
  have r1 := ((Blk.new (w.alloc (.cells b.cells 24)) (Addr.cells ⟨s, ha, u, p, hq, q, hf, f⟩) 24).alloc (.cells zCells 24)).next hb (by go_size)
  have r2 := (Blk.new ((w.alloc (.cells b.cells 24)).alloc (.cells (Addr.cells ⟨s, ha, u, p, hq, q, hf, f⟩) 24)) zCells 24).next hb (by go_size)
  rw [World.size_alloc] at r1
  rw [World.size_alloc, World.size_alloc] at r2
  have B1 : Below w.heap.size w w1 := ((((Below.refl _ w).alloc (Nat.le_refl _) _).alloc (by go_size) _).alloc (by go_size) _).trans (hb.mono (by go_size))
  have rc1 := r1.cell
  have rf1 := r1.free
  have rc2 := r2.cell
  have rf2 := r2.free
  have hlt1 := r1.lt
  have hlt2 := r2.lt
  go_wp2_with fail
  refine bodyPost_ret (v := (resolveA b ⟨s, ha, u, p, hq, q, hf, f⟩).val) (by rw [hR.out]; simp [results, Tryd.results9, go_sem, rc2]) rfl ⟨rfl, by go_grown⟩
set_option maxHeartbeats 1000000 in
set_option maxRecDepth 100000 in
theorem resolve_auth (b a : Addr) (w : World) (hl : a.path.length ≤ 2147483648) (hg : Ground w) (hs : a.scheme = []) (h2 : a.hasAuth = true) :
    Calls Tryd.prog 9 #[b.val, a.val] w fun e w' => e = .returned (resolveA b a).val ∧ Below w.heap.size w w' := by
  obtain ⟨s, ha, u, p, hq, q, hf, f⟩ := a
  obtain ⟨bs, bha, bu, bp, bhq, bq, bhf, bf⟩ := b
  simp only at hl hs h2
  subst hs
  subst h2
  have hR := Lib.hid (show resolveA ⟨bs, bha, bu, bp, bhq, bq, bhf, bf⟩ ⟨[], true, u, p, hq, q, hf, f⟩ = ⟨bs, true, u, dotsA p, hq, q, hf, f⟩ from rfl)
  go_enter Tryd.func9, Tryd.ntmps9
  go_upto_region 1 with fail
  go_cut [7] (fun s7 wx => s7 = .bool false ∧ Blk wx w.heap.size (Addr.cells ⟨bs, bha, bu, bp, bhq, bq, bhf, bf⟩) 24 ∧ Blk wx (w.heap.size + 1) (Addr.cells ⟨[], true, u, p, hq, q, hf, f⟩) 24 ∧ Blk wx (w.heap.size + 2) zCells 24 ∧ Below w.heap.size w wx)
  case first =>
    have r1 := ((Blk.new (w.alloc (.cells (Addr.cells ⟨bs, bha, bu, bp, bhq, bq, bhf, bf⟩) 24)) (Addr.cells ⟨[], true, u, p, hq, q, hf, f⟩) 24).alloc (.cells zCells 24))
    have r2 := (Blk.new ((w.alloc (.cells (Addr.cells ⟨bs, bha, bu, bp, bhq, bq, bhf, bf⟩) 24)).alloc (.cells (Addr.cells ⟨[], true, u, p, hq, q, hf, f⟩) 24)) zCells 24)
    rw [World.size_alloc] at r1
    rw [World.size_alloc, World.size_alloc] at r2
    go_wp2_with fail
    go_meet
    exact ⟨rfl, ((Blk.new w (Addr.cells ⟨bs, bha, bu, bp, bhq, bq, bhf, bf⟩) 24).alloc _).alloc _, r1, r2, by go_grown⟩
  case rest =>
    obtain ⟨rfl, r0, r1, r2, B⟩ := hcut
    obtain ⟨w1, rfl⟩ : ∃ w1 : World, w1 = wc := ⟨_, rfl⟩
    have rc0 := r0.cell
    have rc1 := r1.cell
    have rf1 := r1.free
    have hlt0 := r0.lt
    have hlt1 := r1.lt
    have hlt2 := r2.lt
    go_upto_region 5 with fail
    go_cut [7] (fun _s7 wx => Blk wx (w.heap.size + 1) (Addr.cells ⟨bs, true, u, dotsA p, hq, q, hf, f⟩) 24 ∧ Blk wx (w.heap.size + 2) zCells 24 ∧ Below w.heap.size w wx)
    case first =>
      go_region_with ((refine (dots_any _ _ (by omega) (hg.next (by first | exact B | exact B.drew | exact B.drew.drew | exact B.drew.drew.drew | exact B.drew.drew.drew.drew))).mono ?_); (rintro e w2 ⟨rfl, hb⟩); (have K := belowStep hb (w0 := w1) (by repeat (first | exact Below.refl _ _ | assumption | refine Below.drew ?_))); (have rc0 := (r0.next K hlt0).cell); (have rc1 := (r1.next K hlt1).cell); (have rf1 := (r1.next K hlt1).free))
      all_goals go_wp2_with fail
      all_goals
        go_meet
        refine ⟨((r1.next K hlt1).set 0 (.string ⟨bs.toArray⟩)).set 3 (.string ⟨(dotsA p).toArray⟩), ((r2.next K hlt2).setO (a := ⟨w.heap.size + 1, 0, none⟩) (by simp) (.string ⟨bs.toArray⟩)).setO (a := ⟨w.heap.size + 1, 3, none⟩) (by simp) (.string ⟨(dotsA p).toArray⟩), ?_⟩
        have KK := B.trans (K.mono B.size)
        go_grown
    case rest =>
      obtain ⟨r1, r2, B⟩ := hcut
      have rc1 := r1.cell
      have rf2 := r2.free
      have rc2 := r2.cell
      have hlt2 := r2.lt
      go_wp2_with fail
      refine bodyPost_ret (v := (resolveA ⟨bs, bha, bu, bp, bhq, bq, bhf, bf⟩ ⟨[], true, u, p, hq, q, hf, f⟩).val) (by rw [hR.out]; simp [results, Tryd.results9, go_sem, rc2]) rfl ⟨rfl, by go_grown⟩

set_option maxHeartbeats 1000000 in
set_option maxRecDepth 100000 in
theorem resolve_none (b : Addr) (u q f : Bs) (hq hf : Bool)  (w : World) :
    Calls Tryd.prog 9 #[b.val, (Addr.val ⟨[], false, u, [], hq, q, hf, f⟩)] w fun e w' => e = .returned (resolveA b ⟨[], false, u, [], hq, q, hf, f⟩).val ∧ Below w.heap.size w w' := by
  obtain ⟨bs, bha, bu, bp, bhq, bq, bhf, bf⟩ := b
  have hR := Lib.hid (show resolveA ⟨bs, bha, bu, bp, bhq, bq, bhf, bf⟩ ⟨[], false, u, [], hq, q, hf, f⟩ = ⟨bs, bha, bu, bp, if hq then true else bhq, if hq then q else bq, hf, f⟩ from rfl)
  go_enter Tryd.func9, Tryd.ntmps9
  go_upto_region 1 with fail
  go_cut [7] (fun s7 wx => s7 = .bool false ∧ Blk wx w.heap.size (Addr.cells ⟨bs, bha, bu, bp, bhq, bq, bhf, bf⟩) 24 ∧ Blk wx (w.heap.size + 1) (Addr.cells ⟨[], false, u, [], hq, q, hf, f⟩) 24 ∧ Blk wx (w.heap.size + 2) zCells 24 ∧ Below w.heap.size w wx)
  case first =>
    have r1 := ((Blk.new (w.alloc (.cells (Addr.cells ⟨bs, bha, bu, bp, bhq, bq, bhf, bf⟩) 24)) (Addr.cells ⟨[], false, u, [], hq, q, hf, f⟩) 24).alloc (.cells zCells 24))
    have r2 := (Blk.new ((w.alloc (.cells (Addr.cells ⟨bs, bha, bu, bp, bhq, bq, bhf, bf⟩) 24)).alloc (.cells (Addr.cells ⟨[], false, u, [], hq, q, hf, f⟩) 24)) zCells 24)
    rw [World.size_alloc] at r1
    rw [World.size_alloc, World.size_alloc] at r2
    go_wp2_with fail
    go_meet
    exact ⟨rfl, ((Blk.new w (Addr.cells ⟨bs, bha, bu, bp, bhq, bq, bhf, bf⟩) 24).alloc _).alloc _, r1, r2, by go_grown⟩
  case rest =>
    obtain ⟨rfl, r0, r1, r2, B⟩ := hcut
    obtain ⟨w1, rfl⟩ : ∃ w1 : World, w1 = wc := ⟨_, rfl⟩
    have rc0 := r0.cell
    have rc1 := r1.cell
    have rf1 := r1.free
    have hlt0 := r0.lt
    have hlt1 := r1.lt
    have hlt2 := r2.lt
    go_upto_region 7 with fail
    go_cut [7] (fun _s7 wx => Blk wx w.heap.size (Addr.cells ⟨bs, bha, bu, bp, bhq, bq, bhf, bf⟩) 24 ∧ Blk wx (w.heap.size + 1) (Addr.cells ⟨bs, bha, bu, [], hq, q, hf, f⟩) 24 ∧ Blk wx (w.heap.size + 2) zCells 24 ∧ Below w.heap.size w wx)
    case first =>
      go_region
      all_goals go_wp2_with fail
      all_goals
        go_meet
        exact ⟨((r0.setO (a := ⟨w.heap.size + 1, 0, none⟩) (by simp) (.string ⟨bs.toArray⟩)).setO (a := ⟨w.heap.size + 1, 1, none⟩) (by simp) (.bool bha)).setO (a := ⟨w.heap.size + 1, 2, none⟩) (by simp) (.string ⟨bu.toArray⟩),
          ((r1.set 0 (.string ⟨bs.toArray⟩)).set 1 (.bool bha)).set 2 (.string ⟨bu.toArray⟩),
          ((r2.setO (a := ⟨w.heap.size + 1, 0, none⟩) (by simp) (.string ⟨bs.toArray⟩)).setO (a := ⟨w.heap.size + 1, 1, none⟩) (by simp) (.bool bha)).setO (a := ⟨w.heap.size + 1, 2, none⟩) (by simp) (.string ⟨bu.toArray⟩), by go_grown⟩
    case rest =>
      clear rc0 rc1 rf1 hlt0 hlt1 hlt2 r0 r1 r2 B
      obtain ⟨r0, r1, r2, B⟩ := hcut
      have rc0 := r0.cell
      have rc1 := r1.cell
      have rf1 := r1.free
      have hlt0 := r0.lt
      have hlt1 := r1.lt
      have hlt2 := r2.lt
      have rf2 := r2.free
      have rc2 := r2.cell
      go_upto_if 45 with fail
      cases hq with
      | true =>
        go_wp2_with fail
        refine bodyPost_ret (v := (resolveA ⟨bs, bha, bu, bp, bhq, bq, bhf, bf⟩ ⟨[], false, u, [], true, q, hf, f⟩).val) (by rw [hR.out]; simp [results, Tryd.results9, go_sem, rc2]) rfl ⟨rfl, by go_grown⟩
      | false =>
        go_wp2_with fail
        go_region
        all_goals go_wp2_with fail
        all_goals
          refine bodyPost_ret (v := (resolveA ⟨bs, bha, bu, bp, bhq, bq, bhf, bf⟩ ⟨[], false, u, [], false, q, hf, f⟩).val) (by rw [hR.out]; simp [results, Tryd.results9, go_sem, rc2]) rfl ⟨rfl, by go_grown⟩

set_option maxHeartbeats 1000000 in
set_option maxRecDepth 100000 in
theorem resolve_root (b : Addr) (u q f : Bs) (hq hf : Bool) {l : Bs} (hl : l.length ≤ 2147483648) (w : World) : Ground w →
    Calls Tryd.prog 9 #[b.val, (Addr.val ⟨[], false, u, (47 :: l), hq, q, hf, f⟩)] w fun e w' => e = .returned (resolveA b ⟨[], false, u, (47 :: l), hq, q, hf, f⟩).val ∧ Below w.heap.size w w' := by
  obtain ⟨bs, bha, bu, bp, bhq, bq, bhf, bf⟩ := b
  intro hg
  have hR := Lib.hid (show resolveA ⟨bs, bha, bu, bp, bhq, bq, bhf, bf⟩ ⟨[], false, u, 47 :: l, hq, q, hf, f⟩ = ⟨bs, bha, bu, dotsA (47 :: l), hq, q, hf, f⟩ from rfl)
  go_enter Tryd.func9, Tryd.ntmps9
  go_upto_region 1 with fail
  go_cut [7] (fun s7 wx => s7 = .bool false ∧ Blk wx w.heap.size (Addr.cells ⟨bs, bha, bu, bp, bhq, bq, bhf, bf⟩) 24 ∧ Blk wx (w.heap.size + 1) (Addr.cells ⟨[], false, u, 47 :: l, hq, q, hf, f⟩) 24 ∧ Blk wx (w.heap.size + 2) zCells 24 ∧ Below w.heap.size w wx)
  case first =>
    have r1 := ((Blk.new (w.alloc (.cells (Addr.cells ⟨bs, bha, bu, bp, bhq, bq, bhf, bf⟩) 24)) (Addr.cells ⟨[], false, u, 47 :: l, hq, q, hf, f⟩) 24).alloc (.cells zCells 24))
    have r2 := (Blk.new ((w.alloc (.cells (Addr.cells ⟨bs, bha, bu, bp, bhq, bq, bhf, bf⟩) 24)).alloc (.cells (Addr.cells ⟨[], false, u, 47 :: l, hq, q, hf, f⟩) 24)) zCells 24)
    rw [World.size_alloc] at r1
    rw [World.size_alloc, World.size_alloc] at r2
    go_wp2_with fail
    go_meet
    exact ⟨rfl, ((Blk.new w (Addr.cells ⟨bs, bha, bu, bp, bhq, bq, bhf, bf⟩) 24).alloc _).alloc _, r1, r2, by go_grown⟩
  case rest =>
    obtain ⟨rfl, r0, r1, r2, B⟩ := hcut
    obtain ⟨w1, rfl⟩ : ∃ w1 : World, w1 = wc := ⟨_, rfl⟩
    have rc0 := r0.cell
    have rc1 := r1.cell
    have rf1 := r1.free
    have hlt0 := r0.lt
    have hlt1 := r1.lt
    have hlt2 := r2.lt
    go_upto_region 7 with fail
    go_cut [7] (fun _s7 wx => Blk wx w.heap.size (Addr.cells ⟨bs, bha, bu, bp, bhq, bq, bhf, bf⟩) 24 ∧ Blk wx (w.heap.size + 1) (Addr.cells ⟨bs, bha, bu, 47 :: l, hq, q, hf, f⟩) 24 ∧ Blk wx (w.heap.size + 2) zCells 24 ∧ Below w.heap.size w wx)
    case first =>
      go_region
      all_goals go_wp2_with fail
      all_goals
        go_meet
        exact ⟨((r0.setO (a := ⟨w.heap.size + 1, 0, none⟩) (by simp) (.string ⟨bs.toArray⟩)).setO (a := ⟨w.heap.size + 1, 1, none⟩) (by simp) (.bool bha)).setO (a := ⟨w.heap.size + 1, 2, none⟩) (by simp) (.string ⟨bu.toArray⟩),
          ((r1.set 0 (.string ⟨bs.toArray⟩)).set 1 (.bool bha)).set 2 (.string ⟨bu.toArray⟩),
          ((r2.setO (a := ⟨w.heap.size + 1, 0, none⟩) (by simp) (.string ⟨bs.toArray⟩)).setO (a := ⟨w.heap.size + 1, 1, none⟩) (by simp) (.bool bha)).setO (a := ⟨w.heap.size + 1, 2, none⟩) (by simp) (.string ⟨bu.toArray⟩), by go_grown⟩
    case rest =>
      clear rc0 rc1 rf1 hlt0 hlt1 hlt2 r0 r1 r2 B
      obtain ⟨r0, r1, r2, B⟩ := hcut
      have rc0 := r0.cell
      have rc1 := r1.cell
      have rf1 := r1.free
      have hlt0 := r0.lt
      have hlt1 := r1.lt
      have hlt2 := r2.lt
      have rf2 := r2.free
      have rc2 := r2.cell
      go_wp2_with fail
      refine (dots_any (47 :: l) _ (by simp; omega) (hg.next B)).mono ?_
      rintro e w2 ⟨rfl, hb⟩
      have s1 := r1.next hb hlt1
      have s2 := r2.next hb hlt2
      have K := B.trans (hb.mono B.size)
      clear rc0 rc1 rf1 rf2 rc2 r0 r1 r2 B hlt0 hlt1 hlt2
      have rc1 := s1.cell
      have rf1 := s1.free
      have rc2 := s2.cell
      have rf2 := s2.free
      have hlt1 := s1.lt
      have hlt2 := s2.lt
      go_wp2_with fail
      refine bodyPost_ret (v := (resolveA ⟨bs, bha, bu, bp, bhq, bq, bhf, bf⟩ ⟨[], false, u, 47 :: l, hq, q, hf, f⟩).val) (by rw [hR.out]; simp [results, Tryd.results9, go_sem, rc2]) rfl ⟨rfl, by go_grown⟩

set_option maxHeartbeats 1000000 in
set_option maxRecDepth 100000 in
theorem resolve_on (b : Addr) (u q f : Bs) (hq hf : Bool) {c : UInt8} {l : Bs} (hc : c ≠ 47) (hl : l.length ≤ 1073741824) (hbl : b.path.length ≤ 1073741824) (w : World) : Ground w →
    Calls Tryd.prog 9 #[b.val, (Addr.val ⟨[], false, u, (c :: l), hq, q, hf, f⟩)] w fun e w' => e = .returned (resolveA b ⟨[], false, u, (c :: l), hq, q, hf, f⟩).val ∧ Below w.heap.size w w' := by
  obtain ⟨bs, bha, bu, bp, bhq, bq, bhf, bf⟩ := b
  intro hg
  simp only at hbl
  have hR := Lib.hid (show resolveA ⟨bs, bha, bu, bp, bhq, bq, bhf, bf⟩ ⟨[], false, u, c :: l, hq, q, hf, f⟩ = ⟨bs, bha, bu, dotsA (ahead ⟨bs, bha, bu, bp, bhq, bq, bhf, bf⟩ ++ c :: l), hq, q, hf, f⟩ from if_neg hc)
  have hal := ahead_len ⟨bs, bha, bu, bp, bhq, bq, bhf, bf⟩
  simp only at hal
  have hcb : ((c.toNat : Int) == 47) = false := by
    rw [beq_eq_false_iff_ne]; intro e; apply hc; apply UInt8.toNat_inj.1; show c.toNat = 47; omega
  have hcb2 : ((c.toNat : Int) != 47) = true := by simp only [bne, hcb]; rfl
  have hk := lastIndexByte_le bp 47
  have hL := fun w => lastIdx bp 47 w (by omega)
  have hA : Hid (ahead ⟨bs, bha, bu, bp, bhq, bq, bhf, bf⟩ = if bha && bp.isEmpty then [47] else bp.take (Lib.lastIndexByte ⟨bp.toArray⟩ 47 + 1).toNat) := Lib.hid rfl
  generalize Lib.lastIndexByte ⟨bp.toArray⟩ 47 = k at hk hL hA
  go_enter Tryd.func9, Tryd.ntmps9
  go_upto_region 1 with fail
  go_cut [7] (fun s7 wx => s7 = .bool false ∧ Blk wx w.heap.size (Addr.cells ⟨bs, bha, bu, bp, bhq, bq, bhf, bf⟩) 24 ∧ Blk wx (w.heap.size + 1) (Addr.cells ⟨[], false, u, c :: l, hq, q, hf, f⟩) 24 ∧ Blk wx (w.heap.size + 2) zCells 24 ∧ Below w.heap.size w wx)
  case first =>
    have r1 := ((Blk.new (w.alloc (.cells (Addr.cells ⟨bs, bha, bu, bp, bhq, bq, bhf, bf⟩) 24)) (Addr.cells ⟨[], false, u, c :: l, hq, q, hf, f⟩) 24).alloc (.cells zCells 24))
    have r2 := (Blk.new ((w.alloc (.cells (Addr.cells ⟨bs, bha, bu, bp, bhq, bq, bhf, bf⟩) 24)).alloc (.cells (Addr.cells ⟨[], false, u, c :: l, hq, q, hf, f⟩) 24)) zCells 24)
    rw [World.size_alloc] at r1
    rw [World.size_alloc, World.size_alloc] at r2
    go_wp2_with fail
    go_meet
    exact ⟨rfl, ((Blk.new w (Addr.cells ⟨bs, bha, bu, bp, bhq, bq, bhf, bf⟩) 24).alloc _).alloc _, r1, r2, by go_grown⟩
  case rest =>
    obtain ⟨rfl, r0, r1, r2, B⟩ := hcut
    obtain ⟨w1, rfl⟩ : ∃ w1 : World, w1 = wc := ⟨_, rfl⟩
    have rc0 := r0.cell
    have rc1 := r1.cell
    have rf1 := r1.free
    have hlt0 := r0.lt
    have hlt1 := r1.lt
    have hlt2 := r2.lt
    go_upto_region 7 with fail
    go_cut [7] (fun _s7 wx => Blk wx w.heap.size (Addr.cells ⟨bs, bha, bu, bp, bhq, bq, bhf, bf⟩) 24 ∧ Blk wx (w.heap.size + 1) (Addr.cells ⟨bs, bha, bu, c :: l, hq, q, hf, f⟩) 24 ∧ Blk wx (w.heap.size + 2) zCells 24 ∧ Below w.heap.size w wx)
    case first =>
      go_region
      all_goals go_wp2_with fail
      all_goals
        go_meet
        exact ⟨((r0.setO (a := ⟨w.heap.size + 1, 0, none⟩) (by simp) (.string ⟨bs.toArray⟩)).setO (a := ⟨w.heap.size + 1, 1, none⟩) (by simp) (.bool bha)).setO (a := ⟨w.heap.size + 1, 2, none⟩) (by simp) (.string ⟨bu.toArray⟩),
          ((r1.set 0 (.string ⟨bs.toArray⟩)).set 1 (.bool bha)).set 2 (.string ⟨bu.toArray⟩),
          ((r2.setO (a := ⟨w.heap.size + 1, 0, none⟩) (by simp) (.string ⟨bs.toArray⟩)).setO (a := ⟨w.heap.size + 1, 1, none⟩) (by simp) (.bool bha)).setO (a := ⟨w.heap.size + 1, 2, none⟩) (by simp) (.string ⟨bu.toArray⟩), by go_grown⟩
    case rest =>
      clear rc0 rc1 rf1 hlt0 hlt1 hlt2 r0 r1 r2 B
      obtain ⟨r0, r1, r2, B⟩ := hcut
      have rc0 := r0.cell
      have rc1 := r1.cell
      have rf1 := r1.free
      have hlt0 := r0.lt
      have hlt1 := r1.lt
      have hlt2 := r2.lt
      have rf2 := r2.free
      have rc2 := r2.cell
      go_wp2_with fail
      refine (hL _).mono ?_
      rintro e w2 ⟨rfl, rfl⟩
      cases bha with
      | false =>
          go_wp2_with fail
          refine (dots_any _ _ (by simp; omega) (hg.next (by go_grown))).mono ?_
          rintro e w3 ⟨rfl, hb⟩
          have s1 := (r1.set 3 _).next hb (by go_size)
          have s2 := (r2.setO (a := ⟨w.heap.size + 1, 3, none⟩) (by simp) _).next hb (by go_size)
          have K := (B.setCell (p := ⟨w.heap.size + 1, 3, none⟩) (by simp) _).trans (hb.mono (by have := B.size; go_size))
          clear rc0 rc1 rf1 rf2 rc2 r0 r1 r2 B hlt0 hlt1 hlt2
          have rc1 := s1.cell
          have rf1 := s1.free
          have rc2 := s2.cell
          have rf2 := s2.free
          have hlt1 := s1.lt
          have hlt2 := s2.lt
          go_wp2_with fail
          refine bodyPost_ret (v := (resolveA ⟨bs, false, bu, bp, bhq, bq, bhf, bf⟩ ⟨[], false, u, c :: l, hq, q, hf, f⟩).val) (by rw [hR.out, hA.out]; simp [results, Tryd.results9, go_sem, rc2]) rfl ⟨rfl, by go_grown⟩
      | true =>
        cases bp with
        | nil =>
          have hk1 : -1 ≤ k := hk.1
          have hk2 : k < 0 := hk.2
          clear hk
          go_wp2_with fail
          refine (dots_any _ _ (by simp; omega) (hg.next (by go_grown))).mono ?_
          rintro e w3 ⟨rfl, hb⟩
          have s1 := (r1.set 3 _).next hb (by go_size)
          have s2 := (r2.setO (a := ⟨w.heap.size + 1, 3, none⟩) (by simp) _).next hb (by go_size)
          have K := (B.setCell (p := ⟨w.heap.size + 1, 3, none⟩) (by simp) _).trans (hb.mono (by have := B.size; go_size))
          clear rc0 rc1 rf1 rf2 rc2 r0 r1 r2 B hlt0 hlt1 hlt2
          have rc1 := s1.cell
          have rf1 := s1.free
          have rc2 := s2.cell
          have rf2 := s2.free
          have hlt1 := s1.lt
          have hlt2 := s2.lt
          go_wp2_with fail
          refine bodyPost_ret (v := (resolveA ⟨bs, true, bu, [], bhq, bq, bhf, bf⟩ ⟨[], false, u, c :: l, hq, q, hf, f⟩).val) (by rw [hR.out, hA.out]; simp [results, Tryd.results9, go_sem, rc2]) rfl ⟨rfl, by go_grown⟩
        | cons x bp =>
          have hk1 : -1 ≤ k := hk.1
          have hk2 : k < (bp.length : Int) + 1 := hk.2
          clear hk
          have hbl' : bp.length + 1 ≤ 1073741824 := hbl
          go_wp2_with fail
          refine (dots_any _ _ (by simp; omega) (hg.next (by go_grown))).mono ?_
          rintro e w3 ⟨rfl, hb⟩
          have s1 := (r1.set 3 _).next hb (by go_size)
          have s2 := (r2.setO (a := ⟨w.heap.size + 1, 3, none⟩) (by simp) _).next hb (by go_size)
          have K := (B.setCell (p := ⟨w.heap.size + 1, 3, none⟩) (by simp) _).trans (hb.mono (by have := B.size; go_size))
          clear rc0 rc1 rf1 rf2 rc2 r0 r1 r2 B hlt0 hlt1 hlt2
          have rc1 := s1.cell
          have rf1 := s1.free
          have rc2 := s2.cell
          have rf2 := s2.free
          have hlt1 := s1.lt
          have hlt2 := s2.lt
          go_wp2_with fail
          refine bodyPost_ret (v := (resolveA ⟨bs, true, bu, (x :: bp), bhq, bq, bhf, bf⟩ ⟨[], false, u, c :: l, hq, q, hf, f⟩).val) (by rw [hR.out, hA.out]; simp [results, Tryd.results9, go_sem, rc2]) rfl ⟨rfl, by go_grown⟩

/-- address.Resolve, whatever the addresses. -/
theorem resolve_any (b a : Addr) (w : World) (hb : b.path.length ≤ 1073741824) (ha : a.path.length ≤ 1073741824) (hg : Ground w) :
    Calls Tryd.prog 9 #[b.val, a.val] w fun e w' => e = .returned (resolveA b a).val ∧ Below w.heap.size w w' := by
  by_cases h1 : a.scheme = []
  · cases h2 : a.hasAuth with
    | true => exact resolve_auth b a w (by omega) hg h1 h2
    | false =>
      obtain ⟨s, ha', u, p, hq, q, hf, f⟩ := a
      simp only at h1 h2 ha
      subst h1
      subst h2
      cases p with
      | nil => exact resolve_none b u q f hq hf w
      | cons c l =>
        have hl : l.length + 1 ≤ 1073741824 := ha
        by_cases hc : c = 47
        · subst hc
          exact resolve_root b u q f hq hf (by omega) w hg
        · exact resolve_on b u q f hq hf hc (by omega) hb w hg
  · exact resolve_scheme b a w (by omega) hg h1

end Go.Proofs.YtignjjnflcpiiaaDoor
