/- address.Resolve gives where an address leads that stands at another one. Condition: the paths take less than 2^31 bytes each; address.Read gives the address that a text is, or ErrForm. Condition: the text takes less than 2^32 bytes (the shelf's bound on Cut); address.Write gives what an address is w. -/
import Derived.Test.YtignjjnflcpiiaaGreatDoorR26
namespace Go.Proofs.YtignjjnflcpiiaaGreatDoor
open Go Go.RowKit
set_option maxHeartbeats 1000000 in
set_option maxRecDepth 100000 in
theorem resolve_scheme (b a : Addr) (w : World) (hl : a.path.length ≤ 2147483648) (hg : Ground w) (hs : a.scheme ≠ []) :
    Calls Tryz.prog 50 #[b.val, a.val] w fun e w' => e = .returned (resolveA b a).val ∧ Below w.heap.size w w' := by
  obtain ⟨s, ha, u, p, hq, q, hf, f⟩ := a
  simp only at hl hs
  have hR := Lib.hid (show resolveA b ⟨s, ha, u, p, hq, q, hf, f⟩ = ⟨s, ha, u, dotsA p, hq, q, hf, f⟩ from if_pos hs)
  have hsb : s.isEmpty = false := by rw [Bool.eq_false_iff]; simpa using hs
  have hsb2 : (!s.isEmpty) = true := by rw [hsb]; rfl
  go_enter Tryz.func50, Tryz.ntmps50
  go_wp2_with fail
  refine (dots_any p _ (by omega) (hg.next (by go_grown))).mono ?_
  rintro e w1 ⟨rfl, hb⟩
  have r1 := ((Blk.new (w.alloc (.cells b.cells 36)) (Addr.cells ⟨s, ha, u, p, hq, q, hf, f⟩) 36).alloc (.cells zCells 36)).next hb (by go_size)
  have r2 := (Blk.new ((w.alloc (.cells b.cells 36)).alloc (.cells (Addr.cells ⟨s, ha, u, p, hq, q, hf, f⟩) 36)) zCells 36).next hb (by go_size)
  rw [World.size_alloc] at r1
  rw [World.size_alloc, World.size_alloc] at r2
  have B1 : Below w.heap.size w w1 := ((((Below.refl _ w).alloc (Nat.le_refl _) _).alloc (by go_size) _).alloc (by go_size) _).trans (hb.mono (by go_size))
  have rc1 := r1.cell
  have rf1 := r1.free
  have rc2 := r2.cell
  have rf2 := r2.free
  have hlt1 := r1.lt
  have hlt2 := r2.lt
  go_wp2_with fail
  refine bodyPost_ret (v := (resolveA b ⟨s, ha, u, p, hq, q, hf, f⟩).val) (by rw [hR.out]; simp [results, Tryz.results50, go_sem, rc2]) rfl ⟨rfl, by go_grown⟩
set_option maxHeartbeats 1000000 in
set_option maxRecDepth 100000 in
theorem resolve_auth (b a : Addr) (w : World) (hl : a.path.length ≤ 2147483648) (hg : Ground w) (hs : a.scheme = []) (h2 : a.hasAuth = true) :
    Calls Tryz.prog 50 #[b.val, a.val] w fun e w' => e = .returned (resolveA b a).val ∧ Below w.heap.size w w' := by
  obtain ⟨s, ha, u, p, hq, q, hf, f⟩ := a
  obtain ⟨bs, bha, bu, bp, bhq, bq, bhf, bf⟩ := b
  simp only at hl hs h2
  subst hs
  subst h2
  have hR := Lib.hid (show resolveA ⟨bs, bha, bu, bp, bhq, bq, bhf, bf⟩ ⟨[], true, u, p, hq, q, hf, f⟩ = ⟨bs, true, u, dotsA p, hq, q, hf, f⟩ from rfl)
  go_enter Tryz.func50, Tryz.ntmps50
  go_upto_region 1 with fail
  go_cut [7] (fun s7 wx => s7 = .bool false ∧ Blk wx w.heap.size (Addr.cells ⟨bs, bha, bu, bp, bhq, bq, bhf, bf⟩) 36 ∧ Blk wx (w.heap.size + 1) (Addr.cells ⟨[], true, u, p, hq, q, hf, f⟩) 36 ∧ Blk wx (w.heap.size + 2) zCells 36 ∧ Below w.heap.size w wx)
  case first =>
    have r1 := ((Blk.new (w.alloc (.cells (Addr.cells ⟨bs, bha, bu, bp, bhq, bq, bhf, bf⟩) 36)) (Addr.cells ⟨[], true, u, p, hq, q, hf, f⟩) 36).alloc (.cells zCells 36))
    have r2 := (Blk.new ((w.alloc (.cells (Addr.cells ⟨bs, bha, bu, bp, bhq, bq, bhf, bf⟩) 36)).alloc (.cells (Addr.cells ⟨[], true, u, p, hq, q, hf, f⟩) 36)) zCells 36)
    rw [World.size_alloc] at r1
    rw [World.size_alloc, World.size_alloc] at r2
    go_wp2_with fail
    go_meet
    exact ⟨rfl, ((Blk.new w (Addr.cells ⟨bs, bha, bu, bp, bhq, bq, bhf, bf⟩) 36).alloc _).alloc _, r1, r2, by go_grown⟩
  case rest =>
    obtain ⟨rfl, r0, r1, r2, B⟩ := hcut
    obtain ⟨w1, rfl⟩ : ∃ w1 : World, w1 = wc := ⟨_, rfl⟩
    have rc0 := r0.cell
    have rc1 := r1.cell
    have rf1 := r1.free
    have hlt0 := r0.lt
    have hlt1 := r1.lt
    have hlt2 := r2.lt
    go_upto_region 5 with fail
    go_cut [7] (fun _s7 wx => Blk wx (w.heap.size + 1) (Addr.cells ⟨bs, true, u, dotsA p, hq, q, hf, f⟩) 36 ∧ Blk wx (w.heap.size + 2) zCells 36 ∧ Below w.heap.size w wx)
    case first =>
      go_region_with ((refine (dots_any _ _ (by omega) (hg.next (by first | exact B | exact B.drew | exact B.drew.drew | exact B.drew.drew.drew | exact B.drew.drew.drew.drew))).mono ?_); (rintro e w2 ⟨rfl, hb⟩); (have K := belowStep hb (w0 := w1) (by repeat (first | exact Below.refl _ _ | assumption | refine Below.drew ?_))); (have rc0 := (r0.next K hlt0).cell); (have rc1 := (r1.next K hlt1).cell); (have rf1 := (r1.next K hlt1).free))
      all_goals go_wp2_with fail
      all_goals
        go_meet
        refine ⟨((r1.next K hlt1).set 0 (.string ⟨bs.toArray⟩)).set 3 (.string ⟨(dotsA p).toArray⟩), ((r2.next K hlt2).setO (a := ⟨w.heap.size + 1, 0, none⟩) (by simp) (.string ⟨bs.toArray⟩)).setO (a := ⟨w.heap.size + 1, 3, none⟩) (by simp) (.string ⟨(dotsA p).toArray⟩), ?_⟩
        have KK := B.trans (K.mono B.size)
        go_grown
    case rest =>
      obtain ⟨r1, r2, B⟩ := hcut
      have rc1 := r1.cell
      have rf2 := r2.free
      have rc2 := r2.cell
      have hlt2 := r2.lt
      go_wp2_with fail
      refine bodyPost_ret (v := (resolveA ⟨bs, bha, bu, bp, bhq, bq, bhf, bf⟩ ⟨[], true, u, p, hq, q, hf, f⟩).val) (by rw [hR.out]; simp [results, Tryz.results50, go_sem, rc2]) rfl ⟨rfl, by go_grown⟩
set_option maxHeartbeats 1000000 in
set_option maxRecDepth 100000 in
theorem resolve_none (b : Addr) (u q f : Bs) (hq hf : Bool)  (w : World) :
    Calls Tryz.prog 50 #[b.val, (Addr.val ⟨[], false, u, [], hq, q, hf, f⟩)] w fun e w' => e = .returned (resolveA b ⟨[], false, u, [], hq, q, hf, f⟩).val ∧ Below w.heap.size w w' := by
  obtain ⟨bs, bha, bu, bp, bhq, bq, bhf, bf⟩ := b
  have hR := Lib.hid (show resolveA ⟨bs, bha, bu, bp, bhq, bq, bhf, bf⟩ ⟨[], false, u, [], hq, q, hf, f⟩ = ⟨bs, bha, bu, bp, if hq then true else bhq, if hq then q else bq, hf, f⟩ from rfl)
  go_enter Tryz.func50, Tryz.ntmps50
  go_upto_region 1 with fail
  go_cut [7] (fun s7 wx => s7 = .bool false ∧ Blk wx w.heap.size (Addr.cells ⟨bs, bha, bu, bp, bhq, bq, bhf, bf⟩) 36 ∧ Blk wx (w.heap.size + 1) (Addr.cells ⟨[], false, u, [], hq, q, hf, f⟩) 36 ∧ Blk wx (w.heap.size + 2) zCells 36 ∧ Below w.heap.size w wx)
  case first =>
    have r1 := ((Blk.new (w.alloc (.cells (Addr.cells ⟨bs, bha, bu, bp, bhq, bq, bhf, bf⟩) 36)) (Addr.cells ⟨[], false, u, [], hq, q, hf, f⟩) 36).alloc (.cells zCells 36))
    have r2 := (Blk.new ((w.alloc (.cells (Addr.cells ⟨bs, bha, bu, bp, bhq, bq, bhf, bf⟩) 36)).alloc (.cells (Addr.cells ⟨[], false, u, [], hq, q, hf, f⟩) 36)) zCells 36)
    rw [World.size_alloc] at r1
    rw [World.size_alloc, World.size_alloc] at r2
    go_wp2_with fail
    go_meet
    exact ⟨rfl, ((Blk.new w (Addr.cells ⟨bs, bha, bu, bp, bhq, bq, bhf, bf⟩) 36).alloc _).alloc _, r1, r2, by go_grown⟩
  case rest =>
    obtain ⟨rfl, r0, r1, r2, B⟩ := hcut
    obtain ⟨w1, rfl⟩ : ∃ w1 : World, w1 = wc := ⟨_, rfl⟩
    have rc0 := r0.cell
    have rc1 := r1.cell
    have rf1 := r1.free
    have hlt0 := r0.lt
    have hlt1 := r1.lt
    have hlt2 := r2.lt
    go_upto_region 7 with fail
    go_cut [7] (fun _s7 wx => Blk wx w.heap.size (Addr.cells ⟨bs, bha, bu, bp, bhq, bq, bhf, bf⟩) 36 ∧ Blk wx (w.heap.size + 1) (Addr.cells ⟨bs, bha, bu, [], hq, q, hf, f⟩) 36 ∧ Blk wx (w.heap.size + 2) zCells 36 ∧ Below w.heap.size w wx)
    case first =>
      go_region
      all_goals go_wp2_with fail
      all_goals
        go_meet
        exact ⟨((r0.setO (a := ⟨w.heap.size + 1, 0, none⟩) (by simp) (.string ⟨bs.toArray⟩)).setO (a := ⟨w.heap.size + 1, 1, none⟩) (by simp) (.bool bha)).setO (a := ⟨w.heap.size + 1, 2, none⟩) (by simp) (.string ⟨bu.toArray⟩),
          ((r1.set 0 (.string ⟨bs.toArray⟩)).set 1 (.bool bha)).set 2 (.string ⟨bu.toArray⟩),
          ((r2.setO (a := ⟨w.heap.size + 1, 0, none⟩) (by simp) (.string ⟨bs.toArray⟩)).setO (a := ⟨w.heap.size + 1, 1, none⟩) (by simp) (.bool bha)).setO (a := ⟨w.heap.size + 1, 2, none⟩) (by simp) (.string ⟨bu.toArray⟩), by go_grown⟩
    case rest =>
      clear rc0 rc1 rf1 hlt0 hlt1 hlt2 r0 r1 r2 B
      obtain ⟨r0, r1, r2, B⟩ := hcut
      have rc0 := r0.cell
      have rc1 := r1.cell
      have rf1 := r1.free
      have hlt0 := r0.lt
      have hlt1 := r1.lt
      have hlt2 := r2.lt
      have rf2 := r2.free
      have rc2 := r2.cell
      go_upto_if 45 with fail
      cases hq with
      | true =>
        go_wp2_with fail
        refine bodyPost_ret (v := (resolveA ⟨bs, bha, bu, bp, bhq, bq, bhf, bf⟩ ⟨[], false, u, [], true, q, hf, f⟩).val) (by rw [hR.out]; simp [results, Tryz.results50, go_sem, rc2]) rfl ⟨rfl, by go_grown⟩
      | false =>
        go_wp2_with fail
        go_region
        all_goals go_wp2_with fail
        all_goals
          refine bodyPost_ret (v := (resolveA ⟨bs, bha, bu, bp, bhq, bq, bhf, bf⟩ ⟨[], false, u, [], false, q, hf, f⟩).val) (by rw [hR.out]; simp [results, Tryz.results50, go_sem, rc2]) rfl ⟨rfl, by go_grown⟩
set_option maxHeartbeats 1000000 in
set_option maxRecDepth 100000 in
theorem resolve_root (b : Addr) (u q f : Bs) (hq hf : Bool) {l : Bs} (hl : l.length ≤ 2147483648) (w : World) : Ground w →
    Calls Tryz.prog 50 #[b.val, (Addr.val ⟨[], false, u, (47 :: l), hq, q, hf, f⟩)] w fun e w' => e = .returned (resolveA b ⟨[], false, u, (47 :: l), hq, q, hf, f⟩).val ∧ Below w.heap.size w w' := by
  obtain ⟨bs, bha, bu, bp, bhq, bq, bhf, bf⟩ := b
  intro hg
  have hR := Lib.hid (show resolveA ⟨bs, bha, bu, bp, bhq, bq, bhf, bf⟩ ⟨[], false, u, 47 :: l, hq, q, hf, f⟩ = ⟨bs, bha, bu, dotsA (47 :: l), hq, q, hf, f⟩ from rfl)
  go_enter Tryz.func50, Tryz.ntmps50
  go_upto_region 1 with fail
  go_cut [7] (fun s7 wx => s7 = .bool false ∧ Blk wx w.heap.size (Addr.cells ⟨bs, bha, bu, bp, bhq, bq, bhf, bf⟩) 36 ∧ Blk wx (w.heap.size + 1) (Addr.cells ⟨[], false, u, 47 :: l, hq, q, hf, f⟩) 36 ∧ Blk wx (w.heap.size + 2) zCells 36 ∧ Below w.heap.size w wx)
  case first =>
    have r1 := ((Blk.new (w.alloc (.cells (Addr.cells ⟨bs, bha, bu, bp, bhq, bq, bhf, bf⟩) 36)) (Addr.cells ⟨[], false, u, 47 :: l, hq, q, hf, f⟩) 36).alloc (.cells zCells 36))
    have r2 := (Blk.new ((w.alloc (.cells (Addr.cells ⟨bs, bha, bu, bp, bhq, bq, bhf, bf⟩) 36)).alloc (.cells (Addr.cells ⟨[], false, u, 47 :: l, hq, q, hf, f⟩) 36)) zCells 36)
    rw [World.size_alloc] at r1
    rw [World.size_alloc, World.size_alloc] at r2
    go_wp2_with fail
    go_meet
    exact ⟨rfl, ((Blk.new w (Addr.cells ⟨bs, bha, bu, bp, bhq, bq, bhf, bf⟩) 36).alloc _).alloc _, r1, r2, by go_grown⟩
  case rest =>
    obtain ⟨rfl, r0, r1, r2, B⟩ := hcut
    obtain ⟨w1, rfl⟩ : ∃ w1 : World, w1 = wc := ⟨_, rfl⟩
    have rc0 := r0.cell
    have rc1 := r1.cell
    have rf1 := r1.free
    have hlt0 := r0.lt
    have hlt1 := r1.lt
    have hlt2 := r2.lt
    go_upto_region 7 with fail
    go_cut [7] (fun _s7 wx => Blk wx w.heap.size (Addr.cells ⟨bs, bha, bu, bp, bhq, bq, bhf, bf⟩) 36 ∧ Blk wx (w.heap.size + 1) (Addr.cells ⟨bs, bha, bu, 47 :: l, hq, q, hf, f⟩) 36 ∧ Blk wx (w.heap.size + 2) zCells 36 ∧ Below w.heap.size w wx)
    case first =>
      go_region
      all_goals go_wp2_with fail
      all_goals
        go_meet
        exact ⟨((r0.setO (a := ⟨w.heap.size + 1, 0, none⟩) (by simp) (.string ⟨bs.toArray⟩)).setO (a := ⟨w.heap.size + 1, 1, none⟩) (by simp) (.bool bha)).setO (a := ⟨w.heap.size + 1, 2, none⟩) (by simp) (.string ⟨bu.toArray⟩),
          ((r1.set 0 (.string ⟨bs.toArray⟩)).set 1 (.bool bha)).set 2 (.string ⟨bu.toArray⟩),
          ((r2.setO (a := ⟨w.heap.size + 1, 0, none⟩) (by simp) (.string ⟨bs.toArray⟩)).setO (a := ⟨w.heap.size + 1, 1, none⟩) (by simp) (.bool bha)).setO (a := ⟨w.heap.size + 1, 2, none⟩) (by simp) (.string ⟨bu.toArray⟩), by go_grown⟩
    case rest =>
      clear rc0 rc1 rf1 hlt0 hlt1 hlt2 r0 r1 r2 B
      obtain ⟨r0, r1, r2, B⟩ := hcut
      have rc0 := r0.cell
      have rc1 := r1.cell
      have rf1 := r1.free
      have hlt0 := r0.lt
      have hlt1 := r1.lt
      have hlt2 := r2.lt
      have rf2 := r2.free
      have rc2 := r2.cell
      go_wp2_with fail
      refine (dots_any (47 :: l) _ (by simp; omega) (hg.next B)).mono ?_
      rintro e w2 ⟨rfl, hb⟩
      have s1 := r1.next hb hlt1
      have s2 := r2.next hb hlt2
      have K := B.trans (hb.mono B.size)
      clear rc0 rc1 rf1 rf2 rc2 r0 r1 r2 B hlt0 hlt1 hlt2
      have rc1 := s1.cell
      have rf1 := s1.free
      have rc2 := s2.cell
      have rf2 := s2.free
      have hlt1 := s1.lt
      have hlt2 := s2.lt
      go_wp2_with fail
      refine bodyPost_ret (v := (resolveA ⟨bs, bha, bu, bp, bhq, bq, bhf, bf⟩ ⟨[], false, u, 47 :: l, hq, q, hf, f⟩).val) (by rw [hR.out]; simp [results, Tryz.results50, go_sem, rc2]) rfl ⟨rfl, by go_grown⟩
set_option maxHeartbeats 1000000 in
set_option maxRecDepth 100000 in
theorem resolve_on (b : Addr) (u q f : Bs) (hq hf : Bool) {c : UInt8} {l : Bs} (hc : c ≠ 47) (hl : l.length ≤ 1073741824) (hbl : b.path.length ≤ 1073741824) (w : World) : Ground w →
    Calls Tryz.prog 50 #[b.val, (Addr.val ⟨[], false, u, (c :: l), hq, q, hf, f⟩)] w fun e w' => e = .returned (resolveA b ⟨[], false, u, (c :: l), hq, q, hf, f⟩).val ∧ Below w.heap.size w w' := by
  obtain ⟨bs, bha, bu, bp, bhq, bq, bhf, bf⟩ := b
  intro hg
  simp only at hbl
  have hR := Lib.hid (show resolveA ⟨bs, bha, bu, bp, bhq, bq, bhf, bf⟩ ⟨[], false, u, c :: l, hq, q, hf, f⟩ = ⟨bs, bha, bu, dotsA (ahead ⟨bs, bha, bu, bp, bhq, bq, bhf, bf⟩ ++ c :: l), hq, q, hf, f⟩ from if_neg hc)
  have hal := ahead_len ⟨bs, bha, bu, bp, bhq, bq, bhf, bf⟩
  simp only at hal
  have hcb : ((c.toNat : Int) == 47) = false := by
    rw [beq_eq_false_iff_ne]; intro e; apply hc; apply UInt8.toNat_inj.1; show c.toNat = 47; omega
  have hcb2 : ((c.toNat : Int) != 47) = true := by simp only [bne, hcb]; rfl
  have hk := lastIndexByte_le bp 47
  have hL := fun w => lastIdx bp 47 w (by omega)
  have hA : Hid (ahead ⟨bs, bha, bu, bp, bhq, bq, bhf, bf⟩ = if bha && bp.isEmpty then [47] else bp.take (Lib.lastIndexByte ⟨bp.toArray⟩ 47 + 1).toNat) := Lib.hid rfl
  generalize Lib.lastIndexByte ⟨bp.toArray⟩ 47 = k at hk hL hA
  go_enter Tryz.func50, Tryz.ntmps50
  go_upto_region 1 with fail
  go_cut [7] (fun s7 wx => s7 = .bool false ∧ Blk wx w.heap.size (Addr.cells ⟨bs, bha, bu, bp, bhq, bq, bhf, bf⟩) 36 ∧ Blk wx (w.heap.size + 1) (Addr.cells ⟨[], false, u, c :: l, hq, q, hf, f⟩) 36 ∧ Blk wx (w.heap.size + 2) zCells 36 ∧ Below w.heap.size w wx)
  case first =>
    have r1 := ((Blk.new (w.alloc (.cells (Addr.cells ⟨bs, bha, bu, bp, bhq, bq, bhf, bf⟩) 36)) (Addr.cells ⟨[], false, u, c :: l, hq, q, hf, f⟩) 36).alloc (.cells zCells 36))
    have r2 := (Blk.new ((w.alloc (.cells (Addr.cells ⟨bs, bha, bu, bp, bhq, bq, bhf, bf⟩) 36)).alloc (.cells (Addr.cells ⟨[], false, u, c :: l, hq, q, hf, f⟩) 36)) zCells 36)
    rw [World.size_alloc] at r1
    rw [World.size_alloc, World.size_alloc] at r2
    go_wp2_with fail
    go_meet
    exact ⟨rfl, ((Blk.new w (Addr.cells ⟨bs, bha, bu, bp, bhq, bq, bhf, bf⟩) 36).alloc _).alloc _, r1, r2, by go_grown⟩
  case rest =>
    obtain ⟨rfl, r0, r1, r2, B⟩ := hcut
    obtain ⟨w1, rfl⟩ : ∃ w1 : World, w1 = wc := ⟨_, rfl⟩
    have rc0 := r0.cell
    have rc1 := r1.cell
    have rf1 := r1.free
    have hlt0 := r0.lt
    have hlt1 := r1.lt
    have hlt2 := r2.lt
    go_upto_region 7 with fail
    go_cut [7] (fun _s7 wx => Blk wx w.heap.size (Addr.cells ⟨bs, bha, bu, bp, bhq, bq, bhf, bf⟩) 36 ∧ Blk wx (w.heap.size + 1) (Addr.cells ⟨bs, bha, bu, c :: l, hq, q, hf, f⟩) 36 ∧ Blk wx (w.heap.size + 2) zCells 36 ∧ Below w.heap.size w wx)
    case first =>
      go_region
      all_goals go_wp2_with fail
      all_goals
        go_meet
        exact ⟨((r0.setO (a := ⟨w.heap.size + 1, 0, none⟩) (by simp) (.string ⟨bs.toArray⟩)).setO (a := ⟨w.heap.size + 1, 1, none⟩) (by simp) (.bool bha)).setO (a := ⟨w.heap.size + 1, 2, none⟩) (by simp) (.string ⟨bu.toArray⟩),
          ((r1.set 0 (.string ⟨bs.toArray⟩)).set 1 (.bool bha)).set 2 (.string ⟨bu.toArray⟩),
          ((r2.setO (a := ⟨w.heap.size + 1, 0, none⟩) (by simp) (.string ⟨bs.toArray⟩)).setO (a := ⟨w.heap.size + 1, 1, none⟩) (by simp) (.bool bha)).setO (a := ⟨w.heap.size + 1, 2, none⟩) (by simp) (.string ⟨bu.toArray⟩), by go_grown⟩
    case rest =>
      clear rc0 rc1 rf1 hlt0 hlt1 hlt2 r0 r1 r2 B
      obtain ⟨r0, r1, r2, B⟩ := hcut
      have rc0 := r0.cell
      have rc1 := r1.cell
      have rf1 := r1.free
      have hlt0 := r0.lt
      have hlt1 := r1.lt
      have hlt2 := r2.lt
      have rf2 := r2.free
      have rc2 := r2.cell
      go_wp2_with fail
      refine (hL _).mono ?_
      rintro e w2 ⟨rfl, rfl⟩
      cases bha with
      | false =>
          go_wp2_with fail
          refine (dots_any _ _ (by simp; omega) (hg.next (by go_grown))).mono ?_
          rintro e w3 ⟨rfl, hb⟩
          have s1 := (r1.set 3 _).next hb (by go_size)
          have s2 := (r2.setO (a := ⟨w.heap.size + 1, 3, none⟩) (by simp) _).next hb (by go_size)
          have K := (B.setCell (p := ⟨w.heap.size + 1, 3, none⟩) (by simp) _).trans (hb.mono (by have := B.size; go_size))
          clear rc0 rc1 rf1 rf2 rc2 r0 r1 r2 B hlt0 hlt1 hlt2
          have rc1 := s1.cell
          have rf1 := s1.free
          have rc2 := s2.cell
          have rf2 := s2.free
          have hlt1 := s1.lt
          have hlt2 := s2.lt
          go_wp2_with fail
          refine bodyPost_ret (v := (resolveA ⟨bs, false, bu, bp, bhq, bq, bhf, bf⟩ ⟨[], false, u, c :: l, hq, q, hf, f⟩).val) (by rw [hR.out, hA.out]; simp [results, Tryz.results50, go_sem, rc2]) rfl ⟨rfl, by go_grown⟩
      | true =>
        cases bp with
        | nil =>
          have hk1 : -1 ≤ k := hk.1
          have hk2 : k < 0 := hk.2
          clear hk
          go_wp2_with fail
          refine (dots_any _ _ (by simp; omega) (hg.next (by go_grown))).mono ?_
          rintro e w3 ⟨rfl, hb⟩
          have s1 := (r1.set 3 _).next hb (by go_size)
          have s2 := (r2.setO (a := ⟨w.heap.size + 1, 3, none⟩) (by simp) _).next hb (by go_size)
          have K := (B.setCell (p := ⟨w.heap.size + 1, 3, none⟩) (by simp) _).trans (hb.mono (by have := B.size; go_size))
          clear rc0 rc1 rf1 rf2 rc2 r0 r1 r2 B hlt0 hlt1 hlt2
          have rc1 := s1.cell
          have rf1 := s1.free
          have rc2 := s2.cell
          have rf2 := s2.free
          have hlt1 := s1.lt
          have hlt2 := s2.lt
          go_wp2_with fail
          refine bodyPost_ret (v := (resolveA ⟨bs, true, bu, [], bhq, bq, bhf, bf⟩ ⟨[], false, u, c :: l, hq, q, hf, f⟩).val) (by rw [hR.out, hA.out]; simp [results, Tryz.results50, go_sem, rc2]) rfl ⟨rfl, by go_grown⟩
        | cons x bp =>
          have hk1 : -1 ≤ k := hk.1
          have hk2 : k < (bp.length : Int) + 1 := hk.2
          clear hk
          have hbl' : bp.length + 1 ≤ 1073741824 := hbl
          go_wp2_with fail
          refine (dots_any _ _ (by simp; omega) (hg.next (by go_grown))).mono ?_
          rintro e w3 ⟨rfl, hb⟩
          have s1 := (r1.set 3 _).next hb (by go_size)
          have s2 := (r2.setO (a := ⟨w.heap.size + 1, 3, none⟩) (by simp) _).next hb (by go_size)
          have K := (B.setCell (p := ⟨w.heap.size + 1, 3, none⟩) (by simp) _).trans (hb.mono (by have := B.size; go_size))
          clear rc0 rc1 rf1 rf2 rc2 r0 r1 r2 B hlt0 hlt1 hlt2
          have rc1 := s1.cell
          have rf1 := s1.free
          have rc2 := s2.cell
          have rf2 := s2.free
          have hlt1 := s1.lt
          have hlt2 := s2.lt
          go_wp2_with fail
          refine bodyPost_ret (v := (resolveA ⟨bs, true, bu, (x :: bp), bhq, bq, bhf, bf⟩ ⟨[], false, u, c :: l, hq, q, hf, f⟩).val) (by rw [hR.out, hA.out]; simp [results, Tryz.results50, go_sem, rc2]) rfl ⟨rfl, by go_grown⟩
theorem resolve_any (b a : Addr) (w : World) (hb : b.path.length ≤ 1073741824) (ha : a.path.length ≤ 1073741824) (hg : Ground w) :
    Calls Tryz.prog 50 #[b.val, a.val] w fun e w' => e = .returned (resolveA b a).val ∧ Below w.heap.size w w' := by
  by_cases h1 : a.scheme = []
  · cases h2 : a.hasAuth with
    | true => exact resolve_auth b a w (by omega) hg h1 h2
    | false =>
      obtain ⟨s, ha', u, p, hq, q, hf, f⟩ := a
      simp only at h1 h2 ha
      subst h1
      subst h2
      cases p with
      | nil => exact resolve_none b u q f hq hf w
      | cons c l =>
        have hl : l.length + 1 ≤ 1073741824 := ha
        by_cases hc : c = 47
        · subst hc
          exact resolve_root b u q f hq hf (by omega) w hg
        · exact resolve_on b u q f hq hf hc (by omega) hb w hg
  · exact resolve_scheme b a w (by omega) hg h1
def ReadPost (l : Bs) (w : World) (e : Ending) (w' : World) : Prop :=
  e = .returned (match readA l with | some a => .tuple #[a.val, .nilIface] | none => .tuple #[Addr.zero.val, .iface 30 (.int .i64 3)]) ∧ Below w.heap.size w w'
set_option maxHeartbeats 1000000 in
set_option maxRecDepth 100000 in
theorem addrRead_any (l : Bs) (w : World) (hl : l.length < 4294967281) (hg : Ground w) :
    Calls Tryz.prog 44 #[.string ⟨l.toArray⟩] w (ReadPost l w) := by
  go_enter Tryz.func44, Tryz.ntmps44
  go_wp2_with fail
  go_loop [12] (fun i => ∃ k : Nat, k ≤ l.length ∧ i = .int .i64 k ∧ (l.take k).all okB = true) (fun i => l.length - (intOf i).toNat)
  case atStart => exact ⟨0, Nat.zero_le _, rfl, by simp⟩
  case round =>
    obtain ⟨k, hk, rfl, hall⟩ := hrel
    by_cases hlt : k < l.length
    · by_cases ho : (33 : Int) ≤ l[k].toNat ∧ (l[k].toNat : Int) ≤ 126
      · obtain ⟨h1, h2⟩ := ho
        go_wp2_with fail
        go_round
        case rel => exact ⟨k + 1, by omega, by go_num, all_take_succ okB hlt hall (okB_yes h1 h2)⟩
        case measure => simp [intOf]; omega
      · have hf := all_at_false okB hlt (okB_no ho)
        go_wp2_with fail
        all_goals
          refine bodyPost_ret (v := .tuple #[Addr.zero.val, .iface 30 (.int .i64 3)]) (by simp [results, Tryz.results44, go_sem, Addr.zero]) rfl ⟨by rw [readA, hf]; rfl, by go_grown⟩
    · obtain rfl : k = l.length := by omega
      rw [List.take_length] at hall
      have le1 := cut_le2 l [35]
      generalize hc1 : Lib.cut l [35] = c1 at le1
      obtain ⟨s1, f, hf⟩ := c1
      have hC1 := Lib.hid hc1; clear hc1
      simp only at le1
      go_wp2_with fail
      refine (cutS l [35] _ hl (hg.next (by go_grown))).mono ?_
      rintro e w1 ⟨rfl, hb1⟩
      rw [hC1.out]
      have r1 : Blk w1 w.heap.size zCells 36 := ((Blk.new w _ _).alloc _).next hb1 (by go_size)
      have a1 := (Blk.new (w.alloc (.cells zCells 36)) zCells 36).next hb1 (by go_size)
      rw [World.size_alloc] at a1
      have B1 : Below w.heap.size w w1 := (((Below.refl _ w).alloc (Nat.le_refl _) _).alloc (by go_size) _).trans (hb1.mono (by go_size))
      have le2 := cut_le2 s1 [63]
      generalize hc2 : Lib.cut s1 [63] = c2 at le2
      obtain ⟨s2, q, hq⟩ := c2
      have hC2 := Lib.hid hc2; clear hc2
      simp only at le2
      clear hb1
      have az := a1.free
      have ac := a1.cell
      go_wp2_with fail
      have B1' := (B1.setCell (p := ⟨w.heap.size + 1, 7, none⟩) (by simp) (.string ⟨f.toArray⟩)).setCell (p := ⟨w.heap.size + 1, 6, none⟩) (by simp) (.bool hf)
      refine (cutS s1 [63] _ (by omega) (hg.next B1')).mono ?_
      rintro e w2 ⟨rfl, hb2⟩
      rw [hC2.out]
      have r2 := ((r1.setO (a := ⟨w.heap.size + 1, 7, none⟩) (by simp) (.string ⟨f.toArray⟩)).setO (a := ⟨w.heap.size + 1, 6, none⟩) (by simp) (.bool hf)).next hb2 (by have := r1.lt; go_size)
      have a2 : Blk w2 (w.heap.size + 1) #[.string ⟨#[]⟩, .bool false, .string ⟨#[]⟩, .string ⟨#[]⟩, .bool false, .string ⟨#[]⟩, .bool hf, .string ⟨f.toArray⟩] _ := ((a1.set 7 (.string ⟨f.toArray⟩)).set 6 (.bool hf)).next hb2 (by have := a1.lt; go_size)
      have B2 : Below w.heap.size w w2 := B1'.trans (hb2.mono (by have := r1.lt; go_size))
      clear hb2 ac az a1 r1 B1 B1'
      have az := a2.free
      have ac := a2.cell
      have hI := idxByte s2 58 58 rfl
      have hK : HasAt s2 58 (Lib.indexByte s2 58) := hasAt_index s2 58
      generalize Lib.indexByte s2 58 = k at hI hK
      go_upto_region 11 with (go_at_call 100; refine (hI _).mono ?_; rintro e w' ⟨rfl, rfl⟩)
      go_cut [53] (fun s53 wx => s53 = .bool (hasScheme s2) ∧ Blk wx w.heap.size zCells 36 ∧ Blk wx (w.heap.size + 1) #[.string ⟨#[]⟩, .bool false, .string ⟨#[]⟩, .string ⟨#[]⟩, .bool hq, .string ⟨q.toArray⟩, .bool hf, .string ⟨f.toArray⟩] 36 ∧ Below w.heap.size w wx)
      case first =>
        have r3 := (r2.setO (a := ⟨w.heap.size + 1, 5, none⟩) (by simp) (.string ⟨q.toArray⟩)).setO (a := ⟨w.heap.size + 1, 4, none⟩) (by simp) (.bool hq)
        have a3 : Blk _ (w.heap.size + 1) #[.string ⟨#[]⟩, .bool false, .string ⟨#[]⟩, .string ⟨#[]⟩, .bool hq, .string ⟨q.toArray⟩, .bool hf, .string ⟨f.toArray⟩] _ := (a2.set 5 (.string ⟨q.toArray⟩)).set 4 (.bool hq)
        have B3 := (B2.setCell (p := ⟨w.heap.size + 1, 5, none⟩) (by simp) (.string ⟨q.toArray⟩)).setCell (p := ⟨w.heap.size + 1, 4, none⟩) (by simp) (.bool hq)
        clear ac az
        rcases Int.lt_or_le 0 k with hk0 | hk0
        · have hkl := hK.le hk0
          go_wp2_with fail
          refine (scheme_any _ _ (by simp; omega)).mono ?_
          rintro e w4 ⟨rfl, hb4⟩
          go_wp2_with fail
          go_meet
          exact ⟨by rw [hK.yes hk0], r3.next hb4 r3.lt, a3.next hb4 a3.lt, B3.trans (hb4.mono (by have := r3.lt; omega))⟩
        · go_wp2_with fail
          go_meet
          exact ⟨by rw [hK.no hk0], r3, a3, B3⟩
      case rest =>
        obtain ⟨rfl, r4, a4, B4⟩ := hcut
        go_upto_if 53 with fail
        go_cut [0] (fun s0 wx => s0 = .string ⟨(parseScheme s2).2.toArray⟩ ∧ Blk wx w.heap.size zCells 36 ∧ Blk wx (w.heap.size + 1) #[.string ⟨(parseScheme s2).1.toArray⟩, .bool false, .string ⟨#[]⟩, .string ⟨#[]⟩, .bool hq, .string ⟨q.toArray⟩, .bool hf, .string ⟨f.toArray⟩] 36 ∧ Below w.heap.size w wx)
        case first =>
          have az := a4.free
          have ac := a4.cell
          cases hb : hasScheme s2 with
          | false =>
            go_wp2_with fail
            go_meet
            have h := parseScheme_no hb
            exact ⟨by rw [h], r4, by rw [h]; exact a4, B4⟩
          | true =>
            have h := hK.parse hb
            have hk0 := hK.pos hb
            have hkl := hK.le hk0
            go_wp2_with fail
            go_region
            all_goals go_wp2_with fail
            all_goals go_meet
            all_goals exact ⟨by rw [h], r4.setO (by simp) _, by rw [h]; exact a4.set 0 _, (B4.setCell (p := ⟨w.heap.size + 1, 0, none⟩) (by simp) _).drew⟩
        case rest =>
          obtain ⟨rfl, r5, a5, B5⟩ := hcut
          clear r4 a4 B4 r2 a2 B2
          generalize hs3 : parseScheme s2 = s3 at r5 a5 B5 ⊢
          obtain ⟨sch, s3⟩ := s3
          have HS3 := Lib.hid hs3; clear hs3
          simp only at a5 ⊢
          have az := a5.free
          have ac := a5.cell
          have rz := r5.free
          have rc := r5.cell
          have hlt5 := a5.lt
          by_cases hp : Lib.hasPrefix s3 [47, 47] = true
          · have hq2 := cutPre s3 [47, 47] wc
            have HA := Lib.hid (parseAuth_yes hp)
            have HL := Lib.hid (Lib.trimPrefix_le s3 [47, 47])
            rw [hp] at hq2
            generalize Lib.trimPrefix s3 [47, 47] = rest at hq2 HA HL
            have hI2 := idxByte rest 47 47 rfl
            have hK2 : HasAt rest 47 (Lib.indexByte rest 47) := hasAt_index rest 47
            generalize Lib.indexByte rest 47 = k2 at hI2 hK2
            go_wp2_with fail
            refine hq2.mono ?_
            rintro e w' ⟨rfl, rfl⟩
            go_wp2_with fail
            refine (hI2 _).mono ?_
            rintro e w' ⟨rfl, rfl⟩
            rcases Int.lt_or_le k2 0 with hk2 | hk2
            · have hA := hK2.auth_no hk2
              go_wp2_with fail
              go_region
              all_goals go_wp2_with fail
              all_goals
                refine bodyPost_ret (v := .tuple #[(parseA l).val, .nilIface]) (by rw [parseA_eq hC1.out hC2.out HS3.out (HA.out.trans hA)]; simp [results, Tryz.results44, go_sem, rc] <;> rfl) rfl ⟨by rw [readA, hall]; rfl, by go_grown⟩
            · have hA := hK2.auth_yes hk2
              have hkl2 := hK2.le' hk2
              go_wp2_with fail
              go_region
              all_goals go_wp2_with fail
              all_goals
                refine bodyPost_ret (v := .tuple #[(parseA l).val, .nilIface]) (by rw [parseA_eq hC1.out hC2.out HS3.out (HA.out.trans hA)]; simp [results, Tryz.results44, go_sem, rc] <;> rfl) rfl ⟨by rw [readA, hall]; rfl, by go_grown⟩
          · have hq2 := cutPre s3 [47, 47] wc
            have hA := parseAuth_no hp
            rw [Bool.eq_false_iff.2 hp] at hq2
            go_wp2_with fail
            refine hq2.mono ?_
            rintro e w' ⟨rfl, rfl⟩
            go_wp2_with fail
            refine bodyPost_ret (v := .tuple #[(parseA l).val, .nilIface]) (by rw [parseA_eq hC1.out hC2.out HS3.out hA]; simp [results, Tryz.results44, go_sem, rc] <;> rfl) rfl ⟨by rw [readA, hall]; rfl, by go_grown⟩
def Addr.len (a : Addr) : Nat := a.scheme.length + a.auth.length + a.path.length + a.query.length + a.frag.length
def bits (b : Bool) (l : Bs) : Bs := if b then l else []
theorem bits_le (b : Bool) (l : Bs) : (bits b l).length ≤ l.length := by cases b <;> simp [bits]
theorem writeA_bits (a : Addr) : writeA a = bits (!a.scheme.isEmpty) (a.scheme ++ [58]) ++ bits a.hasAuth (47 :: 47 :: a.auth) ++ a.path ++ bits a.hasQuery (63 :: a.query) ++ bits a.hasFrag (35 :: a.frag) := by
  unfold writeA bits
  cases h : a.scheme <;> simp
set_option maxHeartbeats 1000000 in
set_option maxRecDepth 100000 in
theorem addrWrite_any (a : Addr) (w : World) (hl : a.len ≤ 140737488355000) :
    Calls Tryz.prog 51 #[a.val] w fun e w' => e = .returned (.string ⟨(writeA a).toArray⟩) ∧ Below w.heap.size w w' := by
  obtain ⟨s, ha, u, p, hq, q, hf, f⟩ := a
  unfold Addr.len at hl
  simp only at hl
  go_enter Tryz.func51, Tryz.ntmps51
  go_upto_if 6 with fail
  go_cut [0, 2] (fun _s0 s2 wx => s2 = .string ⟨#[]⟩ ∧ Blk wx w.heap.size (Addr.cells ⟨s, ha, u, p, hq, q, hf, f⟩) 36 ∧ Bld (w.heap.size + 1) (w.heap.size + 1) (bits (!s.isEmpty) (s ++ [58])) wx ∧ Below w.heap.size w wx)
  case first =>
    have r0 := (Blk.new w (Addr.cells ⟨s, ha, u, p, hq, q, hf, f⟩) 36).alloc (.cells #[.pointer none, .slice none 0 0] 128)
    have b0 := (bldNew (w.alloc (.cells (Addr.cells ⟨s, ha, u, p, hq, q, hf, f⟩) 36)))
    rw [World.size_alloc] at b0
    have B0 : Below w.heap.size w _ := ((Below.refl _ w).alloc (Nat.le_refl _) (.cells (Addr.cells ⟨s, ha, u, p, hq, q, hf, f⟩) 36)).alloc (by go_size) (.cells #[.pointer none, .slice none 0 0] 128)
    have rc := r0.cell
    go_wp2_with fail
    · refine (wrStr (w.heap.size + 1) _ _ _ _ b0 (by simp; omega) r0.lt).mono ?_
      have hs : (!List.isEmpty s) = true := by assumption
      rintro e w1 ⟨rfl, b', hb'⟩
      go_wp2_with fail
      go_meet
      refine ⟨rfl, r0.next hb' (by omega), ?_, B0.trans (hb'.mono (by omega))⟩
      rw [hs]; simpa [bits] using b'
    · go_meet
      have hs : (!List.isEmpty s) = false := by assumption
      refine ⟨rfl, r0, ?_, B0⟩
      rw [hs]; simpa [bits] using b0
  case rest =>
    obtain ⟨rfl, r1, b1, B1⟩ := hcut
    have rc1 := r1.cell
    go_upto_if 12 with fail
    go_cut [0, 2] (fun _s0 s2 wx => s2 = .string ⟨#[]⟩ ∧ Blk wx w.heap.size (Addr.cells ⟨s, ha, u, p, hq, q, hf, f⟩) 36 ∧ Bld (w.heap.size + 1) (w.heap.size + 1) (bits (!s.isEmpty) (s ++ [58]) ++ bits ha (47 :: 47 :: u)) wx ∧ Below w.heap.size w wx)
    case first =>
      have rc := r1.cell
      go_wp2_with fail
      · refine (wrStr (w.heap.size + 1) _ _ _ _ b1 (by have := bits_le (!s.isEmpty) (s ++ [58]); simp at *; omega) r1.lt).mono ?_
        have hs : ha = true := by assumption
        rintro e w1 ⟨rfl, b', hb'⟩
        go_wp2_with fail
        go_meet
        refine ⟨rfl, r1.next hb' (by omega), ?_, B1.trans (hb'.mono (by omega))⟩
        simpa [bits, hs] using b'
      · go_meet
        have hs : ha = false := by assumption
        refine ⟨rfl, r1, ?_, B1⟩
        simpa [bits, hs] using b1
    case rest =>
      obtain ⟨rfl, r2, b2, B2⟩ := hcut
      have rc := r2.cell
      go_wp2_with fail
      refine (wrStr (w.heap.size + 1) _ _ _ _ b2 (by have := bits_le (!s.isEmpty) (s ++ [58]); have := bits_le ha (47 :: 47 :: u); simp at *; omega) r2.lt).mono ?_
      rintro e w3 ⟨rfl, b3, hb3⟩
      have r3 := r2.next hb3 (by omega)
      have B3 := B2.trans (hb3.mono (by omega))
      clear rc r2 B2 hb3 b2
      have rc := r3.cell
      go_upto_if 21 with fail
      go_cut [0, 2] (fun _s0 s2 wx => s2 = .string ⟨#[]⟩ ∧ Blk wx w.heap.size (Addr.cells ⟨s, ha, u, p, hq, q, hf, f⟩) 36 ∧ Bld (w.heap.size + 1) (w.heap.size + 1) (bits (!s.isEmpty) (s ++ [58]) ++ bits ha (47 :: 47 :: u) ++ p ++ bits hq (63 :: q)) wx ∧ Below w.heap.size w wx)
      case first =>
        have rc := r3.cell
        go_wp2_with fail
        · refine (wrStr (w.heap.size + 1) _ _ _ _ b3 (by have := bits_le (!s.isEmpty) (s ++ [58]); have := bits_le ha (47 :: 47 :: u); simp at *; omega) r3.lt).mono ?_
          have hs : hq = true := by assumption
          rintro e w1 ⟨rfl, b', hb'⟩
          go_wp2_with fail
          go_meet
          refine ⟨rfl, r3.next hb' (by omega), ?_, B3.trans (hb'.mono (by omega))⟩
          simpa [bits, hs] using b'
        · go_meet
          have hs : hq = false := by assumption
          refine ⟨rfl, r3, ?_, B3⟩
          simpa [bits, hs] using b3
      case rest =>
        obtain ⟨rfl, r4, b4, B4⟩ := hcut
        have rc4 := r4.cell
        go_upto_if 27 with fail
        go_cut [0, 2] (fun _s0 s2 wx => s2 = .string ⟨#[]⟩ ∧ Blk wx w.heap.size (Addr.cells ⟨s, ha, u, p, hq, q, hf, f⟩) 36 ∧ Bld (w.heap.size + 1) (w.heap.size + 1) (bits (!s.isEmpty) (s ++ [58]) ++ bits ha (47 :: 47 :: u) ++ p ++ bits hq (63 :: q) ++ bits hf (35 :: f)) wx ∧ Below w.heap.size w wx)
        case first =>
          have rc := r4.cell
          go_wp2_with fail
          · refine (wrStr (w.heap.size + 1) _ _ _ _ b4 (by have := bits_le (!s.isEmpty) (s ++ [58]); have := bits_le ha (47 :: 47 :: u); have := bits_le hq (63 :: q); simp at *; omega) r4.lt).mono ?_
            have hs : hf = true := by assumption
            rintro e w1 ⟨rfl, b', hb'⟩
            go_wp2_with fail
            go_meet
            refine ⟨rfl, r4.next hb' (by omega), ?_, B4.trans (hb'.mono (by omega))⟩
            simpa [bits, hs] using b'
          · go_meet
            have hs : hf = false := by assumption
            refine ⟨rfl, r4, ?_, B4⟩
            simpa [bits, hs] using b4
        case rest =>
          obtain ⟨rfl, r5, b5, B5⟩ := hcut
          go_wp2_with fail
          refine (bldStr (w.heap.size + 1) _ _ _ b5 r5.lt).mono ?_
          rintro e w6 ⟨rfl, hb6⟩
          go_wp2_with fail
          go_ret
          refine ⟨ret_str ?_, B5.trans (hb6.mono (by omega))⟩
          rw [writeA_bits]
          simp
set_option maxHeartbeats 1000000 in
theorem eqAddr (a b : Addr) (w : World) : (Op.equalIn 10000 36 (.agg a.cells) (.agg b.cells)).run Tryz.prog w = .ok (decide (a = b)) w := by
  obtain ⟨a1, a2, a3, a4, a5, a6, a7, a8⟩ := a
  obtain ⟨b1, b2, b3, b4, b5, b6, b7, b8⟩ := b
  have u4 := Tryz.underlying4; have t4 := Tryz.isAgg4; have z4 := Tryz.sizeOf4
  have u9 := Tryz.underlying9; have t9 := Tryz.isAgg9; have z9 := Tryz.sizeOf9
  have hS : Tryz.prog.underlying 36 = some (.struct (Tryz.prog.fieldsOf 36)) := by kernel_rfl
  have hp : Tryz.prog.stoodInHeld 36 = false := by kernel_rfl
  rw [show (10000 : Nat) = 9999 + 1 from rfl, run_equalIn_agg w 9999 36 _ _ hS hp]
  simp only [Program.fieldsOf, Tryz.underlying36]
  go_simp
  repeat' split
  all_goals simp [*]
@[go_sem high] theorem eqlAddr (a b : Addr) (w : World) : (binOp .eql 36 (.agg a.cells) (.agg b.cells)).run Tryz.prog w = .ok (.bool (decide (a = b))) w := by
  rw [run_eql_struct, eqAddr]; rfl
@[go_sem high] theorem neqAddr (a b : Addr) (w : World) : (binOp .neq 36 (.agg a.cells) (.agg b.cells)).run Tryz.prog w = .ok (.bool (!decide (a = b))) w := by
  rw [run_neq_struct, eqAddr]; rfl
theorem eqGuardAddr : Tryz.prog.eqGuardType Tryz.prog.depth 36 = false := by kernel_rfl
theorem parseScheme_len (l : Bs) : (parseScheme l).1.length + (parseScheme l).2.length ≤ l.length := by
  unfold parseScheme
  cases h : cutP [58] l with
  | none => simp
  | some x =>
    obtain ⟨a, b⟩ := x
    have e := congrArg List.length (cutP_some h)
    simp at e
    simp only
    split
    · simp only; omega
    · simp
theorem parseAuth_len (l : Bs) : (parseAuth l).2.1.length + (parseAuth l).2.2.length ≤ l.length := by
  unfold parseAuth
  split
  · cases h : cutP [47] (l.drop 2) with
    | none => simp
    | some x =>
      obtain ⟨a, b⟩ := x
      have e := congrArg List.length (cutP_some h)
      simp at e
      simp
      omega
  · simp
theorem readA_len {s : Bs} {x : Addr} (h : readA s = some x) : x.len ≤ 3 * s.length := by
  unfold readA at h
  split at h
  · cases h
    have h1 := cut_le2 s [35]
    have h2 := cut_le2 (Lib.cut s [35]).1 [63]
    have h3 := parseScheme_len (Lib.cut (Lib.cut s [35]).1 [63]).1
    have h4 := parseAuth_len (parseScheme (Lib.cut (Lib.cut s [35]).1 [63]).1).2
    unfold parseA Addr.len
    simp only
    omega
  · cases h
theorem resolve_len (x y : Addr) : (resolveA x y).len ≤ 2 * x.len + 2 * y.len + 4 ∧ (resolveA x y).path.length ≤ 2 * x.len + 2 * y.len + 4 := by
  have h1 := dotsA_len y.path
  have h2 := dotsA_len (ahead x ++ y.path)
  have h3 := ahead_len x
  simp only [List.length_append] at h2
  unfold resolveA Addr.len
  split
  · simp only; omega
  · split
    · simp only; omega
    · split
      · cases hq : y.hasQuery <;> simp <;> omega
      · rename_i c l hp
        rw [hp] at h1 h2
        rw [hp]
        split <;> simp only <;> omega
theorem whole_len (x : Addr) : (wholeA x).len ≤ x.len := by unfold wholeA Addr.len lowS; simp
end Go.Proofs.YtignjjnflcpiiaaGreatDoor
