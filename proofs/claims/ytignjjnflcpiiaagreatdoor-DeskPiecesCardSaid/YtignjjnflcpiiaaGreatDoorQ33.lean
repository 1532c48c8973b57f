/- desk's at. Condition: what the variables hold; so many bytes. -/
import Derived.Test.YtignjjnflcpiiaaGreatDoorQ32
namespace Go.Proofs.YtignjjnflcpiiaaGreatDoor
open Go Go.RowKit
theorem atB_bd {b : Bnd} {n : Int} {a : Addr} (hin : BndIn b) (h : atB b n = some a) : a.len ≤ 1000000 := by
  unfold atB at h
  split at h
  · cases h
  · exact hin.placeL a (List.mem_of_getElem? h)
set_option maxHeartbeats 16000000 in
set_option maxRecDepth 100000 in
theorem dat_any (X : Nat → Prop) (d : Nat) (dk : Dsk) (v : Value) (l : List Bs) (w : World) (hD : DeskM X w d dk) (h : RdW w v l) (hx : ∀ x ∈ l, x.length ≤ 1000000) (hg : Gz w) (hn : l.length ≤ 1000000) :
    Calls Tryz.prog 222 #[.pointer (some ⟨d, 0, none⟩), v] w fun e w' => AnsOr (atD dk l) e ∧ Below w.heap.size w w' := by
  obtain ⟨bk, o, c, rfl, hbk0, _, hcl⟩ := h
  by_cases h0 : l.length = 1
  case neg =>
    have HN := Lib.hid (show atD dk l = .error 3 from by unfold atD; rw [if_pos h0])
    have hW := words_no (some ⟨bk, o, none⟩) l.length c 1 (by rw [beq_eq_false_iff_ne]; omega) w hg.r
    unfold thrown at hW
    clear h0
    go_enter Tryz.func222, Tryz.ntmps222
    go_wp2_with fail
    with_reducible refine hW.mono ?_
    rintro e w1 ⟨rfl, b1⟩
    go_wp2_with fail
    exact ⟨rfl, by rw [HN.out]; rfl, b1⟩
  obtain ⟨x, rfl⟩ := List.length_eq_one_iff.1 h0
  have hW := fun W => words_ok (some ⟨bk, o, none⟩) 1 c 1 rfl W
  have hc0 := hcl 0 x rfl
  have hxl := hx x (by simp)
  have HF := Lib.hid (show atD dk [x] = match dk.bundle with
    | none => .error 7
    | some b => match numN x with
      | none => .error 3
      | some n => match atB b n with
        | none => .error 2
        | some a => .ok (isT (writeA a)) from rfl)
  rw [Nat.add_zero] at hc0
  clear h0 hcl hx
  have hc : w.drew.cell? ⟨bk, o, none⟩ = some (.string ⟨x.toArray⟩) := hc0
  have hbk : bk < w.drew.heap.size := hbk0
  have hgd : Gz w.drew := hg.next (Below.refl w.heap.size w).drew
  have hDd : DeskM X w.drew d dk := hD.next (Below.refl w.heap.size w).drew
  have Bd := (Below.refl w.heap.size w).drew
  have B0 := Below.refl w.drew.heap.size w.drew
  have hNm0 := fun W hW => number_any x W (by omega) hW
  go_enter Tryz.func222, Tryz.ntmps222
  go_wp2_with fail
  with_reducible refine (hW _).mono ?_
  rintro e w0 ⟨rfl, rfl⟩
  go_upto_region 2 with fail
  have hS0 : (fun W => W.cell? ⟨bk, o, none⟩ = some (.string ⟨x.toArray⟩)) w.drew := hc
  cases hb : dk.bundle with
  | none =>
    have HN := Lib.hid (show atD dk [x] = .error 7 from by rw [HF.out, hb])
    have hIs := fun W (hW : DeskM X W d dk) hG => dis_none d W (hW.no hb) hG
    unfold thrown at hIs
    clear hNm0 hb
    refine wp_region_stop 12 (fun W => W.cell? ⟨bk, o, none⟩ = some (.string ⟨x.toArray⟩)) (by kernel_rfl) ?_
    generalize w.drew = wd at hc hbk hgd hDd Bd B0 hS0 ⊢
    refine GoesG.takeU (i := 0) (v := ?_) rfl (by kernel_rfl) (by kernel_rfl) (by kernel_rfl) (by decide) (fun _ _ _ h => h) (Or.inl ⟨by rfl, ?_⟩) hS0 ?_
    rotate_left
    · (intro W; go_simp; try with_reducible rfl)
    (try simp only [Act.put])
    refine GoesG.takeU (i := 2) (v := ?_) rfl (by kernel_rfl) (by kernel_rfl) (by kernel_rfl) (by decide) (fun _ _ _ h => h) (Or.inl ⟨by rfl, ?_⟩) hS0 ?_
    rotate_left
    · (intro W; go_simp; try with_reducible rfl)
    (try simp only [Act.put])
    refine GoesG.takeU (i := 3) (v := ?_) rfl (by kernel_rfl) (by kernel_rfl) (by kernel_rfl) (by decide) (fun _ _ _ h => h) (Or.inl ⟨by rfl, ?_⟩) hS0 ?_
    rotate_left
    · (intro W; go_simp; try with_reducible rfl)
    (try simp only [Act.put])
    refine GoesG.take (i := 4) (v := ?_) rfl (by kernel_rfl) (by kernel_rfl) (by kernel_rfl) (by kernel_rfl) (by decide) (fun _ _ _ h => h) (Or.inl ⟨by rfl, ?_⟩) hS0 ?_
    rotate_left
    · (intro W hSw; (try dsimp only at hSw); go_simp; try with_reducible rfl)
    (try simp only [Act.put])
    refine GoesG.all [1, 10] (by kernel_rfl) (by decide) (by decide) (ReadyG.cons rfl (fun K hK => ?_) (ReadyG.cons rfl (fun K hK => ?_) ReadyG.nil))
    · go_simp
      with_reducible refine (hIs wd (hDd.next B0) (hgd.next B0).r).mono ?_
      rintro e we ⟨rfl, be⟩
      go_wp2_with fail
      exact ⟨rfl, by rw [HN.out]; rfl, Bd.trans ((B0.trans (be.mono B0.size)).mono Bd.size)⟩
    · go_simp
      have Bwz1 := B0.alloc B0.size (.cells #[.string ⟨#[]⟩, .bool false, .string ⟨#[]⟩, .string ⟨#[]⟩, .bool false, .string ⟨#[]⟩, .bool false, .string ⟨#[]⟩] 36)
      have kwz1 := Blk.new wd #[.string ⟨#[]⟩, .bool false, .string ⟨#[]⟩, .string ⟨#[]⟩, .bool false, .string ⟨#[]⟩, .bool false, .string ⟨#[]⟩] 36
      have hgewz1 := B0.size
      have hSwz1 : (fun W => W.cell? ⟨bk, o, none⟩ = some (.string ⟨x.toArray⟩)) (World.alloc wd (.cells #[.string ⟨#[]⟩, .bool false, .string ⟨#[]⟩, .string ⟨#[]⟩, .bool false, .string ⟨#[]⟩, .bool false, .string ⟨#[]⟩] 36)) := (Bwz1.cell (p := ⟨bk, o, none⟩) hbk).trans hc
      refine hK.out _ _ hSwz1 ?_
      clear hK K
      (try simp only [Act.put])
      generalize World.alloc wd _ = wz1 at Bwz1 kwz1 hSwz1 ⊢
      have kAx := kwz1
      have hgA := hgewz1
      refine GoesG.one (j := 1) (by kernel_rfl) rfl (by decide) (fun K hK => ?_)
      go_simp
      with_reducible refine (hIs wz1 (hDd.next Bwz1) (hgd.next Bwz1).r).mono ?_
      rintro e we ⟨rfl, be⟩
      go_wp2_with fail
      exact ⟨rfl, by rw [HN.out]; rfl, Bd.trans ((Bwz1.trans (be.mono Bwz1.size)).mono Bd.size)⟩
  | some b =>
    obtain ⟨bp, hcb, hRB, hin, _⟩ := hDd.yes hb
    have hdl : d < w.drew.heap.size := World.block_lt_of_cell? _ _ hcb
    cases hr : numN x with
    | none =>
      have HN := Lib.hid (show atD dk [x] = .error 3 from by rw [HF.out, hb]; simp only [hr])
      have hNm := hNm0
      rw [hr] at hNm
      unfold thrown at hNm
      simp only at hNm
      clear hNm0 hr hb
      refine wp_region_stop 12 (fun W => W.cell? ⟨bk, o, none⟩ = some (.string ⟨x.toArray⟩)) (by kernel_rfl) ?_
      generalize w.drew = wd at hc hbk hgd hDd Bd B0 hS0 hcb hRB hdl ⊢
      refine GoesG.takeU (i := 0) (v := ?_) rfl (by kernel_rfl) (by kernel_rfl) (by kernel_rfl) (by decide) (fun _ _ _ h => h) (Or.inl ⟨by rfl, ?_⟩) hS0 ?_
      rotate_left
      · (intro W; go_simp; try with_reducible rfl)
      (try simp only [Act.put])
      refine GoesG.takeU (i := 2) (v := ?_) rfl (by kernel_rfl) (by kernel_rfl) (by kernel_rfl) (by decide) (fun _ _ _ h => h) (Or.inl ⟨by rfl, ?_⟩) hS0 ?_
      rotate_left
      · (intro W; go_simp; try with_reducible rfl)
      (try simp only [Act.put])
      refine GoesG.takeU (i := 3) (v := ?_) rfl (by kernel_rfl) (by kernel_rfl) (by kernel_rfl) (by decide) (fun _ _ _ h => h) (Or.inl ⟨by rfl, ?_⟩) hS0 ?_
      rotate_left
      · (intro W; go_simp; try with_reducible rfl)
      (try simp only [Act.put])
      refine GoesG.take (i := 4) (v := ?_) rfl (by kernel_rfl) (by kernel_rfl) (by kernel_rfl) (by kernel_rfl) (by decide) (fun _ _ _ h => h) (Or.inl ⟨by rfl, ?_⟩) hS0 ?_
      rotate_left
      · (intro W hSw; (try dsimp only at hSw); go_simp; try with_reducible rfl)
      (try simp only [Act.put])
      refine GoesG.all [1, 10] (by kernel_rfl) (by decide) (by decide) (ReadyG.cons rfl (fun K hK => ?_) (ReadyG.cons rfl (fun K hK => ?_) ReadyG.nil))
      · go_simp
        with_reducible refine (dis_some d bp wd ((B0.cell (p := ⟨d, 0, none⟩) hdl).trans hcb)).mono ?_
        rintro e we ⟨rfl, rfl⟩
        refine hK.out _ _ hS0 ?_
        clear hK K
        (try simp only [Act.put])
        refine GoesG.all [5, 10] (by kernel_rfl) (by decide) (by decide) (ReadyG.cons rfl (fun K hK => ?_) (ReadyG.cons rfl (fun K hK => ?_) ReadyG.nil))
        · go_simp
          with_reducible refine (hNm wd (hgd.next B0)).mono ?_
          rintro e we ⟨rfl, be⟩
          go_wp2_with fail
          exact ⟨rfl, by rw [HN.out]; rfl, Bd.trans ((B0.trans (be.mono B0.size)).mono Bd.size)⟩
        · go_simp
          have Bwz2 := B0.alloc B0.size (.cells #[.string ⟨#[]⟩, .bool false, .string ⟨#[]⟩, .string ⟨#[]⟩, .bool false, .string ⟨#[]⟩, .bool false, .string ⟨#[]⟩] 36)
          have kwz2 := Blk.new wd #[.string ⟨#[]⟩, .bool false, .string ⟨#[]⟩, .string ⟨#[]⟩, .bool false, .string ⟨#[]⟩, .bool false, .string ⟨#[]⟩] 36
          have hgewz2 := B0.size
          have hSwz2 : (fun W => W.cell? ⟨bk, o, none⟩ = some (.string ⟨x.toArray⟩)) (World.alloc wd (.cells #[.string ⟨#[]⟩, .bool false, .string ⟨#[]⟩, .string ⟨#[]⟩, .bool false, .string ⟨#[]⟩, .bool false, .string ⟨#[]⟩] 36)) := (Bwz2.cell (p := ⟨bk, o, none⟩) hbk).trans hc
          refine hK.out _ _ hSwz2 ?_
          clear hK K
          (try simp only [Act.put])
          generalize World.alloc wd _ = wz2 at Bwz2 kwz2 hSwz2 ⊢
          have kAx := kwz2
          have hgA := hgewz2
          refine GoesG.one (j := 5) (by kernel_rfl) rfl (by decide) (fun K hK => ?_)
          go_simp
          with_reducible refine (hNm wz2 (hgd.next Bwz2)).mono ?_
          rintro e we ⟨rfl, be⟩
          go_wp2_with fail
          exact ⟨rfl, by rw [HN.out]; rfl, Bd.trans ((Bwz2.trans (be.mono Bwz2.size)).mono Bd.size)⟩
      · go_simp
        have Bwz3 := B0.alloc B0.size (.cells #[.string ⟨#[]⟩, .bool false, .string ⟨#[]⟩, .string ⟨#[]⟩, .bool false, .string ⟨#[]⟩, .bool false, .string ⟨#[]⟩] 36)
        have kwz3 := Blk.new wd #[.string ⟨#[]⟩, .bool false, .string ⟨#[]⟩, .string ⟨#[]⟩, .bool false, .string ⟨#[]⟩, .bool false, .string ⟨#[]⟩] 36
        have hgewz3 := B0.size
        have hSwz3 : (fun W => W.cell? ⟨bk, o, none⟩ = some (.string ⟨x.toArray⟩)) (World.alloc wd (.cells #[.string ⟨#[]⟩, .bool false, .string ⟨#[]⟩, .string ⟨#[]⟩, .bool false, .string ⟨#[]⟩, .bool false, .string ⟨#[]⟩] 36)) := (Bwz3.cell (p := ⟨bk, o, none⟩) hbk).trans hc
        refine hK.out _ _ hSwz3 ?_
        clear hK K
        (try simp only [Act.put])
        generalize World.alloc wd _ = wz3 at Bwz3 kwz3 hSwz3 ⊢
        have kAx := kwz3
        have hgA := hgewz3
        refine GoesG.one (j := 1) (by kernel_rfl) rfl (by decide) (fun K hK => ?_)
        go_simp
        with_reducible refine (dis_some d bp wz3 ((Bwz3.cell (p := ⟨d, 0, none⟩) hdl).trans hcb)).mono ?_
        rintro e we ⟨rfl, rfl⟩
        refine hK.out _ _ hSwz3 ?_
        clear hK K
        (try simp only [Act.put])
        refine GoesG.one (j := 5) (by kernel_rfl) rfl (by decide) (fun K hK => ?_)
        go_simp
        with_reducible refine (hNm wz3 (hgd.next Bwz3)).mono ?_
        rintro e we ⟨rfl, be⟩
        go_wp2_with fail
        exact ⟨rfl, by rw [HN.out]; rfl, Bd.trans ((Bwz3.trans (be.mono Bwz3.size)).mono Bd.size)⟩
    | some n =>
      have hnb := numN_bd hr
      have hNm := hNm0
      rw [hr] at hNm
      simp only at hNm
      have HF := Lib.hid (show atD dk [x] = match atB b n with
        | none => .error 2
        | some a => .ok (isT (writeA a)) from by rw [HF.out, hb]; simp only [hr])
      have hAt0 := fun W hW => at_any (fun _ => True) bp b n W hW hnb.1 hnb.2
      have hal0 := fun a (h : atB b n = some a) => atB_bd hin h
      clear hNm0 hr hb
      generalize atB b n = oa at hAt0 HF hal0
      obtain ⟨ad, ev, hav, hal, HF2⟩ : ∃ ad ev, atV oa = .tuple #[.agg ad.cells, ev] ∧ ad.len ≤ 1000000 ∧ Hid ((ev = .nilIface ∧ atD dk [x] = .ok (isT (writeA ad))) ∨ (ev = .iface 30 (.int .i64 2) ∧ atD dk [x] = .error 2)) := by
        cases oa with
        | none => exact ⟨Addr.zero, _, rfl, by decide, Lib.hid (Or.inr ⟨rfl, HF.out⟩)⟩
        | some a => exact ⟨a, _, rfl, hal0 a rfl, Lib.hid (Or.inl ⟨rfl, HF.out⟩)⟩
      have hAt := hAt0
      rw [hav] at hAt
      clear hAt0 hal0 hav HF
      go_cut [5, 6] (fun p q wx => ∃ blk, p = .pointer (some ⟨blk, 0, none⟩) ∧ q = ev ∧ Blk wx blk ad.cells 36 ∧ Below w.heap.size w wx)
      case first =>
        refine wp_region_stop 12 (fun W => W.cell? ⟨bk, o, none⟩ = some (.string ⟨x.toArray⟩)) (by kernel_rfl) ?_
        generalize w.drew = wd at hc hbk hgd hDd Bd B0 hS0 hcb hRB hdl ⊢
        refine GoesG.takeU (i := 0) (v := ?_) rfl (by kernel_rfl) (by kernel_rfl) (by kernel_rfl) (by decide) (fun _ _ _ h => h) (Or.inl ⟨by rfl, ?_⟩) hS0 ?_
        rotate_left
        · (intro W; go_simp; try with_reducible rfl)
        (try simp only [Act.put])
        refine GoesG.takeU (i := 2) (v := ?_) rfl (by kernel_rfl) (by kernel_rfl) (by kernel_rfl) (by decide) (fun _ _ _ h => h) (Or.inl ⟨by rfl, ?_⟩) hS0 ?_
        rotate_left
        · (intro W; go_simp; try with_reducible rfl)
        (try simp only [Act.put])
        refine GoesG.takeU (i := 3) (v := ?_) rfl (by kernel_rfl) (by kernel_rfl) (by kernel_rfl) (by decide) (fun _ _ _ h => h) (Or.inl ⟨by rfl, ?_⟩) hS0 ?_
        rotate_left
        · (intro W; go_simp; try with_reducible rfl)
        (try simp only [Act.put])
        refine GoesG.take (i := 4) (v := ?_) rfl (by kernel_rfl) (by kernel_rfl) (by kernel_rfl) (by kernel_rfl) (by decide) (fun _ _ _ h => h) (Or.inl ⟨by rfl, ?_⟩) hS0 ?_
        rotate_left
        · (intro W hSw; (try dsimp only at hSw); go_simp; try with_reducible rfl)
        (try simp only [Act.put])
        refine GoesG.all [1, 10] (by kernel_rfl) (by decide) (by decide) (ReadyG.cons rfl (fun K hK => ?_) (ReadyG.cons rfl (fun K hK => ?_) ReadyG.nil))
        · go_simp
          with_reducible refine (dis_some d bp wd ((B0.cell (p := ⟨d, 0, none⟩) hdl).trans hcb)).mono ?_
          rintro e we ⟨rfl, rfl⟩
          refine hK.out _ _ hS0 ?_
          clear hK K
          (try simp only [Act.put])
          refine GoesG.all [5, 10] (by kernel_rfl) (by decide) (by decide) (ReadyG.cons rfl (fun K hK => ?_) (ReadyG.cons rfl (fun K hK => ?_) ReadyG.nil))
          · go_simp
            with_reducible refine (hNm wd (hgd.next B0)).mono ?_
            rintro e wz4 ⟨rfl, bwz4⟩
            have Bwz4 := B0.trans (bwz4.mono B0.size)
            have hSwz4 : (fun W => W.cell? ⟨bk, o, none⟩ = some (.string ⟨x.toArray⟩)) wz4 := (Bwz4.cell (p := ⟨bk, o, none⟩) hbk).trans hc
            refine hK.out _ _ hSwz4 ?_
            clear hK K
            (try simp only [Act.put])
            clear bwz4
            refine GoesG.all [6, 10] (by kernel_rfl) (by decide) (by decide) (ReadyG.cons rfl (fun K hK => ?_) (ReadyG.cons rfl (fun K hK => ?_) ReadyG.nil))
            · go_simp
              with_reducible refine (hAt wz4 (hRB.next Bwz4)).mono ?_
              rintro e wz5 ⟨rfl, bwz5⟩
              have Bwz5 := Bwz4.trans (bwz5.mono Bwz4.size)
              have hSwz5 : (fun W => W.cell? ⟨bk, o, none⟩ = some (.string ⟨x.toArray⟩)) wz5 := (Bwz5.cell (p := ⟨bk, o, none⟩) hbk).trans hc
              refine hK.out _ _ hSwz5 ?_
              clear hK K
              (try simp only [Act.put])
              clear bwz5
              refine GoesG.takeU (i := 7) (v := ?_) rfl (by kernel_rfl) (by kernel_rfl) (by kernel_rfl) (by decide) (fun _ _ _ h => h) (Or.inl ⟨by rfl, ?_⟩) hSwz5 ?_
              rotate_left
              · (intro W; go_simp; try with_reducible rfl)
              (try simp only [Act.put])
              refine GoesG.takeU (i := 8) (v := ?_) rfl (by kernel_rfl) (by kernel_rfl) (by kernel_rfl) (by decide) (fun _ _ _ h => h) (Or.inl ⟨by rfl, ?_⟩) hSwz5 ?_
              rotate_left
              · (intro W; go_simp; try with_reducible rfl)
              (try simp only [Act.put])
              refine GoesG.takeU (i := 9) (v := ?_) rfl (by kernel_rfl) (by kernel_rfl) (by kernel_rfl) (by decide) (fun _ _ _ h => h) (Or.inl ⟨by rfl, ?_⟩) hSwz5 ?_
              rotate_left
              · (intro W; go_simp; try with_reducible rfl)
              (try simp only [Act.put])
              refine GoesG.one (j := 10) (by kernel_rfl) rfl (by decide) (fun K hK => ?_)
              go_simp
              have Bwz6 := Bwz5.alloc Bwz5.size (.cells #[.string ⟨#[]⟩, .bool false, .string ⟨#[]⟩, .string ⟨#[]⟩, .bool false, .string ⟨#[]⟩, .bool false, .string ⟨#[]⟩] 36)
              have kwz6 := Blk.new wz5 #[.string ⟨#[]⟩, .bool false, .string ⟨#[]⟩, .string ⟨#[]⟩, .bool false, .string ⟨#[]⟩, .bool false, .string ⟨#[]⟩] 36
              have hgewz6 := Bwz5.size
              have hSwz6 : (fun W => W.cell? ⟨bk, o, none⟩ = some (.string ⟨x.toArray⟩)) (World.alloc wz5 (.cells #[.string ⟨#[]⟩, .bool false, .string ⟨#[]⟩, .string ⟨#[]⟩, .bool false, .string ⟨#[]⟩, .bool false, .string ⟨#[]⟩] 36)) := (Bwz6.cell (p := ⟨bk, o, none⟩) hbk).trans hc
              refine hK.out _ _ hSwz6 ?_
              clear hK K
              (try simp only [Act.put])
              generalize World.alloc wz5 _ = wz6 at Bwz6 kwz6 hSwz6 ⊢
              have kAx := kwz6
              have hgA := hgewz6
              have kAc := kAx.cell
              have kAf := kAx.free
              refine GoesG.one (j := 11) (by kernel_rfl) rfl (by decide) (fun K hK => ?_)
              go_simp
              have k8 := Blk.setA kAx ad
              have B8 := below_setA Bwz6 hgA ad
              have hS8 := (B8.cell (p := ⟨bk, o, none⟩) hbk).trans hc
              refine hK.out _ _ hS8 ?_
              clear hK K
              (try simp only [Act.put])
              refine GoesG.stop (by kernel_rfl) rfl (fun K hK => ?_)
              go_simp
              refine hK.out _ _ ?_
              clear hK K
              refine wpAny_done (by kernel_rfl) ?_ _
              go_wp2_with fail
              go_meet
              exact ⟨_, rfl, rfl, k8, Bd.trans (B8.mono Bd.size)⟩
            · go_simp
              have Bwz7 := Bwz4.alloc Bwz4.size (.cells #[.string ⟨#[]⟩, .bool false, .string ⟨#[]⟩, .string ⟨#[]⟩, .bool false, .string ⟨#[]⟩, .bool false, .string ⟨#[]⟩] 36)
              have kwz7 := Blk.new wz4 #[.string ⟨#[]⟩, .bool false, .string ⟨#[]⟩, .string ⟨#[]⟩, .bool false, .string ⟨#[]⟩, .bool false, .string ⟨#[]⟩] 36
              have hgewz7 := Bwz4.size
              have hSwz7 : (fun W => W.cell? ⟨bk, o, none⟩ = some (.string ⟨x.toArray⟩)) (World.alloc wz4 (.cells #[.string ⟨#[]⟩, .bool false, .string ⟨#[]⟩, .string ⟨#[]⟩, .bool false, .string ⟨#[]⟩, .bool false, .string ⟨#[]⟩] 36)) := (Bwz7.cell (p := ⟨bk, o, none⟩) hbk).trans hc
              refine hK.out _ _ hSwz7 ?_
              clear hK K
              (try simp only [Act.put])
              generalize World.alloc wz4 _ = wz7 at Bwz7 kwz7 hSwz7 ⊢
              have kAx := kwz7
              have hgA := hgewz7
              refine GoesG.one (j := 6) (by kernel_rfl) rfl (by decide) (fun K hK => ?_)
              go_simp
              with_reducible refine (hAt wz7 (hRB.next Bwz7)).mono ?_
              rintro e wz8 ⟨rfl, bwz8⟩
              have Bwz8 := Bwz7.trans (bwz8.mono Bwz7.size)
              have hSwz8 : (fun W => W.cell? ⟨bk, o, none⟩ = some (.string ⟨x.toArray⟩)) wz8 := (Bwz8.cell (p := ⟨bk, o, none⟩) hbk).trans hc
              have kAx := kAx.next bwz8 kAx.lt
              refine hK.out _ _ hSwz8 ?_
              clear hK K
              (try simp only [Act.put])
              clear bwz8
              refine GoesG.takeU (i := 7) (v := ?_) rfl (by kernel_rfl) (by kernel_rfl) (by kernel_rfl) (by decide) (fun _ _ _ h => h) (Or.inl ⟨by rfl, ?_⟩) hSwz8 ?_
              rotate_left
              · (intro W; go_simp; try with_reducible rfl)
              (try simp only [Act.put])
              refine GoesG.takeU (i := 8) (v := ?_) rfl (by kernel_rfl) (by kernel_rfl) (by kernel_rfl) (by decide) (fun _ _ _ h => h) (Or.inl ⟨by rfl, ?_⟩) hSwz8 ?_
              rotate_left
              · (intro W; go_simp; try with_reducible rfl)
              (try simp only [Act.put])
              refine GoesG.takeU (i := 9) (v := ?_) rfl (by kernel_rfl) (by kernel_rfl) (by kernel_rfl) (by decide) (fun _ _ _ h => h) (Or.inl ⟨by rfl, ?_⟩) hSwz8 ?_
              rotate_left
              · (intro W; go_simp; try with_reducible rfl)
              (try simp only [Act.put])
              have kAc := kAx.cell
              have kAf := kAx.free
              refine GoesG.one (j := 11) (by kernel_rfl) rfl (by decide) (fun K hK => ?_)
              go_simp
              have k8 := Blk.setA kAx ad
              have B8 := below_setA Bwz8 hgA ad
              have hS8 := (B8.cell (p := ⟨bk, o, none⟩) hbk).trans hc
              refine hK.out _ _ hS8 ?_
              clear hK K
              (try simp only [Act.put])
              refine GoesG.stop (by kernel_rfl) rfl (fun K hK => ?_)
              go_simp
              refine hK.out _ _ ?_
              clear hK K
              refine wpAny_done (by kernel_rfl) ?_ _
              go_wp2_with fail
              go_meet
              exact ⟨_, rfl, rfl, k8, Bd.trans (B8.mono Bd.size)⟩
          · go_simp
            have Bwz9 := B0.alloc B0.size (.cells #[.string ⟨#[]⟩, .bool false, .string ⟨#[]⟩, .string ⟨#[]⟩, .bool false, .string ⟨#[]⟩, .bool false, .string ⟨#[]⟩] 36)
            have kwz9 := Blk.new wd #[.string ⟨#[]⟩, .bool false, .string ⟨#[]⟩, .string ⟨#[]⟩, .bool false, .string ⟨#[]⟩, .bool false, .string ⟨#[]⟩] 36
            have hgewz9 := B0.size
            have hSwz9 : (fun W => W.cell? ⟨bk, o, none⟩ = some (.string ⟨x.toArray⟩)) (World.alloc wd (.cells #[.string ⟨#[]⟩, .bool false, .string ⟨#[]⟩, .string ⟨#[]⟩, .bool false, .string ⟨#[]⟩, .bool false, .string ⟨#[]⟩] 36)) := (Bwz9.cell (p := ⟨bk, o, none⟩) hbk).trans hc
            refine hK.out _ _ hSwz9 ?_
            clear hK K
            (try simp only [Act.put])
            generalize World.alloc wd _ = wz9 at Bwz9 kwz9 hSwz9 ⊢
            have kAx := kwz9
            have hgA := hgewz9
            refine GoesG.one (j := 5) (by kernel_rfl) rfl (by decide) (fun K hK => ?_)
            go_simp
            with_reducible refine (hNm wz9 (hgd.next Bwz9)).mono ?_
            rintro e wz10 ⟨rfl, bwz10⟩
            have Bwz10 := Bwz9.trans (bwz10.mono Bwz9.size)
            have hSwz10 : (fun W => W.cell? ⟨bk, o, none⟩ = some (.string ⟨x.toArray⟩)) wz10 := (Bwz10.cell (p := ⟨bk, o, none⟩) hbk).trans hc
            have kAx := kAx.next bwz10 kAx.lt
            refine hK.out _ _ hSwz10 ?_
            clear hK K
            (try simp only [Act.put])
            clear bwz10
            refine GoesG.one (j := 6) (by kernel_rfl) rfl (by decide) (fun K hK => ?_)
            go_simp
            with_reducible refine (hAt wz10 (hRB.next Bwz10)).mono ?_
            rintro e wz11 ⟨rfl, bwz11⟩
            have Bwz11 := Bwz10.trans (bwz11.mono Bwz10.size)
            have hSwz11 : (fun W => W.cell? ⟨bk, o, none⟩ = some (.string ⟨x.toArray⟩)) wz11 := (Bwz11.cell (p := ⟨bk, o, none⟩) hbk).trans hc
            have kAx := kAx.next bwz11 kAx.lt
            refine hK.out _ _ hSwz11 ?_
            clear hK K
            (try simp only [Act.put])
            clear bwz11
            refine GoesG.takeU (i := 7) (v := ?_) rfl (by kernel_rfl) (by kernel_rfl) (by kernel_rfl) (by decide) (fun _ _ _ h => h) (Or.inl ⟨by rfl, ?_⟩) hSwz11 ?_
            rotate_left
            · (intro W; go_simp; try with_reducible rfl)
            (try simp only [Act.put])
            refine GoesG.takeU (i := 8) (v := ?_) rfl (by kernel_rfl) (by kernel_rfl) (by kernel_rfl) (by decide) (fun _ _ _ h => h) (Or.inl ⟨by rfl, ?_⟩) hSwz11 ?_
            rotate_left
            · (intro W; go_simp; try with_reducible rfl)
            (try simp only [Act.put])
            refine GoesG.takeU (i := 9) (v := ?_) rfl (by kernel_rfl) (by kernel_rfl) (by kernel_rfl) (by decide) (fun _ _ _ h => h) (Or.inl ⟨by rfl, ?_⟩) hSwz11 ?_
            rotate_left
            · (intro W; go_simp; try with_reducible rfl)
            (try simp only [Act.put])
            have kAc := kAx.cell
            have kAf := kAx.free
            refine GoesG.one (j := 11) (by kernel_rfl) rfl (by decide) (fun K hK => ?_)
            go_simp
            have k8 := Blk.setA kAx ad
            have B8 := below_setA Bwz11 hgA ad
            have hS8 := (B8.cell (p := ⟨bk, o, none⟩) hbk).trans hc
            refine hK.out _ _ hS8 ?_
            clear hK K
            (try simp only [Act.put])
            refine GoesG.stop (by kernel_rfl) rfl (fun K hK => ?_)
            go_simp
            refine hK.out _ _ ?_
            clear hK K
            refine wpAny_done (by kernel_rfl) ?_ _
            go_wp2_with fail
            go_meet
            exact ⟨_, rfl, rfl, k8, Bd.trans (B8.mono Bd.size)⟩
        · go_simp
          have Bwz12 := B0.alloc B0.size (.cells #[.string ⟨#[]⟩, .bool false, .string ⟨#[]⟩, .string ⟨#[]⟩, .bool false, .string ⟨#[]⟩, .bool false, .string ⟨#[]⟩] 36)
          have kwz12 := Blk.new wd #[.string ⟨#[]⟩, .bool false, .string ⟨#[]⟩, .string ⟨#[]⟩, .bool false, .string ⟨#[]⟩, .bool false, .string ⟨#[]⟩] 36
          have hgewz12 := B0.size
          have hSwz12 : (fun W => W.cell? ⟨bk, o, none⟩ = some (.string ⟨x.toArray⟩)) (World.alloc wd (.cells #[.string ⟨#[]⟩, .bool false, .string ⟨#[]⟩, .string ⟨#[]⟩, .bool false, .string ⟨#[]⟩, .bool false, .string ⟨#[]⟩] 36)) := (Bwz12.cell (p := ⟨bk, o, none⟩) hbk).trans hc
          refine hK.out _ _ hSwz12 ?_
          clear hK K
          (try simp only [Act.put])
          generalize World.alloc wd _ = wz12 at Bwz12 kwz12 hSwz12 ⊢
          have kAx := kwz12
          have hgA := hgewz12
          refine GoesG.one (j := 1) (by kernel_rfl) rfl (by decide) (fun K hK => ?_)
          go_simp
          with_reducible refine (dis_some d bp wz12 ((Bwz12.cell (p := ⟨d, 0, none⟩) hdl).trans hcb)).mono ?_
          rintro e we ⟨rfl, rfl⟩
          refine hK.out _ _ hSwz12 ?_
          clear hK K
          (try simp only [Act.put])
          refine GoesG.one (j := 5) (by kernel_rfl) rfl (by decide) (fun K hK => ?_)
          go_simp
          with_reducible refine (hNm wz12 (hgd.next Bwz12)).mono ?_
          rintro e wz13 ⟨rfl, bwz13⟩
          have Bwz13 := Bwz12.trans (bwz13.mono Bwz12.size)
          have hSwz13 : (fun W => W.cell? ⟨bk, o, none⟩ = some (.string ⟨x.toArray⟩)) wz13 := (Bwz13.cell (p := ⟨bk, o, none⟩) hbk).trans hc
          have kAx := kAx.next bwz13 kAx.lt
          refine hK.out _ _ hSwz13 ?_
          clear hK K
          (try simp only [Act.put])
          clear bwz13
          refine GoesG.one (j := 6) (by kernel_rfl) rfl (by decide) (fun K hK => ?_)
          go_simp
          with_reducible refine (hAt wz13 (hRB.next Bwz13)).mono ?_
          rintro e wz14 ⟨rfl, bwz14⟩
          have Bwz14 := Bwz13.trans (bwz14.mono Bwz13.size)
          have hSwz14 : (fun W => W.cell? ⟨bk, o, none⟩ = some (.string ⟨x.toArray⟩)) wz14 := (Bwz14.cell (p := ⟨bk, o, none⟩) hbk).trans hc
          have kAx := kAx.next bwz14 kAx.lt
          refine hK.out _ _ hSwz14 ?_
          clear hK K
          (try simp only [Act.put])
          clear bwz14
          refine GoesG.takeU (i := 7) (v := ?_) rfl (by kernel_rfl) (by kernel_rfl) (by kernel_rfl) (by decide) (fun _ _ _ h => h) (Or.inl ⟨by rfl, ?_⟩) hSwz14 ?_
          rotate_left
          · (intro W; go_simp; try with_reducible rfl)
          (try simp only [Act.put])
          refine GoesG.takeU (i := 8) (v := ?_) rfl (by kernel_rfl) (by kernel_rfl) (by kernel_rfl) (by decide) (fun _ _ _ h => h) (Or.inl ⟨by rfl, ?_⟩) hSwz14 ?_
          rotate_left
          · (intro W; go_simp; try with_reducible rfl)
          (try simp only [Act.put])
          refine GoesG.takeU (i := 9) (v := ?_) rfl (by kernel_rfl) (by kernel_rfl) (by kernel_rfl) (by decide) (fun _ _ _ h => h) (Or.inl ⟨by rfl, ?_⟩) hSwz14 ?_
          rotate_left
          · (intro W; go_simp; try with_reducible rfl)
          (try simp only [Act.put])
          have kAc := kAx.cell
          have kAf := kAx.free
          refine GoesG.one (j := 11) (by kernel_rfl) rfl (by decide) (fun K hK => ?_)
          go_simp
          have k8 := Blk.setA kAx ad
          have B8 := below_setA Bwz14 hgA ad
          have hS8 := (B8.cell (p := ⟨bk, o, none⟩) hbk).trans hc
          refine hK.out _ _ hS8 ?_
          clear hK K
          (try simp only [Act.put])
          refine GoesG.stop (by kernel_rfl) rfl (fun K hK => ?_)
          go_simp
          refine hK.out _ _ ?_
          clear hK K
          refine wpAny_done (by kernel_rfl) ?_ _
          go_wp2_with fail
          go_meet
          exact ⟨_, rfl, rfl, k8, Bd.trans (B8.mono Bd.size)⟩
      case rest =>
      obtain ⟨blk, rfl, rfl, kb, BX⟩ := hcut
      obtain ⟨wx, rfl⟩ : ∃ x : World, x = wc := ⟨_, rfl⟩
      have hgx := hg.next BX
      have BW := BX
      clear hAt hNm hRB hS0
      rcases HF2.out with ⟨rfl, hq⟩ | ⟨rfl, hq⟩
      · have HN := Lib.hid hq
        clear hq HF2
        have kbc := kb.cell
        have hWr := fun W => addrWrite_any ad W (by omega)
        have hwl := writeA_len ad
        have HN := Lib.hid (show ∀ s, writeA ad = s → atD dk [x] = .ok (105 :: 115 :: 32 :: s) from fun s hs => by rw [HN.out, ← hs]; rfl)
        have HN := Lib.hid (HN.out _ rfl)
        generalize writeA ad = wa at hWr hwl HN
        go_wp2_with fail
        with_reducible refine (must_nil _).mono ?_
        rintro e w4 ⟨rfl, rfl⟩
        go_wp2_with fail
        with_reducible refine (hWr _).mono ?_
        rintro e w5 ⟨rfl, b5⟩
        go_wp2_with fail
        go_ret
        exact ⟨by rw [HN.out]; rfl, BW.trans (b5.mono BW.size)⟩
      · have HN := Lib.hid hq
        clear hq HF2
        have hM := must_err (.iface 30 (.int .i64 2)) 2 wx (Or.inl rfl) hgx.r
        unfold thrown at hM
        go_wp2_with fail
        with_reducible refine hM.mono ?_
        rintro e w4 ⟨rfl, b4⟩
        go_wp2_with fail
        exact ⟨rfl, by rw [HN.out]; rfl, BW.trans (b4.mono BW.size)⟩
end Go.Proofs.YtignjjnflcpiiaaGreatDoor
