/- desk's resolve. Condition: what the variables hold; so many bytes. -/
import Derived.Test.YtignjjnflcpiiaaGreatDoorQ33
namespace Go.Proofs.YtignjjnflcpiiaaGreatDoor
open Go Go.RowKit
theorem blk_set8 {w : World} {a b : Nat} {c : Array Value} {t : TypeId} (h : Blk w b c t) (hne : b ≠ a) (y0 y1 y2 y3 y4 y5 y6 y7 : Value) :
    Blk ((((((((w.setCell ⟨a, 0, none⟩ y0).setCell ⟨a, 1, none⟩ y1).setCell ⟨a, 2, none⟩ y2).setCell ⟨a, 3, none⟩ y3).setCell ⟨a, 4, none⟩ y4).setCell ⟨a, 5, none⟩ y5).setCell ⟨a, 6, none⟩ y6).setCell ⟨a, 7, none⟩ y7) b c t :=
  (((((((h.setO (by exact hne) y0).setO (by exact hne) y1).setO (by exact hne) y2).setO (by exact hne) y3).setO (by exact hne) y4).setO (by exact hne) y5).setO (by exact hne) y6).setO (by exact hne) y7
theorem blk_setA {w : World} {a b : Nat} {c : Array Value} {t : TypeId} (h : Blk w b c t) (hne : b ≠ a) (y : Addr) :
    Blk ((((((((w.setCell ⟨a, 0, none⟩ (.string ⟨y.scheme.toArray⟩)).setCell ⟨a, 1, none⟩ (.bool y.hasAuth)).setCell ⟨a, 2, none⟩ (.string ⟨y.auth.toArray⟩)).setCell ⟨a, 3, none⟩ (.string ⟨y.path.toArray⟩)).setCell ⟨a, 4, none⟩ (.bool y.hasQuery)).setCell ⟨a, 5, none⟩ (.string ⟨y.query.toArray⟩)).setCell ⟨a, 6, none⟩ (.bool y.hasFrag)).setCell ⟨a, 7, none⟩ (.string ⟨y.frag.toArray⟩)) b c t := blk_set8 h hne (.string ⟨y.scheme.toArray⟩) (.bool y.hasAuth) (.string ⟨y.auth.toArray⟩) (.string ⟨y.path.toArray⟩) (.bool y.hasQuery) (.string ⟨y.query.toArray⟩) (.bool y.hasFrag) (.string ⟨y.frag.toArray⟩)
set_option maxHeartbeats 16000000 in
set_option maxRecDepth 100000 in
theorem dresolve_any (pd v : Value) (l : List Bs) (w : World) (h : RdW w v l) (hx : ∀ x ∈ l, x.length ≤ 1000000) (hg : Gz w) (hn : l.length ≤ 1000000) :
    Calls Tryz.prog 234 #[pd, v] w fun e w' => AnsOr (resolveD l) e ∧ Below w.heap.size w w' := by
  obtain ⟨bk, o, c, rfl, hbk0, _, hcl⟩ := h
  by_cases h0 : l.length = 2
  case neg =>
    have HN := Lib.hid (show resolveD l = .error 3 from by unfold resolveD; rw [if_pos h0])
    have hW := words_no (some ⟨bk, o, none⟩) l.length c 2 (by rw [beq_eq_false_iff_ne]; omega) w hg.r
    unfold thrown at hW
    clear h0
    go_enter Tryz.func234, Tryz.ntmps234
    go_wp2_with fail
    with_reducible refine hW.mono ?_
    rintro e w1 ⟨rfl, b1⟩
    go_wp2_with fail
    exact ⟨rfl, by rw [HN.out]; rfl, b1⟩
  obtain ⟨x, y, rfl⟩ : ∃ x y, l = [x, y] := by
    match l, h0 with
    | [x, y], _ => exact ⟨x, y, rfl⟩
  have hW := fun W => words_ok (some ⟨bk, o, none⟩) 2 c 2 rfl W
  have hc0 := hcl 0 x rfl
  have hcy0 := hcl 1 y rfl
  have hxl := hx x (by simp)
  have hyl := hx y (by simp)
  have HF := Lib.hid (show resolveD [x, y] = match readA x with
    | none => .error 3
    | some a => match readA y with
      | none => .error 3
      | some b => .ok (isT (writeA (resolveA a b))) from rfl)
  rw [Nat.add_zero] at hc0
  clear h0 hcl hx
  have hc : w.drew.cell? ⟨bk, o, none⟩ = some (.string ⟨x.toArray⟩) := hc0
  have hcy : w.drew.cell? ⟨bk, o + 1, none⟩ = some (.string ⟨y.toArray⟩) := hcy0
  have hbk : bk < w.drew.heap.size := hbk0
  have hgd : Gz w.drew := hg.next (Below.refl w.heap.size w).drew
  have Bd := (Below.refl w.heap.size w).drew
  have B0 := Below.refl w.drew.heap.size w.drew
  have hRx := fun W hW => dread_any x W (by omega) hW
  have hRy := fun W hW => dread_any y W (by omega) hW
  have hax := fun a (h : readA x = some a) => readA_len h
  have hay := fun a (h : readA y = some a) => readA_len h
  go_enter Tryz.func234, Tryz.ntmps234
  go_wp2_with fail
  with_reducible refine (hW _).mono ?_
  rintro e w0 ⟨rfl, rfl⟩
  go_upto_region 2 with fail
  have hS0 : (fun W => W.cell? ⟨bk, o, none⟩ = some (.string ⟨x.toArray⟩) ∧ W.cell? ⟨bk, o + 1, none⟩ = some (.string ⟨y.toArray⟩)) w.drew := ⟨hc, hcy⟩
  cases hrx : readA x with
  | none =>
    have HN := Lib.hid (show resolveD [x, y] = .error 3 from by rw [HF.out, hrx])
    rw [hrx] at hRx
    unfold thrown at hRx
    simp only at hRx
    clear hrx hRy hax hay
    refine wp_region_stop 11 (fun W => W.cell? ⟨bk, o, none⟩ = some (.string ⟨x.toArray⟩) ∧ W.cell? ⟨bk, o + 1, none⟩ = some (.string ⟨y.toArray⟩)) (by kernel_rfl) ?_
    generalize w.drew = wd at hc hcy hbk hgd Bd B0 hS0 ⊢
    refine GoesG.takeU (i := 0) (v := ?_) rfl (by kernel_rfl) (by kernel_rfl) (by kernel_rfl) (by decide) (fun _ _ _ h => h) (Or.inl ⟨by rfl, ?_⟩) hS0 ?_
    rotate_left
    · (intro W; go_simp; try with_reducible rfl)
    (try simp only [Act.put])
    refine GoesG.takeU (i := 1) (v := ?_) rfl (by kernel_rfl) (by kernel_rfl) (by kernel_rfl) (by decide) (fun _ _ _ h => h) (Or.inl ⟨by rfl, ?_⟩) hS0 ?_
    rotate_left
    · (intro W; go_simp; try with_reducible rfl)
    (try simp only [Act.put])
    refine GoesG.take (i := 2) (v := ?_) rfl (by kernel_rfl) (by kernel_rfl) (by kernel_rfl) (by kernel_rfl) (by decide) (fun _ _ _ h => h) (Or.inl ⟨by rfl, ?_⟩) hS0 ?_
    rotate_left
    · (intro W hSw; (try dsimp only at hSw); obtain ⟨hSx, hSy⟩ := hSw; go_simp; try with_reducible rfl)
    (try simp only [Act.put])
    refine GoesG.takeU (i := 4) (v := ?_) rfl (by kernel_rfl) (by kernel_rfl) (by kernel_rfl) (by decide) (fun _ _ _ h => h) (Or.inl ⟨by rfl, ?_⟩) hS0 ?_
    rotate_left
    · (intro W; go_simp; try with_reducible rfl)
    (try simp only [Act.put])
    refine GoesG.takeU (i := 5) (v := ?_) rfl (by kernel_rfl) (by kernel_rfl) (by kernel_rfl) (by decide) (fun _ _ _ h => h) (Or.inl ⟨by rfl, ?_⟩) hS0 ?_
    rotate_left
    · (intro W; go_simp; try with_reducible rfl)
    (try simp only [Act.put])
    refine GoesG.take (i := 6) (v := ?_) rfl (by kernel_rfl) (by kernel_rfl) (by kernel_rfl) (by kernel_rfl) (by decide) (fun _ _ _ h => h) (Or.inl ⟨by rfl, ?_⟩) hS0 ?_
    rotate_left
    · (intro W hSw; (try dsimp only at hSw); obtain ⟨hSx, hSy⟩ := hSw; go_simp; try with_reducible rfl)
    (try simp only [Act.put])
    refine GoesG.all [3, 8, 9] (by kernel_rfl) (by decide) (by decide) (ReadyG.cons rfl (fun K hK => ?_) (ReadyG.cons rfl (fun K hK => ?_) (ReadyG.cons rfl (fun K hK => ?_) ReadyG.nil)))
    · go_simp
      with_reducible refine (hRx wd (hgd.next B0)).mono ?_
      rintro e we ⟨rfl, be⟩
      go_wp2_with fail
      exact ⟨rfl, by rw [HN.out]; rfl, Bd.trans ((B0.trans (be.mono B0.size)).mono Bd.size)⟩
    · go_simp
      have Bwz15 := B0.alloc B0.size (.cells #[.string ⟨#[]⟩, .bool false, .string ⟨#[]⟩, .string ⟨#[]⟩, .bool false, .string ⟨#[]⟩, .bool false, .string ⟨#[]⟩] 36)
      have k5x := Blk.new wd #[.string ⟨#[]⟩, .bool false, .string ⟨#[]⟩, .string ⟨#[]⟩, .bool false, .string ⟨#[]⟩, .bool false, .string ⟨#[]⟩] 36
      have hgek5 := B0.size
      have hSwz15 : (fun W => W.cell? ⟨bk, o, none⟩ = some (.string ⟨x.toArray⟩) ∧ W.cell? ⟨bk, o + 1, none⟩ = some (.string ⟨y.toArray⟩)) (World.alloc wd (.cells #[.string ⟨#[]⟩, .bool false, .string ⟨#[]⟩, .string ⟨#[]⟩, .bool false, .string ⟨#[]⟩, .bool false, .string ⟨#[]⟩] 36)) := ⟨(Bwz15.cell (p := ⟨bk, o, none⟩) hbk).trans hc, (Bwz15.cell (p := ⟨bk, o + 1, none⟩) hbk).trans hcy⟩
      refine hK.out _ _ hSwz15 ?_
      clear hK K
      (try simp only [Act.put])
      generalize World.alloc wd _ = wz15 at Bwz15 k5x hSwz15 ⊢
      have k5 := k5x
      refine GoesG.all [3, 9] (by kernel_rfl) (by decide) (by decide) (ReadyG.cons rfl (fun K hK => ?_) (ReadyG.cons rfl (fun K hK => ?_) ReadyG.nil))
      · go_simp
        with_reducible refine (hRx wz15 (hgd.next Bwz15)).mono ?_
        rintro e we ⟨rfl, be⟩
        go_wp2_with fail
        exact ⟨rfl, by rw [HN.out]; rfl, Bd.trans ((Bwz15.trans (be.mono Bwz15.size)).mono Bd.size)⟩
      · go_simp
        have Bwz16 := Bwz15.alloc Bwz15.size (.cells #[.string ⟨#[]⟩, .bool false, .string ⟨#[]⟩, .string ⟨#[]⟩, .bool false, .string ⟨#[]⟩, .bool false, .string ⟨#[]⟩] 36)
        have k6x := Blk.new wz15 #[.string ⟨#[]⟩, .bool false, .string ⟨#[]⟩, .string ⟨#[]⟩, .bool false, .string ⟨#[]⟩, .bool false, .string ⟨#[]⟩] 36
        have hgek6 := Bwz15.size
        have hne56 := k5.lt
        have k5 := k5.alloc (.cells #[.string ⟨#[]⟩, .bool false, .string ⟨#[]⟩, .string ⟨#[]⟩, .bool false, .string ⟨#[]⟩, .bool false, .string ⟨#[]⟩] 36)
        have hSwz16 : (fun W => W.cell? ⟨bk, o, none⟩ = some (.string ⟨x.toArray⟩) ∧ W.cell? ⟨bk, o + 1, none⟩ = some (.string ⟨y.toArray⟩)) (World.alloc wz15 (.cells #[.string ⟨#[]⟩, .bool false, .string ⟨#[]⟩, .string ⟨#[]⟩, .bool false, .string ⟨#[]⟩, .bool false, .string ⟨#[]⟩] 36)) := ⟨(Bwz16.cell (p := ⟨bk, o, none⟩) hbk).trans hc, (Bwz16.cell (p := ⟨bk, o + 1, none⟩) hbk).trans hcy⟩
        refine hK.out _ _ hSwz16 ?_
        clear hK K
        (try simp only [Act.put])
        generalize World.alloc wz15 _ = wz16 at Bwz16 k6x k5 hSwz16 ⊢
        have k6 := k6x
        refine GoesG.one (j := 3) (by kernel_rfl) rfl (by decide) (fun K hK => ?_)
        go_simp
        with_reducible refine (hRx wz16 (hgd.next Bwz16)).mono ?_
        rintro e we ⟨rfl, be⟩
        go_wp2_with fail
        exact ⟨rfl, by rw [HN.out]; rfl, Bd.trans ((Bwz16.trans (be.mono Bwz16.size)).mono Bd.size)⟩
    · go_simp
      have Bwz17 := B0.alloc B0.size (.cells #[.string ⟨#[]⟩, .bool false, .string ⟨#[]⟩, .string ⟨#[]⟩, .bool false, .string ⟨#[]⟩, .bool false, .string ⟨#[]⟩] 36)
      have k6x := Blk.new wd #[.string ⟨#[]⟩, .bool false, .string ⟨#[]⟩, .string ⟨#[]⟩, .bool false, .string ⟨#[]⟩, .bool false, .string ⟨#[]⟩] 36
      have hgek6 := B0.size
      have hSwz17 : (fun W => W.cell? ⟨bk, o, none⟩ = some (.string ⟨x.toArray⟩) ∧ W.cell? ⟨bk, o + 1, none⟩ = some (.string ⟨y.toArray⟩)) (World.alloc wd (.cells #[.string ⟨#[]⟩, .bool false, .string ⟨#[]⟩, .string ⟨#[]⟩, .bool false, .string ⟨#[]⟩, .bool false, .string ⟨#[]⟩] 36)) := ⟨(Bwz17.cell (p := ⟨bk, o, none⟩) hbk).trans hc, (Bwz17.cell (p := ⟨bk, o + 1, none⟩) hbk).trans hcy⟩
      refine hK.out _ _ hSwz17 ?_
      clear hK K
      (try simp only [Act.put])
      generalize World.alloc wd _ = wz17 at Bwz17 k6x hSwz17 ⊢
      have k6 := k6x
      refine GoesG.all [3, 8] (by kernel_rfl) (by decide) (by decide) (ReadyG.cons rfl (fun K hK => ?_) (ReadyG.cons rfl (fun K hK => ?_) ReadyG.nil))
      · go_simp
        with_reducible refine (hRx wz17 (hgd.next Bwz17)).mono ?_
        rintro e we ⟨rfl, be⟩
        go_wp2_with fail
        exact ⟨rfl, by rw [HN.out]; rfl, Bd.trans ((Bwz17.trans (be.mono Bwz17.size)).mono Bd.size)⟩
      · go_simp
        have Bwz18 := Bwz17.alloc Bwz17.size (.cells #[.string ⟨#[]⟩, .bool false, .string ⟨#[]⟩, .string ⟨#[]⟩, .bool false, .string ⟨#[]⟩, .bool false, .string ⟨#[]⟩] 36)
        have k5x := Blk.new wz17 #[.string ⟨#[]⟩, .bool false, .string ⟨#[]⟩, .string ⟨#[]⟩, .bool false, .string ⟨#[]⟩, .bool false, .string ⟨#[]⟩] 36
        have hgek5 := Bwz17.size
        have hne56 := k6.lt
        have k6 := k6.alloc (.cells #[.string ⟨#[]⟩, .bool false, .string ⟨#[]⟩, .string ⟨#[]⟩, .bool false, .string ⟨#[]⟩, .bool false, .string ⟨#[]⟩] 36)
        have hSwz18 : (fun W => W.cell? ⟨bk, o, none⟩ = some (.string ⟨x.toArray⟩) ∧ W.cell? ⟨bk, o + 1, none⟩ = some (.string ⟨y.toArray⟩)) (World.alloc wz17 (.cells #[.string ⟨#[]⟩, .bool false, .string ⟨#[]⟩, .string ⟨#[]⟩, .bool false, .string ⟨#[]⟩, .bool false, .string ⟨#[]⟩] 36)) := ⟨(Bwz18.cell (p := ⟨bk, o, none⟩) hbk).trans hc, (Bwz18.cell (p := ⟨bk, o + 1, none⟩) hbk).trans hcy⟩
        refine hK.out _ _ hSwz18 ?_
        clear hK K
        (try simp only [Act.put])
        generalize World.alloc wz17 _ = wz18 at Bwz18 k5x k6 hSwz18 ⊢
        have k5 := k5x
        refine GoesG.one (j := 3) (by kernel_rfl) rfl (by decide) (fun K hK => ?_)
        go_simp
        with_reducible refine (hRx wz18 (hgd.next Bwz18)).mono ?_
        rintro e we ⟨rfl, be⟩
        go_wp2_with fail
        exact ⟨rfl, by rw [HN.out]; rfl, Bd.trans ((Bwz18.trans (be.mono Bwz18.size)).mono Bd.size)⟩
  | some ax =>
    have hax := hax ax hrx
    rw [hrx] at hRx
    simp only at hRx
    cases hry : readA y with
    | none =>
      have HN := Lib.hid (show resolveD [x, y] = .error 3 from by rw [HF.out, hrx, hry])
      rw [hry] at hRy
      unfold thrown at hRy
      simp only at hRy
      clear hrx hry hay
      refine wp_region_stop 11 (fun W => W.cell? ⟨bk, o, none⟩ = some (.string ⟨x.toArray⟩) ∧ W.cell? ⟨bk, o + 1, none⟩ = some (.string ⟨y.toArray⟩)) (by kernel_rfl) ?_
      generalize w.drew = wd at hc hcy hbk hgd Bd B0 hS0 ⊢
      refine GoesG.takeU (i := 0) (v := ?_) rfl (by kernel_rfl) (by kernel_rfl) (by kernel_rfl) (by decide) (fun _ _ _ h => h) (Or.inl ⟨by rfl, ?_⟩) hS0 ?_
      rotate_left
      · (intro W; go_simp; try with_reducible rfl)
      (try simp only [Act.put])
      refine GoesG.takeU (i := 1) (v := ?_) rfl (by kernel_rfl) (by kernel_rfl) (by kernel_rfl) (by decide) (fun _ _ _ h => h) (Or.inl ⟨by rfl, ?_⟩) hS0 ?_
      rotate_left
      · (intro W; go_simp; try with_reducible rfl)
      (try simp only [Act.put])
      refine GoesG.take (i := 2) (v := ?_) rfl (by kernel_rfl) (by kernel_rfl) (by kernel_rfl) (by kernel_rfl) (by decide) (fun _ _ _ h => h) (Or.inl ⟨by rfl, ?_⟩) hS0 ?_
      rotate_left
      · (intro W hSw; (try dsimp only at hSw); obtain ⟨hSx, hSy⟩ := hSw; go_simp; try with_reducible rfl)
      (try simp only [Act.put])
      refine GoesG.takeU (i := 4) (v := ?_) rfl (by kernel_rfl) (by kernel_rfl) (by kernel_rfl) (by decide) (fun _ _ _ h => h) (Or.inl ⟨by rfl, ?_⟩) hS0 ?_
      rotate_left
      · (intro W; go_simp; try with_reducible rfl)
      (try simp only [Act.put])
      refine GoesG.takeU (i := 5) (v := ?_) rfl (by kernel_rfl) (by kernel_rfl) (by kernel_rfl) (by decide) (fun _ _ _ h => h) (Or.inl ⟨by rfl, ?_⟩) hS0 ?_
      rotate_left
      · (intro W; go_simp; try with_reducible rfl)
      (try simp only [Act.put])
      refine GoesG.take (i := 6) (v := ?_) rfl (by kernel_rfl) (by kernel_rfl) (by kernel_rfl) (by kernel_rfl) (by decide) (fun _ _ _ h => h) (Or.inl ⟨by rfl, ?_⟩) hS0 ?_
      rotate_left
      · (intro W hSw; (try dsimp only at hSw); obtain ⟨hSx, hSy⟩ := hSw; go_simp; try with_reducible rfl)
      (try simp only [Act.put])
      refine GoesG.all [3, 8, 9] (by kernel_rfl) (by decide) (by decide) (ReadyG.cons rfl (fun K hK => ?_) (ReadyG.cons rfl (fun K hK => ?_) (ReadyG.cons rfl (fun K hK => ?_) ReadyG.nil)))
      · go_simp
        with_reducible refine (hRx wd (hgd.next B0)).mono ?_
        rintro e wz19 ⟨rfl, bwz19⟩
        have Bwz19 := B0.trans (bwz19.mono B0.size)
        have hSwz19 : (fun W => W.cell? ⟨bk, o, none⟩ = some (.string ⟨x.toArray⟩) ∧ W.cell? ⟨bk, o + 1, none⟩ = some (.string ⟨y.toArray⟩)) wz19 := ⟨(Bwz19.cell (p := ⟨bk, o, none⟩) hbk).trans hc, (Bwz19.cell (p := ⟨bk, o + 1, none⟩) hbk).trans hcy⟩
        refine hK.out _ _ hSwz19 ?_
        clear hK K
        (try simp only [Act.put])
        clear bwz19
        refine GoesG.all [7, 8, 9] (by kernel_rfl) (by decide) (by decide) (ReadyG.cons rfl (fun K hK => ?_) (ReadyG.cons rfl (fun K hK => ?_) (ReadyG.cons rfl (fun K hK => ?_) ReadyG.nil)))
        · go_simp
          with_reducible refine (hRy wz19 (hgd.next Bwz19)).mono ?_
          rintro e we ⟨rfl, be⟩
          go_wp2_with fail
          exact ⟨rfl, by rw [HN.out]; rfl, Bd.trans ((Bwz19.trans (be.mono Bwz19.size)).mono Bd.size)⟩
        · go_simp
          have Bwz20 := Bwz19.alloc Bwz19.size (.cells #[.string ⟨#[]⟩, .bool false, .string ⟨#[]⟩, .string ⟨#[]⟩, .bool false, .string ⟨#[]⟩, .bool false, .string ⟨#[]⟩] 36)
          have k5x := Blk.new wz19 #[.string ⟨#[]⟩, .bool false, .string ⟨#[]⟩, .string ⟨#[]⟩, .bool false, .string ⟨#[]⟩, .bool false, .string ⟨#[]⟩] 36
          have hgek5 := Bwz19.size
          have hSwz20 : (fun W => W.cell? ⟨bk, o, none⟩ = some (.string ⟨x.toArray⟩) ∧ W.cell? ⟨bk, o + 1, none⟩ = some (.string ⟨y.toArray⟩)) (World.alloc wz19 (.cells #[.string ⟨#[]⟩, .bool false, .string ⟨#[]⟩, .string ⟨#[]⟩, .bool false, .string ⟨#[]⟩, .bool false, .string ⟨#[]⟩] 36)) := ⟨(Bwz20.cell (p := ⟨bk, o, none⟩) hbk).trans hc, (Bwz20.cell (p := ⟨bk, o + 1, none⟩) hbk).trans hcy⟩
          refine hK.out _ _ hSwz20 ?_
          clear hK K
          (try simp only [Act.put])
          generalize World.alloc wz19 _ = wz20 at Bwz20 k5x hSwz20 ⊢
          have k5 := k5x
          refine GoesG.all [7, 9] (by kernel_rfl) (by decide) (by decide) (ReadyG.cons rfl (fun K hK => ?_) (ReadyG.cons rfl (fun K hK => ?_) ReadyG.nil))
          · go_simp
            with_reducible refine (hRy wz20 (hgd.next Bwz20)).mono ?_
            rintro e we ⟨rfl, be⟩
            go_wp2_with fail
            exact ⟨rfl, by rw [HN.out]; rfl, Bd.trans ((Bwz20.trans (be.mono Bwz20.size)).mono Bd.size)⟩
          · go_simp
            have Bwz21 := Bwz20.alloc Bwz20.size (.cells #[.string ⟨#[]⟩, .bool false, .string ⟨#[]⟩, .string ⟨#[]⟩, .bool false, .string ⟨#[]⟩, .bool false, .string ⟨#[]⟩] 36)
            have k6x := Blk.new wz20 #[.string ⟨#[]⟩, .bool false, .string ⟨#[]⟩, .string ⟨#[]⟩, .bool false, .string ⟨#[]⟩, .bool false, .string ⟨#[]⟩] 36
            have hgek6 := Bwz20.size
            have hne56 := k5.lt
            have k5 := k5.alloc (.cells #[.string ⟨#[]⟩, .bool false, .string ⟨#[]⟩, .string ⟨#[]⟩, .bool false, .string ⟨#[]⟩, .bool false, .string ⟨#[]⟩] 36)
            have hSwz21 : (fun W => W.cell? ⟨bk, o, none⟩ = some (.string ⟨x.toArray⟩) ∧ W.cell? ⟨bk, o + 1, none⟩ = some (.string ⟨y.toArray⟩)) (World.alloc wz20 (.cells #[.string ⟨#[]⟩, .bool false, .string ⟨#[]⟩, .string ⟨#[]⟩, .bool false, .string ⟨#[]⟩, .bool false, .string ⟨#[]⟩] 36)) := ⟨(Bwz21.cell (p := ⟨bk, o, none⟩) hbk).trans hc, (Bwz21.cell (p := ⟨bk, o + 1, none⟩) hbk).trans hcy⟩
            refine hK.out _ _ hSwz21 ?_
            clear hK K
            (try simp only [Act.put])
            generalize World.alloc wz20 _ = wz21 at Bwz21 k6x k5 hSwz21 ⊢
            have k6 := k6x
            refine GoesG.one (j := 7) (by kernel_rfl) rfl (by decide) (fun K hK => ?_)
            go_simp
            with_reducible refine (hRy wz21 (hgd.next Bwz21)).mono ?_
            rintro e we ⟨rfl, be⟩
            go_wp2_with fail
            exact ⟨rfl, by rw [HN.out]; rfl, Bd.trans ((Bwz21.trans (be.mono Bwz21.size)).mono Bd.size)⟩
        · go_simp
          have Bwz22 := Bwz19.alloc Bwz19.size (.cells #[.string ⟨#[]⟩, .bool false, .string ⟨#[]⟩, .string ⟨#[]⟩, .bool false, .string ⟨#[]⟩, .bool false, .string ⟨#[]⟩] 36)
          have k6x := Blk.new wz19 #[.string ⟨#[]⟩, .bool false, .string ⟨#[]⟩, .string ⟨#[]⟩, .bool false, .string ⟨#[]⟩, .bool false, .string ⟨#[]⟩] 36
          have hgek6 := Bwz19.size
          have hSwz22 : (fun W => W.cell? ⟨bk, o, none⟩ = some (.string ⟨x.toArray⟩) ∧ W.cell? ⟨bk, o + 1, none⟩ = some (.string ⟨y.toArray⟩)) (World.alloc wz19 (.cells #[.string ⟨#[]⟩, .bool false, .string ⟨#[]⟩, .string ⟨#[]⟩, .bool false, .string ⟨#[]⟩, .bool false, .string ⟨#[]⟩] 36)) := ⟨(Bwz22.cell (p := ⟨bk, o, none⟩) hbk).trans hc, (Bwz22.cell (p := ⟨bk, o + 1, none⟩) hbk).trans hcy⟩
          refine hK.out _ _ hSwz22 ?_
          clear hK K
          (try simp only [Act.put])
          generalize World.alloc wz19 _ = wz22 at Bwz22 k6x hSwz22 ⊢
          have k6 := k6x
          refine GoesG.all [7, 8] (by kernel_rfl) (by decide) (by decide) (ReadyG.cons rfl (fun K hK => ?_) (ReadyG.cons rfl (fun K hK => ?_) ReadyG.nil))
          · go_simp
            with_reducible refine (hRy wz22 (hgd.next Bwz22)).mono ?_
            rintro e we ⟨rfl, be⟩
            go_wp2_with fail
            exact ⟨rfl, by rw [HN.out]; rfl, Bd.trans ((Bwz22.trans (be.mono Bwz22.size)).mono Bd.size)⟩
          · go_simp
            have Bwz23 := Bwz22.alloc Bwz22.size (.cells #[.string ⟨#[]⟩, .bool false, .string ⟨#[]⟩, .string ⟨#[]⟩, .bool false, .string ⟨#[]⟩, .bool false, .string ⟨#[]⟩] 36)
            have k5x := Blk.new wz22 #[.string ⟨#[]⟩, .bool false, .string ⟨#[]⟩, .string ⟨#[]⟩, .bool false, .string ⟨#[]⟩, .bool false, .string ⟨#[]⟩] 36
            have hgek5 := Bwz22.size
            have hne56 := k6.lt
            have k6 := k6.alloc (.cells #[.string ⟨#[]⟩, .bool false, .string ⟨#[]⟩, .string ⟨#[]⟩, .bool false, .string ⟨#[]⟩, .bool false, .string ⟨#[]⟩] 36)
            have hSwz23 : (fun W => W.cell? ⟨bk, o, none⟩ = some (.string ⟨x.toArray⟩) ∧ W.cell? ⟨bk, o + 1, none⟩ = some (.string ⟨y.toArray⟩)) (World.alloc wz22 (.cells #[.string ⟨#[]⟩, .bool false, .string ⟨#[]⟩, .string ⟨#[]⟩, .bool false, .string ⟨#[]⟩, .bool false, .string ⟨#[]⟩] 36)) := ⟨(Bwz23.cell (p := ⟨bk, o, none⟩) hbk).trans hc, (Bwz23.cell (p := ⟨bk, o + 1, none⟩) hbk).trans hcy⟩
            refine hK.out _ _ hSwz23 ?_
            clear hK K
            (try simp only [Act.put])
            generalize World.alloc wz22 _ = wz23 at Bwz23 k5x k6 hSwz23 ⊢
            have k5 := k5x
            refine GoesG.one (j := 7) (by kernel_rfl) rfl (by decide) (fun K hK => ?_)
            go_simp
            with_reducible refine (hRy wz23 (hgd.next Bwz23)).mono ?_
            rintro e we ⟨rfl, be⟩
            go_wp2_with fail
            exact ⟨rfl, by rw [HN.out]; rfl, Bd.trans ((Bwz23.trans (be.mono Bwz23.size)).mono Bd.size)⟩
      · go_simp
        have Bwz24 := B0.alloc B0.size (.cells #[.string ⟨#[]⟩, .bool false, .string ⟨#[]⟩, .string ⟨#[]⟩, .bool false, .string ⟨#[]⟩, .bool false, .string ⟨#[]⟩] 36)
        have k5x := Blk.new wd #[.string ⟨#[]⟩, .bool false, .string ⟨#[]⟩, .string ⟨#[]⟩, .bool false, .string ⟨#[]⟩, .bool false, .string ⟨#[]⟩] 36
        have hgek5 := B0.size
        have hSwz24 : (fun W => W.cell? ⟨bk, o, none⟩ = some (.string ⟨x.toArray⟩) ∧ W.cell? ⟨bk, o + 1, none⟩ = some (.string ⟨y.toArray⟩)) (World.alloc wd (.cells #[.string ⟨#[]⟩, .bool false, .string ⟨#[]⟩, .string ⟨#[]⟩, .bool false, .string ⟨#[]⟩, .bool false, .string ⟨#[]⟩] 36)) := ⟨(Bwz24.cell (p := ⟨bk, o, none⟩) hbk).trans hc, (Bwz24.cell (p := ⟨bk, o + 1, none⟩) hbk).trans hcy⟩
        refine hK.out _ _ hSwz24 ?_
        clear hK K
        (try simp only [Act.put])
        generalize World.alloc wd _ = wz24 at Bwz24 k5x hSwz24 ⊢
        have k5 := k5x
        refine GoesG.all [3, 9] (by kernel_rfl) (by decide) (by decide) (ReadyG.cons rfl (fun K hK => ?_) (ReadyG.cons rfl (fun K hK => ?_) ReadyG.nil))
        · go_simp
          with_reducible refine (hRx wz24 (hgd.next Bwz24)).mono ?_
          rintro e wz25 ⟨rfl, bwz25⟩
          have Bwz25 := Bwz24.trans (bwz25.mono Bwz24.size)
          have hSwz25 : (fun W => W.cell? ⟨bk, o, none⟩ = some (.string ⟨x.toArray⟩) ∧ W.cell? ⟨bk, o + 1, none⟩ = some (.string ⟨y.toArray⟩)) wz25 := ⟨(Bwz25.cell (p := ⟨bk, o, none⟩) hbk).trans hc, (Bwz25.cell (p := ⟨bk, o + 1, none⟩) hbk).trans hcy⟩
          have k5 := k5.next bwz25 k5.lt
          refine hK.out _ _ hSwz25 ?_
          clear hK K
          (try simp only [Act.put])
          clear bwz25
          refine GoesG.all [7, 9] (by kernel_rfl) (by decide) (by decide) (ReadyG.cons rfl (fun K hK => ?_) (ReadyG.cons rfl (fun K hK => ?_) ReadyG.nil))
          · go_simp
            with_reducible refine (hRy wz25 (hgd.next Bwz25)).mono ?_
            rintro e we ⟨rfl, be⟩
            go_wp2_with fail
            exact ⟨rfl, by rw [HN.out]; rfl, Bd.trans ((Bwz25.trans (be.mono Bwz25.size)).mono Bd.size)⟩
          · go_simp
            have Bwz26 := Bwz25.alloc Bwz25.size (.cells #[.string ⟨#[]⟩, .bool false, .string ⟨#[]⟩, .string ⟨#[]⟩, .bool false, .string ⟨#[]⟩, .bool false, .string ⟨#[]⟩] 36)
            have k6x := Blk.new wz25 #[.string ⟨#[]⟩, .bool false, .string ⟨#[]⟩, .string ⟨#[]⟩, .bool false, .string ⟨#[]⟩, .bool false, .string ⟨#[]⟩] 36
            have hgek6 := Bwz25.size
            have hne56 := k5.lt
            have k5 := k5.alloc (.cells #[.string ⟨#[]⟩, .bool false, .string ⟨#[]⟩, .string ⟨#[]⟩, .bool false, .string ⟨#[]⟩, .bool false, .string ⟨#[]⟩] 36)
            have hSwz26 : (fun W => W.cell? ⟨bk, o, none⟩ = some (.string ⟨x.toArray⟩) ∧ W.cell? ⟨bk, o + 1, none⟩ = some (.string ⟨y.toArray⟩)) (World.alloc wz25 (.cells #[.string ⟨#[]⟩, .bool false, .string ⟨#[]⟩, .string ⟨#[]⟩, .bool false, .string ⟨#[]⟩, .bool false, .string ⟨#[]⟩] 36)) := ⟨(Bwz26.cell (p := ⟨bk, o, none⟩) hbk).trans hc, (Bwz26.cell (p := ⟨bk, o + 1, none⟩) hbk).trans hcy⟩
            refine hK.out _ _ hSwz26 ?_
            clear hK K
            (try simp only [Act.put])
            generalize World.alloc wz25 _ = wz26 at Bwz26 k6x k5 hSwz26 ⊢
            have k6 := k6x
            refine GoesG.one (j := 7) (by kernel_rfl) rfl (by decide) (fun K hK => ?_)
            go_simp
            with_reducible refine (hRy wz26 (hgd.next Bwz26)).mono ?_
            rintro e we ⟨rfl, be⟩
            go_wp2_with fail
            exact ⟨rfl, by rw [HN.out]; rfl, Bd.trans ((Bwz26.trans (be.mono Bwz26.size)).mono Bd.size)⟩
        · go_simp
          have Bwz27 := Bwz24.alloc Bwz24.size (.cells #[.string ⟨#[]⟩, .bool false, .string ⟨#[]⟩, .string ⟨#[]⟩, .bool false, .string ⟨#[]⟩, .bool false, .string ⟨#[]⟩] 36)
          have k6x := Blk.new wz24 #[.string ⟨#[]⟩, .bool false, .string ⟨#[]⟩, .string ⟨#[]⟩, .bool false, .string ⟨#[]⟩, .bool false, .string ⟨#[]⟩] 36
          have hgek6 := Bwz24.size
          have hne56 := k5.lt
          have k5 := k5.alloc (.cells #[.string ⟨#[]⟩, .bool false, .string ⟨#[]⟩, .string ⟨#[]⟩, .bool false, .string ⟨#[]⟩, .bool false, .string ⟨#[]⟩] 36)
          have hSwz27 : (fun W => W.cell? ⟨bk, o, none⟩ = some (.string ⟨x.toArray⟩) ∧ W.cell? ⟨bk, o + 1, none⟩ = some (.string ⟨y.toArray⟩)) (World.alloc wz24 (.cells #[.string ⟨#[]⟩, .bool false, .string ⟨#[]⟩, .string ⟨#[]⟩, .bool false, .string ⟨#[]⟩, .bool false, .string ⟨#[]⟩] 36)) := ⟨(Bwz27.cell (p := ⟨bk, o, none⟩) hbk).trans hc, (Bwz27.cell (p := ⟨bk, o + 1, none⟩) hbk).trans hcy⟩
          refine hK.out _ _ hSwz27 ?_
          clear hK K
          (try simp only [Act.put])
          generalize World.alloc wz24 _ = wz27 at Bwz27 k6x k5 hSwz27 ⊢
          have k6 := k6x
          refine GoesG.one (j := 3) (by kernel_rfl) rfl (by decide) (fun K hK => ?_)
          go_simp
          with_reducible refine (hRx wz27 (hgd.next Bwz27)).mono ?_
          rintro e wz28 ⟨rfl, bwz28⟩
          have Bwz28 := Bwz27.trans (bwz28.mono Bwz27.size)
          have hSwz28 : (fun W => W.cell? ⟨bk, o, none⟩ = some (.string ⟨x.toArray⟩) ∧ W.cell? ⟨bk, o + 1, none⟩ = some (.string ⟨y.toArray⟩)) wz28 := ⟨(Bwz28.cell (p := ⟨bk, o, none⟩) hbk).trans hc, (Bwz28.cell (p := ⟨bk, o + 1, none⟩) hbk).trans hcy⟩
          have k5 := k5.next bwz28 k5.lt
          have k6 := k6.next bwz28 k6.lt
          refine hK.out _ _ hSwz28 ?_
          clear hK K
          (try simp only [Act.put])
          clear bwz28
          refine GoesG.one (j := 7) (by kernel_rfl) rfl (by decide) (fun K hK => ?_)
          go_simp
          with_reducible refine (hRy wz28 (hgd.next Bwz28)).mono ?_
          rintro e we ⟨rfl, be⟩
          go_wp2_with fail
          exact ⟨rfl, by rw [HN.out]; rfl, Bd.trans ((Bwz28.trans (be.mono Bwz28.size)).mono Bd.size)⟩
      · go_simp
        have Bwz29 := B0.alloc B0.size (.cells #[.string ⟨#[]⟩, .bool false, .string ⟨#[]⟩, .string ⟨#[]⟩, .bool false, .string ⟨#[]⟩, .bool false, .string ⟨#[]⟩] 36)
        have k6x := Blk.new wd #[.string ⟨#[]⟩, .bool false, .string ⟨#[]⟩, .string ⟨#[]⟩, .bool false, .string ⟨#[]⟩, .bool false, .string ⟨#[]⟩] 36
        have hgek6 := B0.size
        have hSwz29 : (fun W => W.cell? ⟨bk, o, none⟩ = some (.string ⟨x.toArray⟩) ∧ W.cell? ⟨bk, o + 1, none⟩ = some (.string ⟨y.toArray⟩)) (World.alloc wd (.cells #[.string ⟨#[]⟩, .bool false, .string ⟨#[]⟩, .string ⟨#[]⟩, .bool false, .string ⟨#[]⟩, .bool false, .string ⟨#[]⟩] 36)) := ⟨(Bwz29.cell (p := ⟨bk, o, none⟩) hbk).trans hc, (Bwz29.cell (p := ⟨bk, o + 1, none⟩) hbk).trans hcy⟩
        refine hK.out _ _ hSwz29 ?_
        clear hK K
        (try simp only [Act.put])
        generalize World.alloc wd _ = wz29 at Bwz29 k6x hSwz29 ⊢
        have k6 := k6x
        refine GoesG.all [3, 8] (by kernel_rfl) (by decide) (by decide) (ReadyG.cons rfl (fun K hK => ?_) (ReadyG.cons rfl (fun K hK => ?_) ReadyG.nil))
        · go_simp
          with_reducible refine (hRx wz29 (hgd.next Bwz29)).mono ?_
          rintro e wz30 ⟨rfl, bwz30⟩
          have Bwz30 := Bwz29.trans (bwz30.mono Bwz29.size)
          have hSwz30 : (fun W => W.cell? ⟨bk, o, none⟩ = some (.string ⟨x.toArray⟩) ∧ W.cell? ⟨bk, o + 1, none⟩ = some (.string ⟨y.toArray⟩)) wz30 := ⟨(Bwz30.cell (p := ⟨bk, o, none⟩) hbk).trans hc, (Bwz30.cell (p := ⟨bk, o + 1, none⟩) hbk).trans hcy⟩
          have k6 := k6.next bwz30 k6.lt
          refine hK.out _ _ hSwz30 ?_
          clear hK K
          (try simp only [Act.put])
          clear bwz30
          refine GoesG.all [7, 8] (by kernel_rfl) (by decide) (by decide) (ReadyG.cons rfl (fun K hK => ?_) (ReadyG.cons rfl (fun K hK => ?_) ReadyG.nil))
          · go_simp
            with_reducible refine (hRy wz30 (hgd.next Bwz30)).mono ?_
            rintro e we ⟨rfl, be⟩
            go_wp2_with fail
            exact ⟨rfl, by rw [HN.out]; rfl, Bd.trans ((Bwz30.trans (be.mono Bwz30.size)).mono Bd.size)⟩
          · go_simp
            have Bwz31 := Bwz30.alloc Bwz30.size (.cells #[.string ⟨#[]⟩, .bool false, .string ⟨#[]⟩, .string ⟨#[]⟩, .bool false, .string ⟨#[]⟩, .bool false, .string ⟨#[]⟩] 36)
            have k5x := Blk.new wz30 #[.string ⟨#[]⟩, .bool false, .string ⟨#[]⟩, .string ⟨#[]⟩, .bool false, .string ⟨#[]⟩, .bool false, .string ⟨#[]⟩] 36
            have hgek5 := Bwz30.size
            have hne56 := k6.lt
            have k6 := k6.alloc (.cells #[.string ⟨#[]⟩, .bool false, .string ⟨#[]⟩, .string ⟨#[]⟩, .bool false, .string ⟨#[]⟩, .bool false, .string ⟨#[]⟩] 36)
            have hSwz31 : (fun W => W.cell? ⟨bk, o, none⟩ = some (.string ⟨x.toArray⟩) ∧ W.cell? ⟨bk, o + 1, none⟩ = some (.string ⟨y.toArray⟩)) (World.alloc wz30 (.cells #[.string ⟨#[]⟩, .bool false, .string ⟨#[]⟩, .string ⟨#[]⟩, .bool false, .string ⟨#[]⟩, .bool false, .string ⟨#[]⟩] 36)) := ⟨(Bwz31.cell (p := ⟨bk, o, none⟩) hbk).trans hc, (Bwz31.cell (p := ⟨bk, o + 1, none⟩) hbk).trans hcy⟩
            refine hK.out _ _ hSwz31 ?_
            clear hK K
            (try simp only [Act.put])
            generalize World.alloc wz30 _ = wz31 at Bwz31 k5x k6 hSwz31 ⊢
            have k5 := k5x
            refine GoesG.one (j := 7) (by kernel_rfl) rfl (by decide) (fun K hK => ?_)
            go_simp
            with_reducible refine (hRy wz31 (hgd.next Bwz31)).mono ?_
            rintro e we ⟨rfl, be⟩
            go_wp2_with fail
            exact ⟨rfl, by rw [HN.out]; rfl, Bd.trans ((Bwz31.trans (be.mono Bwz31.size)).mono Bd.size)⟩
        · go_simp
          have Bwz32 := Bwz29.alloc Bwz29.size (.cells #[.string ⟨#[]⟩, .bool false, .string ⟨#[]⟩, .string ⟨#[]⟩, .bool false, .string ⟨#[]⟩, .bool false, .string ⟨#[]⟩] 36)
          have k5x := Blk.new wz29 #[.string ⟨#[]⟩, .bool false, .string ⟨#[]⟩, .string ⟨#[]⟩, .bool false, .string ⟨#[]⟩, .bool false, .string ⟨#[]⟩] 36
          have hgek5 := Bwz29.size
          have hne56 := k6.lt
          have k6 := k6.alloc (.cells #[.string ⟨#[]⟩, .bool false, .string ⟨#[]⟩, .string ⟨#[]⟩, .bool false, .string ⟨#[]⟩, .bool false, .string ⟨#[]⟩] 36)
          have hSwz32 : (fun W => W.cell? ⟨bk, o, none⟩ = some (.string ⟨x.toArray⟩) ∧ W.cell? ⟨bk, o + 1, none⟩ = some (.string ⟨y.toArray⟩)) (World.alloc wz29 (.cells #[.string ⟨#[]⟩, .bool false, .string ⟨#[]⟩, .string ⟨#[]⟩, .bool false, .string ⟨#[]⟩, .bool false, .string ⟨#[]⟩] 36)) := ⟨(Bwz32.cell (p := ⟨bk, o, none⟩) hbk).trans hc, (Bwz32.cell (p := ⟨bk, o + 1, none⟩) hbk).trans hcy⟩
          refine hK.out _ _ hSwz32 ?_
          clear hK K
          (try simp only [Act.put])
          generalize World.alloc wz29 _ = wz32 at Bwz32 k5x k6 hSwz32 ⊢
          have k5 := k5x
          refine GoesG.one (j := 3) (by kernel_rfl) rfl (by decide) (fun K hK => ?_)
          go_simp
          with_reducible refine (hRx wz32 (hgd.next Bwz32)).mono ?_
          rintro e wz33 ⟨rfl, bwz33⟩
          have Bwz33 := Bwz32.trans (bwz33.mono Bwz32.size)
          have hSwz33 : (fun W => W.cell? ⟨bk, o, none⟩ = some (.string ⟨x.toArray⟩) ∧ W.cell? ⟨bk, o + 1, none⟩ = some (.string ⟨y.toArray⟩)) wz33 := ⟨(Bwz33.cell (p := ⟨bk, o, none⟩) hbk).trans hc, (Bwz33.cell (p := ⟨bk, o + 1, none⟩) hbk).trans hcy⟩
          have k6 := k6.next bwz33 k6.lt
          have k5 := k5.next bwz33 k5.lt
          refine hK.out _ _ hSwz33 ?_
          clear hK K
          (try simp only [Act.put])
          clear bwz33
          refine GoesG.one (j := 7) (by kernel_rfl) rfl (by decide) (fun K hK => ?_)
          go_simp
          with_reducible refine (hRy wz33 (hgd.next Bwz33)).mono ?_
          rintro e we ⟨rfl, be⟩
          go_wp2_with fail
          exact ⟨rfl, by rw [HN.out]; rfl, Bd.trans ((Bwz33.trans (be.mono Bwz33.size)).mono Bd.size)⟩
    | some ay =>
      have hay := hay ay hry
      have HN := Lib.hid (show resolveD [x, y] = .ok (isT (writeA (resolveA ax ay))) from by rw [HF.out, hrx, hry])
      rw [hry] at hRy
      simp only at hRy
      clear hrx hry
      go_cut [5, 6] (fun p q wx => ∃ b5 b6, p = .pointer (some ⟨b5, 0, none⟩) ∧ q = .pointer (some ⟨b6, 0, none⟩) ∧ Blk wx b5 ax.cells 36 ∧ Blk wx b6 ay.cells 36 ∧ Below w.heap.size w wx)
      case first =>
        refine wp_region_stop 11 (fun W => W.cell? ⟨bk, o, none⟩ = some (.string ⟨x.toArray⟩) ∧ W.cell? ⟨bk, o + 1, none⟩ = some (.string ⟨y.toArray⟩)) (by kernel_rfl) ?_
        generalize w.drew = wd at hc hcy hbk hgd Bd B0 hS0 ⊢
        refine GoesG.takeU (i := 0) (v := ?_) rfl (by kernel_rfl) (by kernel_rfl) (by kernel_rfl) (by decide) (fun _ _ _ h => h) (Or.inl ⟨by rfl, ?_⟩) hS0 ?_
        rotate_left
        · (intro W; go_simp; try with_reducible rfl)
        (try simp only [Act.put])
        refine GoesG.takeU (i := 1) (v := ?_) rfl (by kernel_rfl) (by kernel_rfl) (by kernel_rfl) (by decide) (fun _ _ _ h => h) (Or.inl ⟨by rfl, ?_⟩) hS0 ?_
        rotate_left
        · (intro W; go_simp; try with_reducible rfl)
        (try simp only [Act.put])
        refine GoesG.take (i := 2) (v := ?_) rfl (by kernel_rfl) (by kernel_rfl) (by kernel_rfl) (by kernel_rfl) (by decide) (fun _ _ _ h => h) (Or.inl ⟨by rfl, ?_⟩) hS0 ?_
        rotate_left
        · (intro W hSw; (try dsimp only at hSw); obtain ⟨hSx, hSy⟩ := hSw; go_simp; try with_reducible rfl)
        (try simp only [Act.put])
        refine GoesG.takeU (i := 4) (v := ?_) rfl (by kernel_rfl) (by kernel_rfl) (by kernel_rfl) (by decide) (fun _ _ _ h => h) (Or.inl ⟨by rfl, ?_⟩) hS0 ?_
        rotate_left
        · (intro W; go_simp; try with_reducible rfl)
        (try simp only [Act.put])
        refine GoesG.takeU (i := 5) (v := ?_) rfl (by kernel_rfl) (by kernel_rfl) (by kernel_rfl) (by decide) (fun _ _ _ h => h) (Or.inl ⟨by rfl, ?_⟩) hS0 ?_
        rotate_left
        · (intro W; go_simp; try with_reducible rfl)
        (try simp only [Act.put])
        refine GoesG.take (i := 6) (v := ?_) rfl (by kernel_rfl) (by kernel_rfl) (by kernel_rfl) (by kernel_rfl) (by decide) (fun _ _ _ h => h) (Or.inl ⟨by rfl, ?_⟩) hS0 ?_
        rotate_left
        · (intro W hSw; (try dsimp only at hSw); obtain ⟨hSx, hSy⟩ := hSw; go_simp; try with_reducible rfl)
        (try simp only [Act.put])
        refine GoesG.all [3, 8, 9] (by kernel_rfl) (by decide) (by decide) (ReadyG.cons rfl (fun K hK => ?_) (ReadyG.cons rfl (fun K hK => ?_) (ReadyG.cons rfl (fun K hK => ?_) ReadyG.nil)))
        · go_simp
          with_reducible refine (hRx wd (hgd.next B0)).mono ?_
          rintro e wz34 ⟨rfl, bwz34⟩
          have Bwz34 := B0.trans (bwz34.mono B0.size)
          have hSwz34 : (fun W => W.cell? ⟨bk, o, none⟩ = some (.string ⟨x.toArray⟩) ∧ W.cell? ⟨bk, o + 1, none⟩ = some (.string ⟨y.toArray⟩)) wz34 := ⟨(Bwz34.cell (p := ⟨bk, o, none⟩) hbk).trans hc, (Bwz34.cell (p := ⟨bk, o + 1, none⟩) hbk).trans hcy⟩
          refine hK.out _ _ hSwz34 ?_
          clear hK K
          (try simp only [Act.put])
          clear bwz34
          refine GoesG.all [7, 8, 9] (by kernel_rfl) (by decide) (by decide) (ReadyG.cons rfl (fun K hK => ?_) (ReadyG.cons rfl (fun K hK => ?_) (ReadyG.cons rfl (fun K hK => ?_) ReadyG.nil)))
          · go_simp
            with_reducible refine (hRy wz34 (hgd.next Bwz34)).mono ?_
            rintro e wz35 ⟨rfl, bwz35⟩
            have Bwz35 := Bwz34.trans (bwz35.mono Bwz34.size)
            have hSwz35 : (fun W => W.cell? ⟨bk, o, none⟩ = some (.string ⟨x.toArray⟩) ∧ W.cell? ⟨bk, o + 1, none⟩ = some (.string ⟨y.toArray⟩)) wz35 := ⟨(Bwz35.cell (p := ⟨bk, o, none⟩) hbk).trans hc, (Bwz35.cell (p := ⟨bk, o + 1, none⟩) hbk).trans hcy⟩
            refine hK.out _ _ hSwz35 ?_
            clear hK K
            (try simp only [Act.put])
            clear bwz35
            refine GoesG.all [8, 9] (by kernel_rfl) (by decide) (by decide) (ReadyG.cons rfl (fun K hK => ?_) (ReadyG.cons rfl (fun K hK => ?_) ReadyG.nil))
            · go_simp
              have Bwz36 := Bwz35.alloc Bwz35.size (.cells #[.string ⟨#[]⟩, .bool false, .string ⟨#[]⟩, .string ⟨#[]⟩, .bool false, .string ⟨#[]⟩, .bool false, .string ⟨#[]⟩] 36)
              have k5x := Blk.new wz35 #[.string ⟨#[]⟩, .bool false, .string ⟨#[]⟩, .string ⟨#[]⟩, .bool false, .string ⟨#[]⟩, .bool false, .string ⟨#[]⟩] 36
              have hgek5 := Bwz35.size
              have hSwz36 : (fun W => W.cell? ⟨bk, o, none⟩ = some (.string ⟨x.toArray⟩) ∧ W.cell? ⟨bk, o + 1, none⟩ = some (.string ⟨y.toArray⟩)) (World.alloc wz35 (.cells #[.string ⟨#[]⟩, .bool false, .string ⟨#[]⟩, .string ⟨#[]⟩, .bool false, .string ⟨#[]⟩, .bool false, .string ⟨#[]⟩] 36)) := ⟨(Bwz36.cell (p := ⟨bk, o, none⟩) hbk).trans hc, (Bwz36.cell (p := ⟨bk, o + 1, none⟩) hbk).trans hcy⟩
              refine hK.out _ _ hSwz36 ?_
              clear hK K
              (try simp only [Act.put])
              generalize World.alloc wz35 _ = wz36 at Bwz36 k5x hSwz36 ⊢
              have k5 := k5x
              refine GoesG.one (j := 9) (by kernel_rfl) rfl (by decide) (fun K hK => ?_)
              go_simp
              have Bwz37 := Bwz36.alloc Bwz36.size (.cells #[.string ⟨#[]⟩, .bool false, .string ⟨#[]⟩, .string ⟨#[]⟩, .bool false, .string ⟨#[]⟩, .bool false, .string ⟨#[]⟩] 36)
              have k6x := Blk.new wz36 #[.string ⟨#[]⟩, .bool false, .string ⟨#[]⟩, .string ⟨#[]⟩, .bool false, .string ⟨#[]⟩, .bool false, .string ⟨#[]⟩] 36
              have hgek6 := Bwz36.size
              have hne56 := k5.lt
              have k5 := k5.alloc (.cells #[.string ⟨#[]⟩, .bool false, .string ⟨#[]⟩, .string ⟨#[]⟩, .bool false, .string ⟨#[]⟩, .bool false, .string ⟨#[]⟩] 36)
              have hSwz37 : (fun W => W.cell? ⟨bk, o, none⟩ = some (.string ⟨x.toArray⟩) ∧ W.cell? ⟨bk, o + 1, none⟩ = some (.string ⟨y.toArray⟩)) (World.alloc wz36 (.cells #[.string ⟨#[]⟩, .bool false, .string ⟨#[]⟩, .string ⟨#[]⟩, .bool false, .string ⟨#[]⟩, .bool false, .string ⟨#[]⟩] 36)) := ⟨(Bwz37.cell (p := ⟨bk, o, none⟩) hbk).trans hc, (Bwz37.cell (p := ⟨bk, o + 1, none⟩) hbk).trans hcy⟩
              refine hK.out _ _ hSwz37 ?_
              clear hK K
              (try simp only [Act.put])
              generalize World.alloc wz36 _ = wz37 at Bwz37 k6x k5 hSwz37 ⊢
              have k6 := k6x
              have k5c := k5.cell
              have k5f := k5.free
              refine GoesG.one (j := 10) (by kernel_rfl) rfl (by decide) (fun K hK => ?_)
              go_simp
              have k5b := Blk.setA k5 ax
              have B8 := below_setA Bwz37 hgek5 ax
              have hS8 := And.intro ((B8.cell (p := ⟨bk, o, none⟩) hbk).trans hc) ((B8.cell (p := ⟨bk, o + 1, none⟩) hbk).trans hcy)
              refine hK.out _ _ hS8 ?_
              clear hK K
              (try simp only [Act.put])
              have k6b := blk_setA k6 (a := _) (by first | exact Nat.ne_of_lt hne56 | exact Nat.ne_of_gt hne56) ax
              have k6c := k6b.cell
              have k6f := k6b.free
              refine GoesG.stop (by kernel_rfl) rfl (fun K hK => ?_)
              go_simp
              refine hK.out _ _ ?_
              clear hK K
              refine wpAny_done (by kernel_rfl) ?_ _
              go_wp2_with fail
              go_meet
              exact ⟨_, _, rfl, rfl, blk_setA k5b (by first | exact Nat.ne_of_lt hne56 | exact Nat.ne_of_gt hne56) ay, Blk.setA k6b ay, Bd.trans ((below_setA B8 hgek6 ay).mono Bd.size)⟩
            · go_simp
              have Bwz38 := Bwz35.alloc Bwz35.size (.cells #[.string ⟨#[]⟩, .bool false, .string ⟨#[]⟩, .string ⟨#[]⟩, .bool false, .string ⟨#[]⟩, .bool false, .string ⟨#[]⟩] 36)
              have k6x := Blk.new wz35 #[.string ⟨#[]⟩, .bool false, .string ⟨#[]⟩, .string ⟨#[]⟩, .bool false, .string ⟨#[]⟩, .bool false, .string ⟨#[]⟩] 36
              have hgek6 := Bwz35.size
              have hSwz38 : (fun W => W.cell? ⟨bk, o, none⟩ = some (.string ⟨x.toArray⟩) ∧ W.cell? ⟨bk, o + 1, none⟩ = some (.string ⟨y.toArray⟩)) (World.alloc wz35 (.cells #[.string ⟨#[]⟩, .bool false, .string ⟨#[]⟩, .string ⟨#[]⟩, .bool false, .string ⟨#[]⟩, .bool false, .string ⟨#[]⟩] 36)) := ⟨(Bwz38.cell (p := ⟨bk, o, none⟩) hbk).trans hc, (Bwz38.cell (p := ⟨bk, o + 1, none⟩) hbk).trans hcy⟩
              refine hK.out _ _ hSwz38 ?_
              clear hK K
              (try simp only [Act.put])
              generalize World.alloc wz35 _ = wz38 at Bwz38 k6x hSwz38 ⊢
              have k6 := k6x
              refine GoesG.one (j := 8) (by kernel_rfl) rfl (by decide) (fun K hK => ?_)
              go_simp
              have Bwz39 := Bwz38.alloc Bwz38.size (.cells #[.string ⟨#[]⟩, .bool false, .string ⟨#[]⟩, .string ⟨#[]⟩, .bool false, .string ⟨#[]⟩, .bool false, .string ⟨#[]⟩] 36)
              have k5x := Blk.new wz38 #[.string ⟨#[]⟩, .bool false, .string ⟨#[]⟩, .string ⟨#[]⟩, .bool false, .string ⟨#[]⟩, .bool false, .string ⟨#[]⟩] 36
              have hgek5 := Bwz38.size
              have hne56 := k6.lt
              have k6 := k6.alloc (.cells #[.string ⟨#[]⟩, .bool false, .string ⟨#[]⟩, .string ⟨#[]⟩, .bool false, .string ⟨#[]⟩, .bool false, .string ⟨#[]⟩] 36)
              have hSwz39 : (fun W => W.cell? ⟨bk, o, none⟩ = some (.string ⟨x.toArray⟩) ∧ W.cell? ⟨bk, o + 1, none⟩ = some (.string ⟨y.toArray⟩)) (World.alloc wz38 (.cells #[.string ⟨#[]⟩, .bool false, .string ⟨#[]⟩, .string ⟨#[]⟩, .bool false, .string ⟨#[]⟩, .bool false, .string ⟨#[]⟩] 36)) := ⟨(Bwz39.cell (p := ⟨bk, o, none⟩) hbk).trans hc, (Bwz39.cell (p := ⟨bk, o + 1, none⟩) hbk).trans hcy⟩
              refine hK.out _ _ hSwz39 ?_
              clear hK K
              (try simp only [Act.put])
              generalize World.alloc wz38 _ = wz39 at Bwz39 k5x k6 hSwz39 ⊢
              have k5 := k5x
              have k5c := k5.cell
              have k5f := k5.free
              refine GoesG.one (j := 10) (by kernel_rfl) rfl (by decide) (fun K hK => ?_)
              go_simp
              have k5b := Blk.setA k5 ax
              have B8 := below_setA Bwz39 hgek5 ax
              have hS8 := And.intro ((B8.cell (p := ⟨bk, o, none⟩) hbk).trans hc) ((B8.cell (p := ⟨bk, o + 1, none⟩) hbk).trans hcy)
              refine hK.out _ _ hS8 ?_
              clear hK K
              (try simp only [Act.put])
              have k6b := blk_setA k6 (a := _) (by first | exact Nat.ne_of_lt hne56 | exact Nat.ne_of_gt hne56) ax
              have k6c := k6b.cell
              have k6f := k6b.free
              refine GoesG.stop (by kernel_rfl) rfl (fun K hK => ?_)
              go_simp
              refine hK.out _ _ ?_
              clear hK K
              refine wpAny_done (by kernel_rfl) ?_ _
              go_wp2_with fail
              go_meet
              exact ⟨_, _, rfl, rfl, blk_setA k5b (by first | exact Nat.ne_of_lt hne56 | exact Nat.ne_of_gt hne56) ay, Blk.setA k6b ay, Bd.trans ((below_setA B8 hgek6 ay).mono Bd.size)⟩
          · go_simp
            have Bwz40 := Bwz34.alloc Bwz34.size (.cells #[.string ⟨#[]⟩, .bool false, .string ⟨#[]⟩, .string ⟨#[]⟩, .bool false, .string ⟨#[]⟩, .bool false, .string ⟨#[]⟩] 36)
            have k5x := Blk.new wz34 #[.string ⟨#[]⟩, .bool false, .string ⟨#[]⟩, .string ⟨#[]⟩, .bool false, .string ⟨#[]⟩, .bool false, .string ⟨#[]⟩] 36
            have hgek5 := Bwz34.size
            have hSwz40 : (fun W => W.cell? ⟨bk, o, none⟩ = some (.string ⟨x.toArray⟩) ∧ W.cell? ⟨bk, o + 1, none⟩ = some (.string ⟨y.toArray⟩)) (World.alloc wz34 (.cells #[.string ⟨#[]⟩, .bool false, .string ⟨#[]⟩, .string ⟨#[]⟩, .bool false, .string ⟨#[]⟩, .bool false, .string ⟨#[]⟩] 36)) := ⟨(Bwz40.cell (p := ⟨bk, o, none⟩) hbk).trans hc, (Bwz40.cell (p := ⟨bk, o + 1, none⟩) hbk).trans hcy⟩
            refine hK.out _ _ hSwz40 ?_
            clear hK K
            (try simp only [Act.put])
            generalize World.alloc wz34 _ = wz40 at Bwz40 k5x hSwz40 ⊢
            have k5 := k5x
            refine GoesG.all [7, 9] (by kernel_rfl) (by decide) (by decide) (ReadyG.cons rfl (fun K hK => ?_) (ReadyG.cons rfl (fun K hK => ?_) ReadyG.nil))
            · go_simp
              with_reducible refine (hRy wz40 (hgd.next Bwz40)).mono ?_
              rintro e wz41 ⟨rfl, bwz41⟩
              have Bwz41 := Bwz40.trans (bwz41.mono Bwz40.size)
              have hSwz41 : (fun W => W.cell? ⟨bk, o, none⟩ = some (.string ⟨x.toArray⟩) ∧ W.cell? ⟨bk, o + 1, none⟩ = some (.string ⟨y.toArray⟩)) wz41 := ⟨(Bwz41.cell (p := ⟨bk, o, none⟩) hbk).trans hc, (Bwz41.cell (p := ⟨bk, o + 1, none⟩) hbk).trans hcy⟩
              have k5 := k5.next bwz41 k5.lt
              refine hK.out _ _ hSwz41 ?_
              clear hK K
              (try simp only [Act.put])
              clear bwz41
              refine GoesG.one (j := 9) (by kernel_rfl) rfl (by decide) (fun K hK => ?_)
              go_simp
              have Bwz42 := Bwz41.alloc Bwz41.size (.cells #[.string ⟨#[]⟩, .bool false, .string ⟨#[]⟩, .string ⟨#[]⟩, .bool false, .string ⟨#[]⟩, .bool false, .string ⟨#[]⟩] 36)
              have k6x := Blk.new wz41 #[.string ⟨#[]⟩, .bool false, .string ⟨#[]⟩, .string ⟨#[]⟩, .bool false, .string ⟨#[]⟩, .bool false, .string ⟨#[]⟩] 36
              have hgek6 := Bwz41.size
              have hne56 := k5.lt
              have k5 := k5.alloc (.cells #[.string ⟨#[]⟩, .bool false, .string ⟨#[]⟩, .string ⟨#[]⟩, .bool false, .string ⟨#[]⟩, .bool false, .string ⟨#[]⟩] 36)
              have hSwz42 : (fun W => W.cell? ⟨bk, o, none⟩ = some (.string ⟨x.toArray⟩) ∧ W.cell? ⟨bk, o + 1, none⟩ = some (.string ⟨y.toArray⟩)) (World.alloc wz41 (.cells #[.string ⟨#[]⟩, .bool false, .string ⟨#[]⟩, .string ⟨#[]⟩, .bool false, .string ⟨#[]⟩, .bool false, .string ⟨#[]⟩] 36)) := ⟨(Bwz42.cell (p := ⟨bk, o, none⟩) hbk).trans hc, (Bwz42.cell (p := ⟨bk, o + 1, none⟩) hbk).trans hcy⟩
              refine hK.out _ _ hSwz42 ?_
              clear hK K
              (try simp only [Act.put])
              generalize World.alloc wz41 _ = wz42 at Bwz42 k6x k5 hSwz42 ⊢
              have k6 := k6x
              have k5c := k5.cell
              have k5f := k5.free
              refine GoesG.one (j := 10) (by kernel_rfl) rfl (by decide) (fun K hK => ?_)
              go_simp
              have k5b := Blk.setA k5 ax
              have B8 := below_setA Bwz42 hgek5 ax
              have hS8 := And.intro ((B8.cell (p := ⟨bk, o, none⟩) hbk).trans hc) ((B8.cell (p := ⟨bk, o + 1, none⟩) hbk).trans hcy)
              refine hK.out _ _ hS8 ?_
              clear hK K
              (try simp only [Act.put])
              have k6b := blk_setA k6 (a := _) (by first | exact Nat.ne_of_lt hne56 | exact Nat.ne_of_gt hne56) ax
              have k6c := k6b.cell
              have k6f := k6b.free
              refine GoesG.stop (by kernel_rfl) rfl (fun K hK => ?_)
              go_simp
              refine hK.out _ _ ?_
              clear hK K
              refine wpAny_done (by kernel_rfl) ?_ _
              go_wp2_with fail
              go_meet
              exact ⟨_, _, rfl, rfl, blk_setA k5b (by first | exact Nat.ne_of_lt hne56 | exact Nat.ne_of_gt hne56) ay, Blk.setA k6b ay, Bd.trans ((below_setA B8 hgek6 ay).mono Bd.size)⟩
            · go_simp
              have Bwz43 := Bwz40.alloc Bwz40.size (.cells #[.string ⟨#[]⟩, .bool false, .string ⟨#[]⟩, .string ⟨#[]⟩, .bool false, .string ⟨#[]⟩, .bool false, .string ⟨#[]⟩] 36)
              have k6x := Blk.new wz40 #[.string ⟨#[]⟩, .bool false, .string ⟨#[]⟩, .string ⟨#[]⟩, .bool false, .string ⟨#[]⟩, .bool false, .string ⟨#[]⟩] 36
              have hgek6 := Bwz40.size
              have hne56 := k5.lt
              have k5 := k5.alloc (.cells #[.string ⟨#[]⟩, .bool false, .string ⟨#[]⟩, .string ⟨#[]⟩, .bool false, .string ⟨#[]⟩, .bool false, .string ⟨#[]⟩] 36)
              have hSwz43 : (fun W => W.cell? ⟨bk, o, none⟩ = some (.string ⟨x.toArray⟩) ∧ W.cell? ⟨bk, o + 1, none⟩ = some (.string ⟨y.toArray⟩)) (World.alloc wz40 (.cells #[.string ⟨#[]⟩, .bool false, .string ⟨#[]⟩, .string ⟨#[]⟩, .bool false, .string ⟨#[]⟩, .bool false, .string ⟨#[]⟩] 36)) := ⟨(Bwz43.cell (p := ⟨bk, o, none⟩) hbk).trans hc, (Bwz43.cell (p := ⟨bk, o + 1, none⟩) hbk).trans hcy⟩
              refine hK.out _ _ hSwz43 ?_
              clear hK K
              (try simp only [Act.put])
              generalize World.alloc wz40 _ = wz43 at Bwz43 k6x k5 hSwz43 ⊢
              have k6 := k6x
              refine GoesG.one (j := 7) (by kernel_rfl) rfl (by decide) (fun K hK => ?_)
              go_simp
              with_reducible refine (hRy wz43 (hgd.next Bwz43)).mono ?_
              rintro e wz44 ⟨rfl, bwz44⟩
              have Bwz44 := Bwz43.trans (bwz44.mono Bwz43.size)
              have hSwz44 : (fun W => W.cell? ⟨bk, o, none⟩ = some (.string ⟨x.toArray⟩) ∧ W.cell? ⟨bk, o + 1, none⟩ = some (.string ⟨y.toArray⟩)) wz44 := ⟨(Bwz44.cell (p := ⟨bk, o, none⟩) hbk).trans hc, (Bwz44.cell (p := ⟨bk, o + 1, none⟩) hbk).trans hcy⟩
              have k5 := k5.next bwz44 k5.lt
              have k6 := k6.next bwz44 k6.lt
              refine hK.out _ _ hSwz44 ?_
              clear hK K
              (try simp only [Act.put])
              clear bwz44
              have k5c := k5.cell
              have k5f := k5.free
              refine GoesG.one (j := 10) (by kernel_rfl) rfl (by decide) (fun K hK => ?_)
              go_simp
              have k5b := Blk.setA k5 ax
              have B8 := below_setA Bwz44 hgek5 ax
              have hS8 := And.intro ((B8.cell (p := ⟨bk, o, none⟩) hbk).trans hc) ((B8.cell (p := ⟨bk, o + 1, none⟩) hbk).trans hcy)
              refine hK.out _ _ hS8 ?_
              clear hK K
              (try simp only [Act.put])
              have k6b := blk_setA k6 (a := _) (by first | exact Nat.ne_of_lt hne56 | exact Nat.ne_of_gt hne56) ax
              have k6c := k6b.cell
              have k6f := k6b.free
              refine GoesG.stop (by kernel_rfl) rfl (fun K hK => ?_)
              go_simp
              refine hK.out _ _ ?_
              clear hK K
              refine wpAny_done (by kernel_rfl) ?_ _
              go_wp2_with fail
              go_meet
              exact ⟨_, _, rfl, rfl, blk_setA k5b (by first | exact Nat.ne_of_lt hne56 | exact Nat.ne_of_gt hne56) ay, Blk.setA k6b ay, Bd.trans ((below_setA B8 hgek6 ay).mono Bd.size)⟩
          · go_simp
            have Bwz45 := Bwz34.alloc Bwz34.size (.cells #[.string ⟨#[]⟩, .bool false, .string ⟨#[]⟩, .string ⟨#[]⟩, .bool false, .string ⟨#[]⟩, .bool false, .string ⟨#[]⟩] 36)
            have k6x := Blk.new wz34 #[.string ⟨#[]⟩, .bool false, .string ⟨#[]⟩, .string ⟨#[]⟩, .bool false, .string ⟨#[]⟩, .bool false, .string ⟨#[]⟩] 36
            have hgek6 := Bwz34.size
            have hSwz45 : (fun W => W.cell? ⟨bk, o, none⟩ = some (.string ⟨x.toArray⟩) ∧ W.cell? ⟨bk, o + 1, none⟩ = some (.string ⟨y.toArray⟩)) (World.alloc wz34 (.cells #[.string ⟨#[]⟩, .bool false, .string ⟨#[]⟩, .string ⟨#[]⟩, .bool false, .string ⟨#[]⟩, .bool false, .string ⟨#[]⟩] 36)) := ⟨(Bwz45.cell (p := ⟨bk, o, none⟩) hbk).trans hc, (Bwz45.cell (p := ⟨bk, o + 1, none⟩) hbk).trans hcy⟩
            refine hK.out _ _ hSwz45 ?_
            clear hK K
            (try simp only [Act.put])
            generalize World.alloc wz34 _ = wz45 at Bwz45 k6x hSwz45 ⊢
            have k6 := k6x
            refine GoesG.all [7, 8] (by kernel_rfl) (by decide) (by decide) (ReadyG.cons rfl (fun K hK => ?_) (ReadyG.cons rfl (fun K hK => ?_) ReadyG.nil))
            · go_simp
              with_reducible refine (hRy wz45 (hgd.next Bwz45)).mono ?_
              rintro e wz46 ⟨rfl, bwz46⟩
              have Bwz46 := Bwz45.trans (bwz46.mono Bwz45.size)
              have hSwz46 : (fun W => W.cell? ⟨bk, o, none⟩ = some (.string ⟨x.toArray⟩) ∧ W.cell? ⟨bk, o + 1, none⟩ = some (.string ⟨y.toArray⟩)) wz46 := ⟨(Bwz46.cell (p := ⟨bk, o, none⟩) hbk).trans hc, (Bwz46.cell (p := ⟨bk, o + 1, none⟩) hbk).trans hcy⟩
              have k6 := k6.next bwz46 k6.lt
              refine hK.out _ _ hSwz46 ?_
              clear hK K
              (try simp only [Act.put])
              clear bwz46
              refine GoesG.one (j := 8) (by kernel_rfl) rfl (by decide) (fun K hK => ?_)
              go_simp
              have Bwz47 := Bwz46.alloc Bwz46.size (.cells #[.string ⟨#[]⟩, .bool false, .string ⟨#[]⟩, .string ⟨#[]⟩, .bool false, .string ⟨#[]⟩, .bool false, .string ⟨#[]⟩] 36)
              have k5x := Blk.new wz46 #[.string ⟨#[]⟩, .bool false, .string ⟨#[]⟩, .string ⟨#[]⟩, .bool false, .string ⟨#[]⟩, .bool false, .string ⟨#[]⟩] 36
              have hgek5 := Bwz46.size
              have hne56 := k6.lt
              have k6 := k6.alloc (.cells #[.string ⟨#[]⟩, .bool false, .string ⟨#[]⟩, .string ⟨#[]⟩, .bool false, .string ⟨#[]⟩, .bool false, .string ⟨#[]⟩] 36)
              have hSwz47 : (fun W => W.cell? ⟨bk, o, none⟩ = some (.string ⟨x.toArray⟩) ∧ W.cell? ⟨bk, o + 1, none⟩ = some (.string ⟨y.toArray⟩)) (World.alloc wz46 (.cells #[.string ⟨#[]⟩, .bool false, .string ⟨#[]⟩, .string ⟨#[]⟩, .bool false, .string ⟨#[]⟩, .bool false, .string ⟨#[]⟩] 36)) := ⟨(Bwz47.cell (p := ⟨bk, o, none⟩) hbk).trans hc, (Bwz47.cell (p := ⟨bk, o + 1, none⟩) hbk).trans hcy⟩
              refine hK.out _ _ hSwz47 ?_
              clear hK K
              (try simp only [Act.put])
              generalize World.alloc wz46 _ = wz47 at Bwz47 k5x k6 hSwz47 ⊢
              have k5 := k5x
              have k5c := k5.cell
              have k5f := k5.free
              refine GoesG.one (j := 10) (by kernel_rfl) rfl (by decide) (fun K hK => ?_)
              go_simp
              have k5b := Blk.setA k5 ax
              have B8 := below_setA Bwz47 hgek5 ax
              have hS8 := And.intro ((B8.cell (p := ⟨bk, o, none⟩) hbk).trans hc) ((B8.cell (p := ⟨bk, o + 1, none⟩) hbk).trans hcy)
              refine hK.out _ _ hS8 ?_
              clear hK K
              (try simp only [Act.put])
              have k6b := blk_setA k6 (a := _) (by first | exact Nat.ne_of_lt hne56 | exact Nat.ne_of_gt hne56) ax
              have k6c := k6b.cell
              have k6f := k6b.free
              refine GoesG.stop (by kernel_rfl) rfl (fun K hK => ?_)
              go_simp
              refine hK.out _ _ ?_
              clear hK K
              refine wpAny_done (by kernel_rfl) ?_ _
              go_wp2_with fail
              go_meet
              exact ⟨_, _, rfl, rfl, blk_setA k5b (by first | exact Nat.ne_of_lt hne56 | exact Nat.ne_of_gt hne56) ay, Blk.setA k6b ay, Bd.trans ((below_setA B8 hgek6 ay).mono Bd.size)⟩
            · go_simp
              have Bwz48 := Bwz45.alloc Bwz45.size (.cells #[.string ⟨#[]⟩, .bool false, .string ⟨#[]⟩, .string ⟨#[]⟩, .bool false, .string ⟨#[]⟩, .bool false, .string ⟨#[]⟩] 36)
              have k5x := Blk.new wz45 #[.string ⟨#[]⟩, .bool false, .string ⟨#[]⟩, .string ⟨#[]⟩, .bool false, .string ⟨#[]⟩, .bool false, .string ⟨#[]⟩] 36
              have hgek5 := Bwz45.size
              have hne56 := k6.lt
              have k6 := k6.alloc (.cells #[.string ⟨#[]⟩, .bool false, .string ⟨#[]⟩, .string ⟨#[]⟩, .bool false, .string ⟨#[]⟩, .bool false, .string ⟨#[]⟩] 36)
              have hSwz48 : (fun W => W.cell? ⟨bk, o, none⟩ = some (.string ⟨x.toArray⟩) ∧ W.cell? ⟨bk, o + 1, none⟩ = some (.string ⟨y.toArray⟩)) (World.alloc wz45 (.cells #[.string ⟨#[]⟩, .bool false, .string ⟨#[]⟩, .string ⟨#[]⟩, .bool false, .string ⟨#[]⟩, .bool false, .string ⟨#[]⟩] 36)) := ⟨(Bwz48.cell (p := ⟨bk, o, none⟩) hbk).trans hc, (Bwz48.cell (p := ⟨bk, o + 1, none⟩) hbk).trans hcy⟩
              refine hK.out _ _ hSwz48 ?_
              clear hK K
              (try simp only [Act.put])
              generalize World.alloc wz45 _ = wz48 at Bwz48 k5x k6 hSwz48 ⊢
              have k5 := k5x
              refine GoesG.one (j := 7) (by kernel_rfl) rfl (by decide) (fun K hK => ?_)
              go_simp
              with_reducible refine (hRy wz48 (hgd.next Bwz48)).mono ?_
              rintro e wz49 ⟨rfl, bwz49⟩
              have Bwz49 := Bwz48.trans (bwz49.mono Bwz48.size)
              have hSwz49 : (fun W => W.cell? ⟨bk, o, none⟩ = some (.string ⟨x.toArray⟩) ∧ W.cell? ⟨bk, o + 1, none⟩ = some (.string ⟨y.toArray⟩)) wz49 := ⟨(Bwz49.cell (p := ⟨bk, o, none⟩) hbk).trans hc, (Bwz49.cell (p := ⟨bk, o + 1, none⟩) hbk).trans hcy⟩
              have k6 := k6.next bwz49 k6.lt
              have k5 := k5.next bwz49 k5.lt
              refine hK.out _ _ hSwz49 ?_
              clear hK K
              (try simp only [Act.put])
              clear bwz49
              have k5c := k5.cell
              have k5f := k5.free
              refine GoesG.one (j := 10) (by kernel_rfl) rfl (by decide) (fun K hK => ?_)
              go_simp
              have k5b := Blk.setA k5 ax
              have B8 := below_setA Bwz49 hgek5 ax
              have hS8 := And.intro ((B8.cell (p := ⟨bk, o, none⟩) hbk).trans hc) ((B8.cell (p := ⟨bk, o + 1, none⟩) hbk).trans hcy)
              refine hK.out _ _ hS8 ?_
              clear hK K
              (try simp only [Act.put])
              have k6b := blk_setA k6 (a := _) (by first | exact Nat.ne_of_lt hne56 | exact Nat.ne_of_gt hne56) ax
              have k6c := k6b.cell
              have k6f := k6b.free
              refine GoesG.stop (by kernel_rfl) rfl (fun K hK => ?_)
              go_simp
              refine hK.out _ _ ?_
              clear hK K
              refine wpAny_done (by kernel_rfl) ?_ _
              go_wp2_with fail
              go_meet
              exact ⟨_, _, rfl, rfl, blk_setA k5b (by first | exact Nat.ne_of_lt hne56 | exact Nat.ne_of_gt hne56) ay, Blk.setA k6b ay, Bd.trans ((below_setA B8 hgek6 ay).mono Bd.size)⟩
        · go_simp
          have Bwz50 := B0.alloc B0.size (.cells #[.string ⟨#[]⟩, .bool false, .string ⟨#[]⟩, .string ⟨#[]⟩, .bool false, .string ⟨#[]⟩, .bool false, .string ⟨#[]⟩] 36)
          have k5x := Blk.new wd #[.string ⟨#[]⟩, .bool false, .string ⟨#[]⟩, .string ⟨#[]⟩, .bool false, .string ⟨#[]⟩, .bool false, .string ⟨#[]⟩] 36
          have hgek5 := B0.size
          have hSwz50 : (fun W => W.cell? ⟨bk, o, none⟩ = some (.string ⟨x.toArray⟩) ∧ W.cell? ⟨bk, o + 1, none⟩ = some (.string ⟨y.toArray⟩)) (World.alloc wd (.cells #[.string ⟨#[]⟩, .bool false, .string ⟨#[]⟩, .string ⟨#[]⟩, .bool false, .string ⟨#[]⟩, .bool false, .string ⟨#[]⟩] 36)) := ⟨(Bwz50.cell (p := ⟨bk, o, none⟩) hbk).trans hc, (Bwz50.cell (p := ⟨bk, o + 1, none⟩) hbk).trans hcy⟩
          refine hK.out _ _ hSwz50 ?_
          clear hK K
          (try simp only [Act.put])
          generalize World.alloc wd _ = wz50 at Bwz50 k5x hSwz50 ⊢
          have k5 := k5x
          refine GoesG.all [3, 9] (by kernel_rfl) (by decide) (by decide) (ReadyG.cons rfl (fun K hK => ?_) (ReadyG.cons rfl (fun K hK => ?_) ReadyG.nil))
          · go_simp
            with_reducible refine (hRx wz50 (hgd.next Bwz50)).mono ?_
            rintro e wz51 ⟨rfl, bwz51⟩
            have Bwz51 := Bwz50.trans (bwz51.mono Bwz50.size)
            have hSwz51 : (fun W => W.cell? ⟨bk, o, none⟩ = some (.string ⟨x.toArray⟩) ∧ W.cell? ⟨bk, o + 1, none⟩ = some (.string ⟨y.toArray⟩)) wz51 := ⟨(Bwz51.cell (p := ⟨bk, o, none⟩) hbk).trans hc, (Bwz51.cell (p := ⟨bk, o + 1, none⟩) hbk).trans hcy⟩
            have k5 := k5.next bwz51 k5.lt
            refine hK.out _ _ hSwz51 ?_
            clear hK K
            (try simp only [Act.put])
            clear bwz51
            refine GoesG.all [7, 9] (by kernel_rfl) (by decide) (by decide) (ReadyG.cons rfl (fun K hK => ?_) (ReadyG.cons rfl (fun K hK => ?_) ReadyG.nil))
            · go_simp
              with_reducible refine (hRy wz51 (hgd.next Bwz51)).mono ?_
              rintro e wz52 ⟨rfl, bwz52⟩
              have Bwz52 := Bwz51.trans (bwz52.mono Bwz51.size)
              have hSwz52 : (fun W => W.cell? ⟨bk, o, none⟩ = some (.string ⟨x.toArray⟩) ∧ W.cell? ⟨bk, o + 1, none⟩ = some (.string ⟨y.toArray⟩)) wz52 := ⟨(Bwz52.cell (p := ⟨bk, o, none⟩) hbk).trans hc, (Bwz52.cell (p := ⟨bk, o + 1, none⟩) hbk).trans hcy⟩
              have k5 := k5.next bwz52 k5.lt
              refine hK.out _ _ hSwz52 ?_
              clear hK K
              (try simp only [Act.put])
              clear bwz52
              refine GoesG.one (j := 9) (by kernel_rfl) rfl (by decide) (fun K hK => ?_)
              go_simp
              have Bwz53 := Bwz52.alloc Bwz52.size (.cells #[.string ⟨#[]⟩, .bool false, .string ⟨#[]⟩, .string ⟨#[]⟩, .bool false, .string ⟨#[]⟩, .bool false, .string ⟨#[]⟩] 36)
              have k6x := Blk.new wz52 #[.string ⟨#[]⟩, .bool false, .string ⟨#[]⟩, .string ⟨#[]⟩, .bool false, .string ⟨#[]⟩, .bool false, .string ⟨#[]⟩] 36
              have hgek6 := Bwz52.size
              have hne56 := k5.lt
              have k5 := k5.alloc (.cells #[.string ⟨#[]⟩, .bool false, .string ⟨#[]⟩, .string ⟨#[]⟩, .bool false, .string ⟨#[]⟩, .bool false, .string ⟨#[]⟩] 36)
              have hSwz53 : (fun W => W.cell? ⟨bk, o, none⟩ = some (.string ⟨x.toArray⟩) ∧ W.cell? ⟨bk, o + 1, none⟩ = some (.string ⟨y.toArray⟩)) (World.alloc wz52 (.cells #[.string ⟨#[]⟩, .bool false, .string ⟨#[]⟩, .string ⟨#[]⟩, .bool false, .string ⟨#[]⟩, .bool false, .string ⟨#[]⟩] 36)) := ⟨(Bwz53.cell (p := ⟨bk, o, none⟩) hbk).trans hc, (Bwz53.cell (p := ⟨bk, o + 1, none⟩) hbk).trans hcy⟩
              refine hK.out _ _ hSwz53 ?_
              clear hK K
              (try simp only [Act.put])
              generalize World.alloc wz52 _ = wz53 at Bwz53 k6x k5 hSwz53 ⊢
              have k6 := k6x
              have k5c := k5.cell
              have k5f := k5.free
              refine GoesG.one (j := 10) (by kernel_rfl) rfl (by decide) (fun K hK => ?_)
              go_simp
              have k5b := Blk.setA k5 ax
              have B8 := below_setA Bwz53 hgek5 ax
              have hS8 := And.intro ((B8.cell (p := ⟨bk, o, none⟩) hbk).trans hc) ((B8.cell (p := ⟨bk, o + 1, none⟩) hbk).trans hcy)
              refine hK.out _ _ hS8 ?_
              clear hK K
              (try simp only [Act.put])
              have k6b := blk_setA k6 (a := _) (by first | exact Nat.ne_of_lt hne56 | exact Nat.ne_of_gt hne56) ax
              have k6c := k6b.cell
              have k6f := k6b.free
              refine GoesG.stop (by kernel_rfl) rfl (fun K hK => ?_)
              go_simp
              refine hK.out _ _ ?_
              clear hK K
              refine wpAny_done (by kernel_rfl) ?_ _
              go_wp2_with fail
              go_meet
              exact ⟨_, _, rfl, rfl, blk_setA k5b (by first | exact Nat.ne_of_lt hne56 | exact Nat.ne_of_gt hne56) ay, Blk.setA k6b ay, Bd.trans ((below_setA B8 hgek6 ay).mono Bd.size)⟩
            · go_simp
              have Bwz54 := Bwz51.alloc Bwz51.size (.cells #[.string ⟨#[]⟩, .bool false, .string ⟨#[]⟩, .string ⟨#[]⟩, .bool false, .string ⟨#[]⟩, .bool false, .string ⟨#[]⟩] 36)
              have k6x := Blk.new wz51 #[.string ⟨#[]⟩, .bool false, .string ⟨#[]⟩, .string ⟨#[]⟩, .bool false, .string ⟨#[]⟩, .bool false, .string ⟨#[]⟩] 36
              have hgek6 := Bwz51.size
              have hne56 := k5.lt
              have k5 := k5.alloc (.cells #[.string ⟨#[]⟩, .bool false, .string ⟨#[]⟩, .string ⟨#[]⟩, .bool false, .string ⟨#[]⟩, .bool false, .string ⟨#[]⟩] 36)
              have hSwz54 : (fun W => W.cell? ⟨bk, o, none⟩ = some (.string ⟨x.toArray⟩) ∧ W.cell? ⟨bk, o + 1, none⟩ = some (.string ⟨y.toArray⟩)) (World.alloc wz51 (.cells #[.string ⟨#[]⟩, .bool false, .string ⟨#[]⟩, .string ⟨#[]⟩, .bool false, .string ⟨#[]⟩, .bool false, .string ⟨#[]⟩] 36)) := ⟨(Bwz54.cell (p := ⟨bk, o, none⟩) hbk).trans hc, (Bwz54.cell (p := ⟨bk, o + 1, none⟩) hbk).trans hcy⟩
              refine hK.out _ _ hSwz54 ?_
              clear hK K
              (try simp only [Act.put])
              generalize World.alloc wz51 _ = wz54 at Bwz54 k6x k5 hSwz54 ⊢
              have k6 := k6x
              refine GoesG.one (j := 7) (by kernel_rfl) rfl (by decide) (fun K hK => ?_)
              go_simp
              with_reducible refine (hRy wz54 (hgd.next Bwz54)).mono ?_
              rintro e wz55 ⟨rfl, bwz55⟩
              have Bwz55 := Bwz54.trans (bwz55.mono Bwz54.size)
              have hSwz55 : (fun W => W.cell? ⟨bk, o, none⟩ = some (.string ⟨x.toArray⟩) ∧ W.cell? ⟨bk, o + 1, none⟩ = some (.string ⟨y.toArray⟩)) wz55 := ⟨(Bwz55.cell (p := ⟨bk, o, none⟩) hbk).trans hc, (Bwz55.cell (p := ⟨bk, o + 1, none⟩) hbk).trans hcy⟩
              have k5 := k5.next bwz55 k5.lt
              have k6 := k6.next bwz55 k6.lt
              refine hK.out _ _ hSwz55 ?_
              clear hK K
              (try simp only [Act.put])
              clear bwz55
              have k5c := k5.cell
              have k5f := k5.free
              refine GoesG.one (j := 10) (by kernel_rfl) rfl (by decide) (fun K hK => ?_)
              go_simp
              have k5b := Blk.setA k5 ax
              have B8 := below_setA Bwz55 hgek5 ax
              have hS8 := And.intro ((B8.cell (p := ⟨bk, o, none⟩) hbk).trans hc) ((B8.cell (p := ⟨bk, o + 1, none⟩) hbk).trans hcy)
              refine hK.out _ _ hS8 ?_
              clear hK K
              (try simp only [Act.put])
              have k6b := blk_setA k6 (a := _) (by first | exact Nat.ne_of_lt hne56 | exact Nat.ne_of_gt hne56) ax
              have k6c := k6b.cell
              have k6f := k6b.free
              refine GoesG.stop (by kernel_rfl) rfl (fun K hK => ?_)
              go_simp
              refine hK.out _ _ ?_
              clear hK K
              refine wpAny_done (by kernel_rfl) ?_ _
              go_wp2_with fail
              go_meet
              exact ⟨_, _, rfl, rfl, blk_setA k5b (by first | exact Nat.ne_of_lt hne56 | exact Nat.ne_of_gt hne56) ay, Blk.setA k6b ay, Bd.trans ((below_setA B8 hgek6 ay).mono Bd.size)⟩
          · go_simp
            have Bwz56 := Bwz50.alloc Bwz50.size (.cells #[.string ⟨#[]⟩, .bool false, .string ⟨#[]⟩, .string ⟨#[]⟩, .bool false, .string ⟨#[]⟩, .bool false, .string ⟨#[]⟩] 36)
            have k6x := Blk.new wz50 #[.string ⟨#[]⟩, .bool false, .string ⟨#[]⟩, .string ⟨#[]⟩, .bool false, .string ⟨#[]⟩, .bool false, .string ⟨#[]⟩] 36
            have hgek6 := Bwz50.size
            have hne56 := k5.lt
            have k5 := k5.alloc (.cells #[.string ⟨#[]⟩, .bool false, .string ⟨#[]⟩, .string ⟨#[]⟩, .bool false, .string ⟨#[]⟩, .bool false, .string ⟨#[]⟩] 36)
            have hSwz56 : (fun W => W.cell? ⟨bk, o, none⟩ = some (.string ⟨x.toArray⟩) ∧ W.cell? ⟨bk, o + 1, none⟩ = some (.string ⟨y.toArray⟩)) (World.alloc wz50 (.cells #[.string ⟨#[]⟩, .bool false, .string ⟨#[]⟩, .string ⟨#[]⟩, .bool false, .string ⟨#[]⟩, .bool false, .string ⟨#[]⟩] 36)) := ⟨(Bwz56.cell (p := ⟨bk, o, none⟩) hbk).trans hc, (Bwz56.cell (p := ⟨bk, o + 1, none⟩) hbk).trans hcy⟩
            refine hK.out _ _ hSwz56 ?_
            clear hK K
            (try simp only [Act.put])
            generalize World.alloc wz50 _ = wz56 at Bwz56 k6x k5 hSwz56 ⊢
            have k6 := k6x
            refine GoesG.one (j := 3) (by kernel_rfl) rfl (by decide) (fun K hK => ?_)
            go_simp
            with_reducible refine (hRx wz56 (hgd.next Bwz56)).mono ?_
            rintro e wz57 ⟨rfl, bwz57⟩
            have Bwz57 := Bwz56.trans (bwz57.mono Bwz56.size)
            have hSwz57 : (fun W => W.cell? ⟨bk, o, none⟩ = some (.string ⟨x.toArray⟩) ∧ W.cell? ⟨bk, o + 1, none⟩ = some (.string ⟨y.toArray⟩)) wz57 := ⟨(Bwz57.cell (p := ⟨bk, o, none⟩) hbk).trans hc, (Bwz57.cell (p := ⟨bk, o + 1, none⟩) hbk).trans hcy⟩
            have k5 := k5.next bwz57 k5.lt
            have k6 := k6.next bwz57 k6.lt
            refine hK.out _ _ hSwz57 ?_
            clear hK K
            (try simp only [Act.put])
            clear bwz57
            refine GoesG.one (j := 7) (by kernel_rfl) rfl (by decide) (fun K hK => ?_)
            go_simp
            with_reducible refine (hRy wz57 (hgd.next Bwz57)).mono ?_
            rintro e wz58 ⟨rfl, bwz58⟩
            have Bwz58 := Bwz57.trans (bwz58.mono Bwz57.size)
            have hSwz58 : (fun W => W.cell? ⟨bk, o, none⟩ = some (.string ⟨x.toArray⟩) ∧ W.cell? ⟨bk, o + 1, none⟩ = some (.string ⟨y.toArray⟩)) wz58 := ⟨(Bwz58.cell (p := ⟨bk, o, none⟩) hbk).trans hc, (Bwz58.cell (p := ⟨bk, o + 1, none⟩) hbk).trans hcy⟩
            have k5 := k5.next bwz58 k5.lt
            have k6 := k6.next bwz58 k6.lt
            refine hK.out _ _ hSwz58 ?_
            clear hK K
            (try simp only [Act.put])
            clear bwz58
            have k5c := k5.cell
            have k5f := k5.free
            refine GoesG.one (j := 10) (by kernel_rfl) rfl (by decide) (fun K hK => ?_)
            go_simp
            have k5b := Blk.setA k5 ax
            have B8 := below_setA Bwz58 hgek5 ax
            have hS8 := And.intro ((B8.cell (p := ⟨bk, o, none⟩) hbk).trans hc) ((B8.cell (p := ⟨bk, o + 1, none⟩) hbk).trans hcy)
            refine hK.out _ _ hS8 ?_
            clear hK K
            (try simp only [Act.put])
            have k6b := blk_setA k6 (a := _) (by first | exact Nat.ne_of_lt hne56 | exact Nat.ne_of_gt hne56) ax
            have k6c := k6b.cell
            have k6f := k6b.free
            refine GoesG.stop (by kernel_rfl) rfl (fun K hK => ?_)
            go_simp
            refine hK.out _ _ ?_
            clear hK K
            refine wpAny_done (by kernel_rfl) ?_ _
            go_wp2_with fail
            go_meet
            exact ⟨_, _, rfl, rfl, blk_setA k5b (by first | exact Nat.ne_of_lt hne56 | exact Nat.ne_of_gt hne56) ay, Blk.setA k6b ay, Bd.trans ((below_setA B8 hgek6 ay).mono Bd.size)⟩
        · go_simp
          have Bwz59 := B0.alloc B0.size (.cells #[.string ⟨#[]⟩, .bool false, .string ⟨#[]⟩, .string ⟨#[]⟩, .bool false, .string ⟨#[]⟩, .bool false, .string ⟨#[]⟩] 36)
          have k6x := Blk.new wd #[.string ⟨#[]⟩, .bool false, .string ⟨#[]⟩, .string ⟨#[]⟩, .bool false, .string ⟨#[]⟩, .bool false, .string ⟨#[]⟩] 36
          have hgek6 := B0.size
          have hSwz59 : (fun W => W.cell? ⟨bk, o, none⟩ = some (.string ⟨x.toArray⟩) ∧ W.cell? ⟨bk, o + 1, none⟩ = some (.string ⟨y.toArray⟩)) (World.alloc wd (.cells #[.string ⟨#[]⟩, .bool false, .string ⟨#[]⟩, .string ⟨#[]⟩, .bool false, .string ⟨#[]⟩, .bool false, .string ⟨#[]⟩] 36)) := ⟨(Bwz59.cell (p := ⟨bk, o, none⟩) hbk).trans hc, (Bwz59.cell (p := ⟨bk, o + 1, none⟩) hbk).trans hcy⟩
          refine hK.out _ _ hSwz59 ?_
          clear hK K
          (try simp only [Act.put])
          generalize World.alloc wd _ = wz59 at Bwz59 k6x hSwz59 ⊢
          have k6 := k6x
          refine GoesG.all [3, 8] (by kernel_rfl) (by decide) (by decide) (ReadyG.cons rfl (fun K hK => ?_) (ReadyG.cons rfl (fun K hK => ?_) ReadyG.nil))
          · go_simp
            with_reducible refine (hRx wz59 (hgd.next Bwz59)).mono ?_
            rintro e wz60 ⟨rfl, bwz60⟩
            have Bwz60 := Bwz59.trans (bwz60.mono Bwz59.size)
            have hSwz60 : (fun W => W.cell? ⟨bk, o, none⟩ = some (.string ⟨x.toArray⟩) ∧ W.cell? ⟨bk, o + 1, none⟩ = some (.string ⟨y.toArray⟩)) wz60 := ⟨(Bwz60.cell (p := ⟨bk, o, none⟩) hbk).trans hc, (Bwz60.cell (p := ⟨bk, o + 1, none⟩) hbk).trans hcy⟩
            have k6 := k6.next bwz60 k6.lt
            refine hK.out _ _ hSwz60 ?_
            clear hK K
            (try simp only [Act.put])
            clear bwz60
            refine GoesG.all [7, 8] (by kernel_rfl) (by decide) (by decide) (ReadyG.cons rfl (fun K hK => ?_) (ReadyG.cons rfl (fun K hK => ?_) ReadyG.nil))
            · go_simp
              with_reducible refine (hRy wz60 (hgd.next Bwz60)).mono ?_
              rintro e wz61 ⟨rfl, bwz61⟩
              have Bwz61 := Bwz60.trans (bwz61.mono Bwz60.size)
              have hSwz61 : (fun W => W.cell? ⟨bk, o, none⟩ = some (.string ⟨x.toArray⟩) ∧ W.cell? ⟨bk, o + 1, none⟩ = some (.string ⟨y.toArray⟩)) wz61 := ⟨(Bwz61.cell (p := ⟨bk, o, none⟩) hbk).trans hc, (Bwz61.cell (p := ⟨bk, o + 1, none⟩) hbk).trans hcy⟩
              have k6 := k6.next bwz61 k6.lt
              refine hK.out _ _ hSwz61 ?_
              clear hK K
              (try simp only [Act.put])
              clear bwz61
              refine GoesG.one (j := 8) (by kernel_rfl) rfl (by decide) (fun K hK => ?_)
              go_simp
              have Bwz62 := Bwz61.alloc Bwz61.size (.cells #[.string ⟨#[]⟩, .bool false, .string ⟨#[]⟩, .string ⟨#[]⟩, .bool false, .string ⟨#[]⟩, .bool false, .string ⟨#[]⟩] 36)
              have k5x := Blk.new wz61 #[.string ⟨#[]⟩, .bool false, .string ⟨#[]⟩, .string ⟨#[]⟩, .bool false, .string ⟨#[]⟩, .bool false, .string ⟨#[]⟩] 36
              have hgek5 := Bwz61.size
              have hne56 := k6.lt
              have k6 := k6.alloc (.cells #[.string ⟨#[]⟩, .bool false, .string ⟨#[]⟩, .string ⟨#[]⟩, .bool false, .string ⟨#[]⟩, .bool false, .string ⟨#[]⟩] 36)
              have hSwz62 : (fun W => W.cell? ⟨bk, o, none⟩ = some (.string ⟨x.toArray⟩) ∧ W.cell? ⟨bk, o + 1, none⟩ = some (.string ⟨y.toArray⟩)) (World.alloc wz61 (.cells #[.string ⟨#[]⟩, .bool false, .string ⟨#[]⟩, .string ⟨#[]⟩, .bool false, .string ⟨#[]⟩, .bool false, .string ⟨#[]⟩] 36)) := ⟨(Bwz62.cell (p := ⟨bk, o, none⟩) hbk).trans hc, (Bwz62.cell (p := ⟨bk, o + 1, none⟩) hbk).trans hcy⟩
              refine hK.out _ _ hSwz62 ?_
              clear hK K
              (try simp only [Act.put])
              generalize World.alloc wz61 _ = wz62 at Bwz62 k5x k6 hSwz62 ⊢
              have k5 := k5x
              have k5c := k5.cell
              have k5f := k5.free
              refine GoesG.one (j := 10) (by kernel_rfl) rfl (by decide) (fun K hK => ?_)
              go_simp
              have k5b := Blk.setA k5 ax
              have B8 := below_setA Bwz62 hgek5 ax
              have hS8 := And.intro ((B8.cell (p := ⟨bk, o, none⟩) hbk).trans hc) ((B8.cell (p := ⟨bk, o + 1, none⟩) hbk).trans hcy)
              refine hK.out _ _ hS8 ?_
              clear hK K
              (try simp only [Act.put])
              have k6b := blk_setA k6 (a := _) (by first | exact Nat.ne_of_lt hne56 | exact Nat.ne_of_gt hne56) ax
              have k6c := k6b.cell
              have k6f := k6b.free
              refine GoesG.stop (by kernel_rfl) rfl (fun K hK => ?_)
              go_simp
              refine hK.out _ _ ?_
              clear hK K
              refine wpAny_done (by kernel_rfl) ?_ _
              go_wp2_with fail
              go_meet
              exact ⟨_, _, rfl, rfl, blk_setA k5b (by first | exact Nat.ne_of_lt hne56 | exact Nat.ne_of_gt hne56) ay, Blk.setA k6b ay, Bd.trans ((below_setA B8 hgek6 ay).mono Bd.size)⟩
            · go_simp
              have Bwz63 := Bwz60.alloc Bwz60.size (.cells #[.string ⟨#[]⟩, .bool false, .string ⟨#[]⟩, .string ⟨#[]⟩, .bool false, .string ⟨#[]⟩, .bool false, .string ⟨#[]⟩] 36)
              have k5x := Blk.new wz60 #[.string ⟨#[]⟩, .bool false, .string ⟨#[]⟩, .string ⟨#[]⟩, .bool false, .string ⟨#[]⟩, .bool false, .string ⟨#[]⟩] 36
              have hgek5 := Bwz60.size
              have hne56 := k6.lt
              have k6 := k6.alloc (.cells #[.string ⟨#[]⟩, .bool false, .string ⟨#[]⟩, .string ⟨#[]⟩, .bool false, .string ⟨#[]⟩, .bool false, .string ⟨#[]⟩] 36)
              have hSwz63 : (fun W => W.cell? ⟨bk, o, none⟩ = some (.string ⟨x.toArray⟩) ∧ W.cell? ⟨bk, o + 1, none⟩ = some (.string ⟨y.toArray⟩)) (World.alloc wz60 (.cells #[.string ⟨#[]⟩, .bool false, .string ⟨#[]⟩, .string ⟨#[]⟩, .bool false, .string ⟨#[]⟩, .bool false, .string ⟨#[]⟩] 36)) := ⟨(Bwz63.cell (p := ⟨bk, o, none⟩) hbk).trans hc, (Bwz63.cell (p := ⟨bk, o + 1, none⟩) hbk).trans hcy⟩
              refine hK.out _ _ hSwz63 ?_
              clear hK K
              (try simp only [Act.put])
              generalize World.alloc wz60 _ = wz63 at Bwz63 k5x k6 hSwz63 ⊢
              have k5 := k5x
              refine GoesG.one (j := 7) (by kernel_rfl) rfl (by decide) (fun K hK => ?_)
              go_simp
              with_reducible refine (hRy wz63 (hgd.next Bwz63)).mono ?_
              rintro e wz64 ⟨rfl, bwz64⟩
              have Bwz64 := Bwz63.trans (bwz64.mono Bwz63.size)
              have hSwz64 : (fun W => W.cell? ⟨bk, o, none⟩ = some (.string ⟨x.toArray⟩) ∧ W.cell? ⟨bk, o + 1, none⟩ = some (.string ⟨y.toArray⟩)) wz64 := ⟨(Bwz64.cell (p := ⟨bk, o, none⟩) hbk).trans hc, (Bwz64.cell (p := ⟨bk, o + 1, none⟩) hbk).trans hcy⟩
              have k6 := k6.next bwz64 k6.lt
              have k5 := k5.next bwz64 k5.lt
              refine hK.out _ _ hSwz64 ?_
              clear hK K
              (try simp only [Act.put])
              clear bwz64
              have k5c := k5.cell
              have k5f := k5.free
              refine GoesG.one (j := 10) (by kernel_rfl) rfl (by decide) (fun K hK => ?_)
              go_simp
              have k5b := Blk.setA k5 ax
              have B8 := below_setA Bwz64 hgek5 ax
              have hS8 := And.intro ((B8.cell (p := ⟨bk, o, none⟩) hbk).trans hc) ((B8.cell (p := ⟨bk, o + 1, none⟩) hbk).trans hcy)
              refine hK.out _ _ hS8 ?_
              clear hK K
              (try simp only [Act.put])
              have k6b := blk_setA k6 (a := _) (by first | exact Nat.ne_of_lt hne56 | exact Nat.ne_of_gt hne56) ax
              have k6c := k6b.cell
              have k6f := k6b.free
              refine GoesG.stop (by kernel_rfl) rfl (fun K hK => ?_)
              go_simp
              refine hK.out _ _ ?_
              clear hK K
              refine wpAny_done (by kernel_rfl) ?_ _
              go_wp2_with fail
              go_meet
              exact ⟨_, _, rfl, rfl, blk_setA k5b (by first | exact Nat.ne_of_lt hne56 | exact Nat.ne_of_gt hne56) ay, Blk.setA k6b ay, Bd.trans ((below_setA B8 hgek6 ay).mono Bd.size)⟩
          · go_simp
            have Bwz65 := Bwz59.alloc Bwz59.size (.cells #[.string ⟨#[]⟩, .bool false, .string ⟨#[]⟩, .string ⟨#[]⟩, .bool false, .string ⟨#[]⟩, .bool false, .string ⟨#[]⟩] 36)
            have k5x := Blk.new wz59 #[.string ⟨#[]⟩, .bool false, .string ⟨#[]⟩, .string ⟨#[]⟩, .bool false, .string ⟨#[]⟩, .bool false, .string ⟨#[]⟩] 36
            have hgek5 := Bwz59.size
            have hne56 := k6.lt
            have k6 := k6.alloc (.cells #[.string ⟨#[]⟩, .bool false, .string ⟨#[]⟩, .string ⟨#[]⟩, .bool false, .string ⟨#[]⟩, .bool false, .string ⟨#[]⟩] 36)
            have hSwz65 : (fun W => W.cell? ⟨bk, o, none⟩ = some (.string ⟨x.toArray⟩) ∧ W.cell? ⟨bk, o + 1, none⟩ = some (.string ⟨y.toArray⟩)) (World.alloc wz59 (.cells #[.string ⟨#[]⟩, .bool false, .string ⟨#[]⟩, .string ⟨#[]⟩, .bool false, .string ⟨#[]⟩, .bool false, .string ⟨#[]⟩] 36)) := ⟨(Bwz65.cell (p := ⟨bk, o, none⟩) hbk).trans hc, (Bwz65.cell (p := ⟨bk, o + 1, none⟩) hbk).trans hcy⟩
            refine hK.out _ _ hSwz65 ?_
            clear hK K
            (try simp only [Act.put])
            generalize World.alloc wz59 _ = wz65 at Bwz65 k5x k6 hSwz65 ⊢
            have k5 := k5x
            refine GoesG.one (j := 3) (by kernel_rfl) rfl (by decide) (fun K hK => ?_)
            go_simp
            with_reducible refine (hRx wz65 (hgd.next Bwz65)).mono ?_
            rintro e wz66 ⟨rfl, bwz66⟩
            have Bwz66 := Bwz65.trans (bwz66.mono Bwz65.size)
            have hSwz66 : (fun W => W.cell? ⟨bk, o, none⟩ = some (.string ⟨x.toArray⟩) ∧ W.cell? ⟨bk, o + 1, none⟩ = some (.string ⟨y.toArray⟩)) wz66 := ⟨(Bwz66.cell (p := ⟨bk, o, none⟩) hbk).trans hc, (Bwz66.cell (p := ⟨bk, o + 1, none⟩) hbk).trans hcy⟩
            have k6 := k6.next bwz66 k6.lt
            have k5 := k5.next bwz66 k5.lt
            refine hK.out _ _ hSwz66 ?_
            clear hK K
            (try simp only [Act.put])
            clear bwz66
            refine GoesG.one (j := 7) (by kernel_rfl) rfl (by decide) (fun K hK => ?_)
            go_simp
            with_reducible refine (hRy wz66 (hgd.next Bwz66)).mono ?_
            rintro e wz67 ⟨rfl, bwz67⟩
            have Bwz67 := Bwz66.trans (bwz67.mono Bwz66.size)
            have hSwz67 : (fun W => W.cell? ⟨bk, o, none⟩ = some (.string ⟨x.toArray⟩) ∧ W.cell? ⟨bk, o + 1, none⟩ = some (.string ⟨y.toArray⟩)) wz67 := ⟨(Bwz67.cell (p := ⟨bk, o, none⟩) hbk).trans hc, (Bwz67.cell (p := ⟨bk, o + 1, none⟩) hbk).trans hcy⟩
            have k6 := k6.next bwz67 k6.lt
            have k5 := k5.next bwz67 k5.lt
            refine hK.out _ _ hSwz67 ?_
            clear hK K
            (try simp only [Act.put])
            clear bwz67
            have k5c := k5.cell
            have k5f := k5.free
            refine GoesG.one (j := 10) (by kernel_rfl) rfl (by decide) (fun K hK => ?_)
            go_simp
            have k5b := Blk.setA k5 ax
            have B8 := below_setA Bwz67 hgek5 ax
            have hS8 := And.intro ((B8.cell (p := ⟨bk, o, none⟩) hbk).trans hc) ((B8.cell (p := ⟨bk, o + 1, none⟩) hbk).trans hcy)
            refine hK.out _ _ hS8 ?_
            clear hK K
            (try simp only [Act.put])
            have k6b := blk_setA k6 (a := _) (by first | exact Nat.ne_of_lt hne56 | exact Nat.ne_of_gt hne56) ax
            have k6c := k6b.cell
            have k6f := k6b.free
            refine GoesG.stop (by kernel_rfl) rfl (fun K hK => ?_)
            go_simp
            refine hK.out _ _ ?_
            clear hK K
            refine wpAny_done (by kernel_rfl) ?_ _
            go_wp2_with fail
            go_meet
            exact ⟨_, _, rfl, rfl, blk_setA k5b (by first | exact Nat.ne_of_lt hne56 | exact Nat.ne_of_gt hne56) ay, Blk.setA k6b ay, Bd.trans ((below_setA B8 hgek6 ay).mono Bd.size)⟩
      case rest =>
      obtain ⟨b5, b6, rfl, rfl, k5, k6, BX⟩ := hcut
      obtain ⟨wx, rfl⟩ : ∃ x : World, x = wc := ⟨_, rfl⟩
      have hgx := hg.next BX
      have k5c := k5.cell
      have k6c := k6.cell
      have hRes := resolve_any ax ay wx (by unfold Addr.len at hax; omega) (by unfold Addr.len at hay; omega) hgx.r.g
      have hrl := (resolve_len ax ay).1
      have hwl := writeA_len (resolveA ax ay)
      have HN := Lib.hid (show ∀ s, writeA (resolveA ax ay) = s → resolveD [x, y] = .ok (105 :: 115 :: 32 :: s) from fun s hs => by rw [HN.out, ← hs]; rfl)
      have HN := Lib.hid (HN.out _ rfl)
      have hWr := fun W => addrWrite_any (resolveA ax ay) W (by omega)
      generalize writeA (resolveA ax ay) = wa at hWr hwl HN
      generalize resolveA ax ay = r at hRes hrl hwl hWr
      clear hRx hRy hS0
      go_wp2_with fail
      with_reducible refine hRes.mono ?_
      rintro e w4 ⟨rfl, b4⟩
      go_wp2_with fail
      with_reducible refine (hWr _).mono ?_
      rintro e w5 ⟨rfl, b5'⟩
      go_wp2_with fail
      go_ret
      exact ⟨by rw [HN.out]; rfl, (BX.trans (b4.mono BX.size)).trans (b5'.mono (by have := BX.size; have := b4.size; omega))⟩
end Go.Proofs.YtignjjnflcpiiaaGreatDoor
