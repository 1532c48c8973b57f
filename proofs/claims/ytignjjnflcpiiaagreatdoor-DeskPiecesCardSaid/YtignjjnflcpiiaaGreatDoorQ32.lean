/- desk's lead. Condition: what the variables hold; so many bytes. -/
import Derived.Test.YtignjjnflcpiiaaGreatDoorQ31
namespace Go.Proofs.YtignjjnflcpiiaaGreatDoor
open Go Go.RowKit
theorem numN_bd {s : Bs} {n : Int} (h : numN s = some n) : -9223372036854775808 ≤ n ∧ n ≤ 9223372036854775807 := by
  unfold numN at h
  rcases ha : Lib.atoiAll s with v | _ | _
  · rw [ha] at h
    simp only at h
    split at h
    · cases h; exact atoiAll_bd ha
    · cases h
  · rw [ha] at h; cases h
  · rw [ha] at h; cases h
theorem leadsB_bd {b : Bnd} {n : Int} {l : List (Bs × Int)} (hin : BndIn b) (h : leadsB b n = some l) : l.length ≤ 60002 ∧ ∀ x ∈ l, x.1.length ≤ 2400000 ∧ -9223372036854775808 ≤ x.2 ∧ x.2 ≤ 9223372036854775807 := by
  unfold leadsB at h
  split at h
  · cases h
  · cases h1 : b.whole.parts[n.toNat]? with
    | none => rw [h1] at h; cases h
    | some p =>
      cases h2 : b.places[n.toNat]? with
      | none => rw [h1, h2] at h; cases h
      | some a =>
        rw [h1, h2] at h
        cases h
        have hp := hin.whole.part (List.mem_of_getElem? h1)
        have ha := hin.placeL a (List.mem_of_getElem? h2)
        have hb := hp.fl.2
        have hv := linksT_val p.body
        have hn := (linksT_lies p.body).2
        refine ⟨?_, fun x hx => ⟨?_, leadsAt_bd hin p a x hx⟩⟩
        · rcases leadsAt_len b p a with e | e
          · rw [e]; simp
          · omega
        · unfold leadsAt at hx
          split at hx
          · obtain ⟨y, hy, rfl⟩ := List.mem_map.1 hx
            have h3 := hv y hy
            unfold leadOf
            cases hr : readA y.2.2 with
            | none => simp only; omega
            | some r =>
              have h4 := readA_len hr
              have h5 := (resolve_len a r).1
              have h6 := writeA_len (resolveA a r)
              simp only
              omega
          · cases hx
set_option maxHeartbeats 16000000 in
set_option maxRecDepth 100000 in
theorem dlead_any (X : Nat → Prop) (d : Nat) (dk : Dsk) (v : Value) (l : List Bs) (w : World) (hD : DeskM X w d dk) (h : RdW w v l) (hx : ∀ x ∈ l, x.length ≤ 1000000) (hg : Gz w) (hn : l.length ≤ 1000000) :
    Calls Tryz.prog 228 #[.pointer (some ⟨d, 0, none⟩), v] w fun e w' => AnsOr (leadD dk l) e ∧ Below w.heap.size w w' := by
  obtain ⟨bk, o, c, rfl, hbk, _, hcl⟩ := h
  by_cases h0 : l.length = 1
  case neg =>
    have HN := Lib.hid (show leadD dk l = .error 3 from by unfold leadD; rw [if_pos h0])
    have hW := words_no (some ⟨bk, o, none⟩) l.length c 1 (by rw [beq_eq_false_iff_ne]; omega) w hg.r
    unfold thrown at hW
    clear h0
    go_enter Tryz.func228, Tryz.ntmps228
    go_wp2_with fail
    with_reducible refine hW.mono ?_
    rintro e w1 ⟨rfl, b1⟩
    go_wp2_with fail
    exact ⟨rfl, by rw [HN.out]; rfl, b1⟩
  obtain ⟨x, rfl⟩ := List.length_eq_one_iff.1 h0
  have hW := fun W => words_ok (some ⟨bk, o, none⟩) 1 c 1 rfl W
  have hc := hcl 0 x rfl
  have hxl := hx x (by simp)
  have HF := Lib.hid (show leadD dk [x] = match dk.bundle with
    | none => .error 7
    | some b => match numN x with
      | none => .error 3
      | some n => match leadsB b n with
        | none => .error 2
        | some l => .ok (108 :: 101 :: 97 :: 100 :: 115 :: 32 :: commaT (l.map leadT)) from rfl)
  rw [Nat.add_zero] at hc
  clear h0 hcl hx
  have hcd : w.drew.cell? ⟨bk, o, none⟩ = some (.string ⟨x.toArray⟩) := hc
  have hgd : Gz w.drew := hg.next (Below.refl w.heap.size w).drew
  have hDd : DeskM X w.drew d dk := hD.next (Below.refl w.heap.size w).drew
  have Bd := (Below.refl w.heap.size w).drew
  go_enter Tryz.func228, Tryz.ntmps228
  go_wp2_with fail
  with_reducible refine (hW _).mono ?_
  rintro e w0 ⟨rfl, rfl⟩
  go_upto_region 2 with fail
  refine wp_region_stop 11 (fun W => W.cell? ⟨bk, o, none⟩ = some (.string ⟨x.toArray⟩)) (by kernel_rfl) ?_
  have hS0 : (fun W => W.cell? ⟨bk, o, none⟩ = some (.string ⟨x.toArray⟩)) w.drew := hcd
  refine GoesG.takeU (i := 0) (v := ?_) rfl (by kernel_rfl) (by kernel_rfl) (by kernel_rfl) (by decide) (fun _ _ _ h => h) (Or.inl ⟨by rfl, ?_⟩) hS0 ?_
  rotate_left
  · (intro W; go_simp; try with_reducible rfl)
  (try simp only [Act.put])
  refine GoesG.takeU (i := 2) (v := ?_) rfl (by kernel_rfl) (by kernel_rfl) (by kernel_rfl) (by decide) (fun _ _ _ h => h) (Or.inl ⟨by rfl, ?_⟩) hS0 ?_
  rotate_left
  · (intro W; go_simp; try with_reducible rfl)
  (try simp only [Act.put])
  refine GoesG.takeU (i := 3) (v := ?_) rfl (by kernel_rfl) (by kernel_rfl) (by kernel_rfl) (by decide) (fun _ _ _ h => h) (Or.inl ⟨by rfl, ?_⟩) hS0 ?_
  rotate_left
  · (intro W; go_simp; try with_reducible rfl)
  (try simp only [Act.put])
  refine GoesG.take (i := 4) (v := ?_) rfl (by kernel_rfl) (by kernel_rfl) (by kernel_rfl) (by kernel_rfl) (by decide) (fun _ _ _ h => h) (Or.inl ⟨by rfl, ?_⟩) hS0 ?_
  rotate_left
  · (intro W hSw; (try dsimp only at hSw); go_simp; try with_reducible rfl)
  (try simp only [Act.put])
  refine GoesG.one (j := 1) (by kernel_rfl) rfl (by decide) (fun K hK => ?_)
  go_simp
  cases hb : dk.bundle with
  | none =>
    have HN := Lib.hid (show leadD dk [x] = .error 7 from by rw [HF.out, hb])
    have hI := dis_none d w.drew (hDd.no hb) hgd.r
    unfold thrown at hI
    with_reducible refine hI.mono ?_
    rintro e w1 ⟨rfl, b1⟩
    go_wp2_with fail
    exact ⟨rfl, by rw [HN.out]; rfl, Bd.trans b1⟩
  | some b =>
    obtain ⟨bp, hcb, hRB, hin, _⟩ := hDd.yes hb
    have HF := Lib.hid (show leadD dk [x] = match numN x with
      | none => .error 3
      | some n => match leadsB b n with
        | none => .error 2
        | some l => .ok (108 :: 101 :: 97 :: 100 :: 115 :: 32 :: commaT (l.map leadT)) from by rw [HF.out, hb])
    with_reducible refine (dis_some d bp w.drew hcb).mono ?_
    rintro e w1 ⟨rfl, rfl⟩
    refine hK.out _ _ hS0 ?_
    clear hK K
    (try simp only [Act.put])
    have hNm := number_any x w.drew (by omega) hgd
    refine GoesG.one (j := 5) (by kernel_rfl) rfl (by decide) (fun K hK => ?_)
    go_simp
    cases hr : numN x with
    | none =>
      have HN := Lib.hid (show leadD dk [x] = .error 3 from by rw [HF.out, hr])
      rw [hr] at hNm
      unfold thrown at hNm
      with_reducible refine hNm.mono ?_
      rintro e w2 ⟨rfl, b2⟩
      go_wp2_with fail
      exact ⟨rfl, by rw [HN.out]; rfl, Bd.trans b2⟩
    | some n =>
      have hnb := numN_bd hr
      have HF := Lib.hid (show leadD dk [x] = match leadsB b n with
        | none => .error 2
        | some l => .ok (108 :: 101 :: 97 :: 100 :: 115 :: 32 :: commaT (l.map leadT)) from by rw [HF.out, hr])
      rw [hr] at hNm
      simp only at hNm
      with_reducible refine hNm.mono ?_
      rintro e w2 ⟨rfl, b2⟩
      have hS2 : (fun W => W.cell? ⟨bk, o, none⟩ = some (.string ⟨x.toArray⟩)) w2 := (b2.cell (p := ⟨bk, o, none⟩) (show bk < w.drew.heap.size from hbk)).trans hcd
      refine hK.out _ _ hS2 ?_
      clear hK K
      (try simp only [Act.put])
      have B2 := Bd.trans b2
      have hg2 := hgd.next b2
      have hLd := bleads_any (fun _ => True) bp b n w2 (hRB.next b2) hin hg2.r hnb.1 hnb.2
      have hlb := fun l (h : leadsB b n = some l) => leadsB_bd hin h
      generalize leadsB b n = ld at hLd HF hlb
      clear hr hNm hcb hRB hDd hD
      refine GoesG.one (j := 6) (by kernel_rfl) rfl (by decide) (fun K hK => ?_)
      go_simp
      with_reducible refine hLd.mono ?_
      rintro e w3 ⟨hh, b3⟩
      have hS3 : (fun W => W.cell? ⟨bk, o, none⟩ = some (.string ⟨x.toArray⟩)) w3 := (b3.cell (p := ⟨bk, o, none⟩) (Nat.lt_of_lt_of_le hbk B2.size)).trans hS2
      have B3 := B2.trans (b3.mono B2.size)
      have hg3 := hg2.next b3
      clear hLd
      rcases hh with ⟨L, vL, rfl, rfl, hownL⟩ | ⟨rfl, rfl⟩
      case inr =>
        have HN := Lib.hid (show leadD dk [x] = .error 2 from HF.out)
        have hM := must_err (.iface 30 (.int .i64 2)) 2 w3 (Or.inl rfl) hg3.r
        unfold thrown at hM
        refine hK.out _ _ hS3 ?_
        clear hK K
        (try simp only [Act.put])
        refine GoesG.takeU (i := 7) (v := ?_) rfl (by kernel_rfl) (by kernel_rfl) (by kernel_rfl) (by decide) (fun _ _ _ h => h) (Or.inl ⟨by rfl, ?_⟩) hS3 ?_
        rotate_left
        · (intro W; go_simp; try with_reducible rfl)
        (try simp only [Act.put])
        refine GoesG.takeU (i := 8) (v := ?_) rfl (by kernel_rfl) (by kernel_rfl) (by kernel_rfl) (by decide) (fun _ _ _ h => h) (Or.inl ⟨by rfl, ?_⟩) hS3 ?_
        rotate_left
        · (intro W; go_simp; try with_reducible rfl)
        (try simp only [Act.put])
        refine GoesG.takeU (i := 9) (v := ?_) rfl (by kernel_rfl) (by kernel_rfl) (by kernel_rfl) (by decide) (fun _ _ _ h => h) (Or.inl ⟨by rfl, ?_⟩) hS3 ?_
        rotate_left
        · (intro W; go_simp; try with_reducible rfl)
        (try simp only [Act.put])
        refine GoesG.takeU (i := 10) (v := ?_) rfl (by kernel_rfl) (by kernel_rfl) (by kernel_rfl) (by decide) (fun _ _ _ h => h) (Or.inl ⟨by rfl, ?_⟩) hS3 ?_
        rotate_left
        · (intro W; go_simp; try with_reducible rfl)
        (try simp only [Act.put])
        refine GoesG.stop (by kernel_rfl) rfl (fun K hK => ?_)
        go_simp
        refine hK.out _ _ ?_
        clear hK K
        refine wpAny_done (by kernel_rfl) ?_ _
        go_wp2_with fail
        with_reducible refine hM.mono ?_
        rintro e w4 ⟨rfl, b4⟩
        go_wp2_with fail
        exact ⟨rfl, by rw [HN.out]; rfl, B3.trans (b4.mono B3.size)⟩
      have HN := Lib.hid (show leadD dk [x] = .ok (108 :: 101 :: 97 :: 100 :: 115 :: 32 :: commaT (L.map leadT)) from HF.out)
      have hlb := hlb L rfl
      have hLB := OwnG.rdB (by decide) ledC_len hownL
      obtain ⟨la, lc, hv2, _⟩ := hLB.rd
      subst hv2
      have hM0 := fun W => must_nil W
      refine hK.out _ _ hS3 ?_
      clear hK K
      (try simp only [Act.put])
      refine GoesG.takeU (i := 7) (v := ?_) rfl (by kernel_rfl) (by kernel_rfl) (by kernel_rfl) (by decide) (fun _ _ _ h => h) (Or.inl ⟨by rfl, ?_⟩) hS3 ?_
      rotate_left
      · (intro W; go_simp; try with_reducible rfl)
      (try simp only [Act.put])
      refine GoesG.takeU (i := 8) (v := ?_) rfl (by kernel_rfl) (by kernel_rfl) (by kernel_rfl) (by decide) (fun _ _ _ h => h) (Or.inl ⟨by rfl, ?_⟩) hS3 ?_
      rotate_left
      · (intro W; go_simp; try with_reducible rfl)
      (try simp only [Act.put])
      refine GoesG.takeU (i := 9) (v := ?_) rfl (by kernel_rfl) (by kernel_rfl) (by kernel_rfl) (by decide) (fun _ _ _ h => h) (Or.inl ⟨by rfl, ?_⟩) hS3 ?_
      rotate_left
      · (intro W; go_simp; try with_reducible rfl)
      (try simp only [Act.put])
      refine GoesG.takeU (i := 10) (v := ?_) rfl (by kernel_rfl) (by kernel_rfl) (by kernel_rfl) (by decide) (fun _ _ _ h => h) (Or.inl ⟨by rfl, ?_⟩) hS3 ?_
      rotate_left
      · (intro W; go_simp; try with_reducible rfl)
      (try simp only [Act.put])
      refine GoesG.stop (by kernel_rfl) rfl (fun K hK => ?_)
      go_simp
      refine hK.out _ _ ?_
      clear hK K
      refine wpAny_done (by kernel_rfl) ?_ _
      go_wp2_with fail
      with_reducible refine (hM0 _).mono ?_
      rintro e w4 ⟨rfl, rfl⟩
      have HLB := Lib.hid hlb.2
      have hLn := hlb.1
      have hs3 := B3.size
      have HB3 := Lib.hid B3
      clear HF hlb hownL hS0 hS2 hS3 hcd hc b2 b3 B2 hgd hg2 hg Bd B3 hM0
      go_wp2_with fail
      go_loopw [7, 26] (fun ov iv wr => ∃ (k : Nat) (out : List Bs), iv = .int .i64 k ∧ k ≤ L.length ∧ out.length ≤ k ∧ OwnT wr w3.heap.size ov out ∧ Hid (out ++ (L.drop k).map leadT = L.map leadT) ∧ Hid (∀ x ∈ out, x.length ≤ 8000000) ∧ Below w3.heap.size w3 wr) (fun _ iv _ => L.length - (intOf iv).toNat)
      case atStart => exact ⟨0, [], rfl, by omega, by simp, OwnG.nil _ _ _ _ _, Lib.hid (by simp), Lib.hid (fun x h => by cases h), Below.refl _ _⟩
      case round =>
        obtain ⟨k, out, rfl, hk, hol, hown, Hall, HO, B⟩ := hrel
        have hsr := B.size
        by_cases hlt : k < L.length
        · obtain ⟨lb, rfl, _, hlb, hcell⟩ := hLB.at ledC_len k hlt
          have e0 := (B.cell (p := ⟨lb, k * 2 + 0, none⟩) hlb).trans (hcell 0 (by decide))
          have e1 := (B.cell (p := ⟨lb, k * 2 + 1, none⟩) hlb).trans (hcell 1 (by decide))
          have hxv := HLB.out _ (List.getElem_mem hlt)
          have HS := Lib.hid (show ∀ y, L[k] = y → (out ++ [leadT y]) ++ (L.drop (k + 1)).map leadT = L.map leadT from fun y hy => by
            rw [← Hall.out, List.drop_eq_getElem_cons hlt, List.map_cons, hy]; simp)
          have HS := Lib.hid (HS.out _ rfl)
          clear hcell Hall
          generalize L[k] = y at e0 e1 hxv HS
          obtain ⟨y1, y2⟩ := y
          simp only [ledC, Nat.add_zero, List.getElem?_cons_zero, List.getElem?_cons_succ] at e0 e1 hxv
          have HLT := Lib.hid (show leadT (y1, y2) = showT y1 ++ 32 :: Lib.itoa y2 from rfl)
          have hI1 := fun W hW => itoa_any y2 hxv.2.1 hxv.2.2 W hW
          have hil1 := Lib.itoa_length_le y2 hxv.2.1 hxv.2.2
          have hSh := fun W => show_any y1 W (by omega)
          have hsl := showT_len y1
          generalize leadT (y1, y2) = lt at HS HLT
          generalize Lib.itoa y2 = i1 at hI1 hil1 HLT
          generalize showT y1 = sx at hSh hsl HLT
          have HNE := Lib.hid (fun e => Nat.lt_irrefl _ (OwnG.own_lt hown wr.heap.size e))
          have BA := (Below.refl wr.heap.size wr).alloc (Nat.le_refl _) (.cells #[.string ⟨y1.toArray⟩, .int .i64 y2] 46)
          have k7 := Blk.new wr #[.string ⟨y1.toArray⟩, .int .i64 y2] 46
          have hown := OwnG.next hown BA
          have B1 := B.trans (BA.mono hsr)
          have hg4 := hg3.next B1
          go_upto_region 8 with fail
          generalize World.alloc _ _ = w5 at BA k7 hown B1 hg4 ⊢
          have k7d := k7.drew.cell
          have HG3 := Lib.hid (show Gz w5.drew from hg4.next (Below.refl w5.heap.size w5).drew)
          have HK7 := Lib.hid (show Blk w5.drew wr.heap.size #[.string ⟨y1.toArray⟩, .int .i64 y2] 46 from k7.drew)
          have HL7 := Lib.hid (show wr.heap.size < w5.drew.heap.size from k7.lt)
          have HOW := Lib.hid hown
          have HB1 := Lib.hid B1
          have z1 : ¬ 9223372036854775807 < sx.length + 1 := by omega
          have z2 : ¬ 9223372036854775807 < sx.length + 1 + i1.length := by omega
          have q1 := Lib.hid (show (out.length + [(sx ++ 32 :: i1 : Bs)].length) * 16 ≤ 140737488355328 from by simp; omega)
          have q2 := Lib.hid (show out.length + [(sx ++ 32 :: i1 : Bs)].length ≤ maxLen from by unfold maxLen; simp; omega)
          have HO2 := Lib.hid (show ∀ x ∈ out ++ [lt], x.length ≤ 8000000 from fun x hx => by
            rcases List.mem_append.1 hx with hx | hx
            · exact HO.out x hx
            · rw [List.mem_singleton.1 hx, HLT.out]
              simp only [List.length_append, List.length_cons]
              omega)
          clear hg4 k7 hown
          go_region_held_law (fun W => ∀ k, W.cell? ⟨wr.heap.size, k, none⟩ = (#[.string ⟨y1.toArray⟩, .int .i64 y2])[k]?)
            (first
              | with_reducible exact k7d
              | with_reducible exact c11
              | with_reducible exact c12
              | with_reducible exact c13
              | with_reducible exact c14)
            ((first
              | (refine stepG (α := Bs) (cs := strC) (size := 1) (z := .string ByteArray.empty) strC_len strC_one1 infoTs rfl (by decide) Tryz.underlying55 rfl _ _ rfl w3.heap.size _ out [(sx ++ 32 :: i1 : Bs)] ⟨w12.heap.size, 0, none⟩ 1 1 rfl (by decide) rfl hown12.out rfl hcell12 q1.out q2.out hbase12.out ?_; intro v' w14 hown14 hg14 hb14; have c14 := (blk_grown k12.out hg14 (fun e => HNE.out e.symm)).cell)
              | (go_simp; with_reducible refine (hSh _).mono ?_; rintro e w11 ⟨rfl, hb11⟩; have K11 := Lib.hid (belowStep hb11 (w0 := w5) ((Below.refl w5.heap.size w5).drew)); have HG11 := Lib.hid (Gz.next HG3.out hb11); have k11 := Lib.hid (Blk.next HK7.out hb11 HL7.out); have c11 := k11.out.cell)
              | (go_simp; with_reducible refine (hI1 _ HG11.out).mono ?_; rintro e w12 ⟨rfl, hb12⟩; have K12 := Lib.hid (belowStep hb12 (w0 := w5) K11.out); have k12x := Lib.hid (Blk.next k11.out hb12 (Blk.lt k11.out)); have c12 := k12x.out.cell; have hown12 := Lib.hid (OwnG.alloc (OwnG.next (w := w5) HOW.out K12.out) (.cells #[.string ⟨(sx ++ 32 :: i1 : Bs).toArray⟩] 9)); have hcell12 := cellTx w12 (sx ++ 32 :: i1) 9; have k12 := Lib.hid (k12x.out.alloc (.cells #[.string ⟨(sx ++ 32 :: i1 : Bs).toArray⟩] 9)); have c13 := k12.out.cell; have hbase12 := Lib.hid (show w3.heap.size ≤ (w12.alloc (.cells #[.string ⟨(sx ++ 32 :: i1 : Bs).toArray⟩] 9)).heap.size from by have h1 := K12.out.size; have h2 := HB1.out.size; simp at h1 h2 ⊢; omega))))
          all_goals
            go_wp2_with fail
            go_roundw
            case rel => exact ⟨k + 1, out ++ [lt], by go_num, by omega, by simp; omega, by rw [HLT.out]; exact hown14, HS, HO2, ((HB1.out.trans (K12.out.mono HB1.out.size)).alloc (Nat.le_trans HB1.out.size K12.out.size) _).trans hb14⟩
            case measure => simp [intOf]; omega
        · obtain rfl : k = L.length := by omega
          have HF := Lib.hid (show L.map leadT = out from by rw [← Hall.out, List.drop_length]; simp)
          have hcl := comma_len HO.out
          have hcl2 : (commaT out).length ≤ 3000102000000 := by
            have := Nat.mul_le_mul_right (8000000 + 2) (show out.length ≤ 60002 by omega)
            omega
          have hJ := joinC _ _ out wr hown (by omega) (by omega)
          have HN := Lib.hid (show leadD dk [x] = .ok (108 :: 101 :: 97 :: 100 :: 115 :: 32 :: commaT out) from by rw [HN.out, HF.out])
          generalize commaT out = ct at hJ HN hcl2
          obtain ⟨oa, oc, hoe, _⟩ := OwnG.rd (by decide) strC_len hown
          subst hoe
          clear hcl Hall HF
          go_wp2_with fail
          with_reducible refine hJ.mono ?_
          rintro e w6 ⟨rfl, b6⟩
          go_wp2_with fail
          go_ret
          exact ⟨by rw [HN.out]; rfl, (HB3.out.trans (B.mono hs3)).trans (b6.mono (by omega))⟩
end Go.Proofs.YtignjjnflcpiiaaGreatDoor
