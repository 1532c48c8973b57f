/- desk's bind, parts. Condition: what the variables hold; so many bytes; A strings.Builder's WriteString that tells what else stands, at an address in a block. Condition: so many bytes; desk's add; a strings.Builder's String and Reset at an address in a block. Condition: what the variables hold; so ma. -/
import Derived.Test.YtignjjnflcpiiaaGreatDoorQ32
namespace Go.Proofs.YtignjjnflcpiiaaGreatDoor
open Go Go.RowKit
set_option maxHeartbeats 8000000 in
set_option maxRecDepth 100000 in
theorem dbind_any (X : Nat → Prop) (d : Nat) (dk : Dsk) (v : Value) (l : List Bs) (w : World) (hD : DeskM X w d dk) (h : RdW w v l) (hg : Gz w) :
    Calls Tryz.prog 223 #[.pointer (some ⟨d, 0, none⟩), v] w fun e w' => AnsOr (bindD dk l) e ∧ Below w.heap.size w w' := by
  obtain ⟨bk, o, c, rfl, _⟩ := h
  by_cases h0 : l.length = 0
  case neg =>
    have HN := Lib.hid (show bindD dk l = .error 3 from by unfold bindD; rw [if_pos h0])
    have hW := words_no (some ⟨bk, o, none⟩) l.length c 0 (by rw [beq_eq_false_iff_ne]; omega) w hg.r
    unfold thrown at hW
    clear h0
    go_enter Tryz.func223, Tryz.ntmps223
    go_wp2_with fail
    with_reducible refine hW.mono ?_
    rintro e w1 ⟨rfl, b1⟩
    go_wp2_with fail
    exact ⟨rfl, by rw [HN.out]; rfl, b1⟩
  have HF := Lib.hid (show bindD dk l = match dk.bundle with
    | none => .error 7
    | some b => match bindB b with
      | .error e => .error e
      | .ok s => .ok (showT s) from by unfold bindD; rw [if_neg (by omega)]; rfl)
  have hW := fun W => words_ok (some ⟨bk, o, none⟩) l.length c 0 (by rw [h0]; rfl) W
  clear h0
  go_enter Tryz.func223, Tryz.ntmps223
  go_wp2_with fail
  with_reducible refine (hW _).mono ?_
  rintro e w0 ⟨rfl, rfl⟩
  cases hb : dk.bundle with
  | none =>
    have HN := Lib.hid (show bindD dk l = .error 7 from by rw [HF.out, hb])
    have hI := dis_none d w (hD.no hb) hg.r
    unfold thrown at hI
    clear hb
    go_wp2_with fail
    with_reducible refine hI.mono ?_
    rintro e w1 ⟨rfl, b1⟩
    go_wp2_with fail
    exact ⟨rfl, by rw [HN.out]; rfl, b1⟩
  | some b =>
    obtain ⟨bp, hcb, hRB, hin, hroot⟩ := hD.yes hb
    have HF := Lib.hid (show bindD dk l = match bindB b with
      | .error e => .error e
      | .ok s => .ok (showT s) from by rw [HF.out, hb])
    have hI := dis_some d bp w hcb
    have hB := bind_any (fun _ => True) bp b w hRB hin hroot hg
    generalize bindB b = rb at hB HF
    clear hb hRB hin hD
    go_wp2_with fail
    with_reducible refine hI.mono ?_
    rintro e w1 ⟨rfl, rfl⟩
    go_wp2_with fail
    with_reducible refine hB.mono ?_
    rintro e w2 ⟨hh, b2⟩
    have hg2 := hg.next b2
    rcases hh with ⟨s, rfl, hsl, rfl⟩ | ⟨n, rfl, rfl⟩
    · have HN := Lib.hid (show bindD dk l = .ok (showT s) from HF.out)
      have hS := fun W => show_any s W (by omega)
      generalize showT s = r at hS HN
      go_wp2_with fail
      with_reducible refine (must_nil _).mono ?_
      rintro e w3 ⟨rfl, rfl⟩
      go_wp2_with fail
      with_reducible refine (hS _).mono ?_
      rintro e w4 ⟨rfl, b4⟩
      go_wp2_with fail
      go_ret
      exact ⟨by rw [HN.out]; rfl, b2.trans (b4.mono b2.size)⟩
    · have HN := Lib.hid (show bindD dk l = .error n from HF.out)
      have hM := must_err (.iface 30 (.int .i64 n)) n w2 (Or.inl rfl) hg2.r
      unfold thrown at hM
      go_wp2_with fail
      with_reducible refine hM.mono ?_
      rintro e w3 ⟨rfl, b3⟩
      go_wp2_with fail
      exact ⟨rfl, by rw [HN.out]; rfl, b2.trans (b3.mono b2.size)⟩
set_option maxHeartbeats 16000000 in
set_option maxRecDepth 100000 in
theorem dparts_any (X : Nat → Prop) (d : Nat) (dk : Dsk) (v : Value) (l : List Bs) (w : World) (hD : DeskM X w d dk) (h : RdW w v l) (hg : Gz w) :
    Calls Tryz.prog 232 #[.pointer (some ⟨d, 0, none⟩), v] w fun e w' => AnsOr (partsD dk l) e ∧ Below w.heap.size w w' := by
  obtain ⟨bk, o, c, rfl, _⟩ := h
  by_cases h0 : l.length = 0
  case neg =>
    have HN := Lib.hid (show partsD dk l = .error 3 from by unfold partsD; rw [if_pos h0])
    have hW := words_no (some ⟨bk, o, none⟩) l.length c 0 (by rw [beq_eq_false_iff_ne]; omega) w hg.r
    unfold thrown at hW
    clear h0
    go_enter Tryz.func232, Tryz.ntmps232
    go_wp2_with fail
    with_reducible refine hW.mono ?_
    rintro e w1 ⟨rfl, b1⟩
    go_wp2_with fail
    exact ⟨rfl, by rw [HN.out]; rfl, b1⟩
  have HF := Lib.hid (show partsD dk l = match dk.bundle with
    | none => .error 7
    | some b => .ok (112 :: 97 :: 114 :: 116 :: 115 :: 32 :: commaT (b.whole.parts.map partT1)) from by unfold partsD; rw [if_neg (by omega)]; rfl)
  have hW := fun W => words_ok (some ⟨bk, o, none⟩) l.length c 0 (by rw [h0]; rfl) W
  clear h0
  go_enter Tryz.func232, Tryz.ntmps232
  go_wp2_with fail
  with_reducible refine (hW _).mono ?_
  rintro e w0 ⟨rfl, rfl⟩
  cases hb : dk.bundle with
  | none =>
    have HN := Lib.hid (show partsD dk l = .error 7 from by rw [HF.out, hb])
    have hI := dis_none d w (hD.no hb) hg.r
    unfold thrown at hI
    clear hb
    go_wp2_with fail
    with_reducible refine hI.mono ?_
    rintro e w1 ⟨rfl, b1⟩
    go_wp2_with fail
    exact ⟨rfl, by rw [HN.out]; rfl, b1⟩
  | some b =>
    obtain ⟨bp, hcb, hRB, hin, _⟩ := hD.yes hb
    have HN := Lib.hid (show partsD dk l = .ok (112 :: 97 :: 114 :: 116 :: 115 :: 32 :: commaT (b.whole.parts.map partT1)) from by rw [HF.out, hb])
    have hI := dis_some d bp w hcb
    have hP := parts_any (fun _ => True) bp b w hRB hin.whole
    have HPS := Lib.hid (fun q (hq : q ∈ b.whole.parts) => (hin.whole.part hq).fl)
    have hpn := hin.whole.head.2.2
    generalize b.whole.parts = ps at hP HN HPS hpn
    clear hb hRB hin hD HF
    go_wp2_with fail
    with_reducible refine hI.mono ?_
    rintro e w1 ⟨rfl, rfl⟩
    go_wp2_with fail
    with_reducible refine hP.mono ?_
    rintro e w2 ⟨⟨v2, raws, rfl, hownP, hrl, hch⟩, b2⟩
    have hg2 := hg.next b2
    have hs2 := b2.size
    have hLB := OwnG.rdB (by decide) prtC_len hownP
    obtain ⟨la, lc, hv2, _⟩ := hLB.rd
    subst hv2
    have HCH := Lib.hid hch
    have hrl1 : raws.length ≤ ps.length := Nat.le_of_eq hrl
    have hrl2 : ps.length ≤ raws.length := Nat.le_of_eq hrl.symm
    clear hch hownP hrl hP hI
    go_wp2_with fail
    go_loopw [5, 14] (fun ov iv wr => ∃ (k : Nat) (out : List Bs), iv = .int .i64 k ∧ k ≤ raws.length ∧ out.length ≤ k ∧ OwnT wr w2.heap.size ov out ∧ Hid (out ++ (ps.drop k).map partT1 = ps.map partT1) ∧ Hid (∀ x ∈ out, x.length ≤ 200000) ∧ Below w2.heap.size w2 wr) (fun _ iv _ => raws.length - (intOf iv).toNat)
    case atStart => exact ⟨0, [], rfl, by omega, by simp, OwnG.nil _ _ _ _ _, Lib.hid (by simp), Lib.hid (fun x h => by cases h), Below.refl _ _⟩
    case round =>
      obtain ⟨k, out, rfl, hk, hol, hown, Hall, HO, B⟩ := hrel
      have hsr := B.size
      by_cases hlt : k < raws.length
      · obtain ⟨lb, rfl, _, hlb, hcell⟩ := hLB.at prtC_len k hlt
        have hkp : k < ps.length := by omega
        have e0 := (B.cell (p := ⟨lb, k * 4 + 0, none⟩) hlb).trans (hcell 0 (by decide))
        have e1 := (B.cell (p := ⟨lb, k * 4 + 1, none⟩) hlb).trans (hcell 1 (by decide))
        have e2 := (B.cell (p := ⟨lb, k * 4 + 2, none⟩) hlb).trans (hcell 2 (by decide))
        have e3 := (B.cell (p := ⟨lb, k * 4 + 3, none⟩) hlb).trans (hcell 3 (by decide))
        have hq := HCH.out k hlt hkp
        have hfl := HPS.out _ (List.getElem_mem hkp)
        have HS := Lib.hid (show ∀ y, ps[k] = y → (out ++ [partT1 y]) ++ (ps.drop (k + 1)).map partT1 = ps.map partT1 from fun y hy => by
          rw [← Hall.out, List.drop_eq_getElem_cons hkp, List.map_cons, hy]; simp)
        have HS := Lib.hid (HS.out _ rfl)
        clear hcell Hall
        generalize ps[k] = q at hq hfl HS
        generalize raws[k] = raw at hq e0 e1 e2 e3
        have hqb := hq.body
        have hqh := hq.hd.rd
        obtain ⟨⟨qa, qn, qc⟩, qb, qm, ⟨qa', qn', qc'⟩⟩ := raw
        simp only [slv] at hqb hqh
        have hqn : qn = q.head.length := by
          obtain ⟨a, c, e, _⟩ := hqh
          injection e
        subst hqb hqn
        simp only [prtC, slv, Nat.add_zero, List.getElem?_cons_zero, List.getElem?_cons_succ] at e0 e1 e2 e3
        have HLT := Lib.hid (show partT1 q = Lib.itoa q.head.length ++ 32 :: showT q.body from rfl)
        have hfl1 := hfl.1.1
        have hfl2 := hfl.2
        have hI1 := fun W hW => itoa_any (q.head.length : Int) (by omega) (by omega) W hW
        have hil1 := Lib.itoa_length_le (q.head.length : Int) (by omega) (by omega)
        have hSh := fun W => show_any q.body W (by omega)
        have hsl := showT_len q.body
        clear hq hqh hfl
        generalize partT1 q = lt at HS HLT
        generalize Lib.itoa (q.head.length : Int) = i1 at hI1 hil1 HLT
        generalize showT q.body = sx at hSh hsl HLT
        generalize q.head.length = hn at e0 hfl1 hI1 ⊢
        generalize q.body = qb at e1 hfl2 hSh hsl ⊢
        have HNE := Lib.hid (fun e => Nat.lt_irrefl _ (OwnG.own_lt hown wr.heap.size e))
        have BA := (Below.refl wr.heap.size wr).alloc (Nat.le_refl _) (.cells #[.slice qa hn qc, .string ⟨qb.toArray⟩, .bool qm, .slice qa' qn' qc'] 44)
        have k7 := Blk.new wr #[.slice qa hn qc, .string ⟨qb.toArray⟩, .bool qm, .slice qa' qn' qc'] 44
        have hown := OwnG.next hown BA
        have B1 := B.trans (BA.mono hsr)
        have hg4 := hg2.next B1
        go_upto_region 6 with fail
        generalize World.alloc _ _ = w5 at BA k7 hown B1 hg4 ⊢
        have k7d := k7.drew.cell
        have HG3 := Lib.hid (show Gz w5.drew from hg4.next (Below.refl w5.heap.size w5).drew)
        have HK7 := Lib.hid (show Blk w5.drew wr.heap.size #[.slice qa hn qc, .string ⟨qb.toArray⟩, .bool qm, .slice qa' qn' qc'] 44 from k7.drew)
        have HL7 := Lib.hid (show wr.heap.size < w5.drew.heap.size from k7.lt)
        have HOW := Lib.hid hown
        have HB1 := Lib.hid B1
        have z1 : ¬ 9223372036854775807 < i1.length + 1 := by omega
        have z2 : ¬ 9223372036854775807 < i1.length + 1 + sx.length := by omega
        have q1 := Lib.hid (show (out.length + [(i1 ++ 32 :: sx : Bs)].length) * 16 ≤ 140737488355328 from by simp; omega)
        have q2 := Lib.hid (show out.length + [(i1 ++ 32 :: sx : Bs)].length ≤ maxLen from by unfold maxLen; simp; omega)
        have HO2 := Lib.hid (show ∀ x ∈ out ++ [lt], x.length ≤ 200000 from fun x hx => by
          rcases List.mem_append.1 hx with hx | hx
          · exact HO.out x hx
          · rw [List.mem_singleton.1 hx, HLT.out]
            simp only [List.length_append, List.length_cons]
            omega)
        clear hg4 k7 hown
        go_region_held_law (fun W => ∀ k, W.cell? ⟨wr.heap.size, k, none⟩ = (#[.slice qa hn qc, .string ⟨qb.toArray⟩, .bool qm, .slice qa' qn' qc'])[k]?)
          (first
            | with_reducible exact k7d
            | with_reducible exact c11
            | with_reducible exact c12
            | with_reducible exact c13
            | with_reducible exact c14)
          ((first
            | (refine stepG (α := Bs) (cs := strC) (size := 1) (z := .string ByteArray.empty) strC_len strC_one1 infoTs rfl (by decide) Tryz.underlying55 rfl _ _ rfl w2.heap.size _ out [(i1 ++ 32 :: sx : Bs)] ⟨w12.heap.size, 0, none⟩ 1 1 rfl (by decide) rfl hown12.out rfl hcell12 q1.out q2.out hbase12.out ?_; intro v' w14 hown14 hg14 hb14; have c14 := (blk_grown k12.out hg14 (fun e => HNE.out e.symm)).cell)
            | (go_simp; with_reducible refine (hI1 _ HG3.out).mono ?_; rintro e w11 ⟨rfl, hb11⟩; have K11 := Lib.hid (belowStep hb11 (w0 := w5) ((Below.refl w5.heap.size w5).drew)); have k11 := Lib.hid (Blk.next HK7.out hb11 HL7.out); have c11 := k11.out.cell)
            | (go_simp; with_reducible refine (hSh _).mono ?_; rintro e w12 ⟨rfl, hb12⟩; have K12 := Lib.hid (belowStep hb12 (w0 := w5) K11.out); have k12x := Lib.hid (Blk.next k11.out hb12 (Blk.lt k11.out)); have c12 := k12x.out.cell; have hown12 := Lib.hid (OwnG.alloc (OwnG.next (w := w5) HOW.out K12.out) (.cells #[.string ⟨(i1 ++ 32 :: sx : Bs).toArray⟩] 9)); have hcell12 := cellTx w12 (i1 ++ 32 :: sx) 9; have k12 := Lib.hid (k12x.out.alloc (.cells #[.string ⟨(i1 ++ 32 :: sx : Bs).toArray⟩] 9)); have c13 := k12.out.cell; have hbase12 := Lib.hid (show w2.heap.size ≤ (w12.alloc (.cells #[.string ⟨(i1 ++ 32 :: sx : Bs).toArray⟩] 9)).heap.size from by have h1 := K12.out.size; have h2 := HB1.out.size; simp at h1 h2 ⊢; omega))))
        all_goals
          go_wp2_with fail
          go_roundw
          case rel => exact ⟨k + 1, out ++ [lt], by go_num, by omega, by simp; omega, by rw [HLT.out]; exact hown14, HS, HO2, ((HB1.out.trans (K12.out.mono HB1.out.size)).alloc (Nat.le_trans HB1.out.size K12.out.size) _).trans hb14⟩
          case measure => simp [intOf]; omega
      · have HF := Lib.hid (show ps.map partT1 = out from by
          rw [← Hall.out, List.drop_eq_nil_of_le (by omega)]; simp)
        obtain rfl : k = raws.length := by omega
        have hcl := comma_len HO.out
        have hcl2 : (commaT out).length ≤ 3000102000000 := by
          have := Nat.mul_le_mul_right (200000 + 2) (show out.length ≤ 60002 by omega)
          omega
        have hJ := joinC _ _ out wr hown (by omega) (by omega)
        have HN := Lib.hid (show partsD dk l = .ok (112 :: 97 :: 114 :: 116 :: 115 :: 32 :: commaT out) from by rw [HN.out, HF.out])
        generalize commaT out = ct at hJ HN hcl2
        obtain ⟨oa, oc, hoe, _⟩ := OwnG.rd (by decide) strC_len hown
        subst hoe
        clear hcl Hall HF
        go_wp2_with fail
        with_reducible refine hJ.mono ?_
        rintro e w6 ⟨rfl, b6⟩
        go_wp2_with fail
        go_ret
        exact ⟨by rw [HN.out]; rfl, (b2.trans (B.mono hs2)).trans (b6.mono (by omega))⟩
theorem infoBldr : (Tryz.prog.info? 128).map (·.size) = some 2 := by kernel_rfl
theorem appBS2 {Q : Exit → Act → World → Prop} {ops : Array Oper} {rest : List Oper} {o : Oper} {a : Act} {w : World} (hgd : o.guard = none) (s x : Operand)
    (ho : o.op = .call { callee := .builtin .append, args := #[s, x], argTypes := #[126, 9] }) (B : Nat) (v : Value) (l ys : Bs)
    (hs : a.eval s = v) (hown : OwnB w B v l) (hx : a.eval x = .string ⟨ys.toArray⟩) (hn : l.length + ys.length ≤ 140737488355328) (hbase : B ≤ w.heap.size)
    (h : ∀ v' w', OwnB w' B v' (l ++ ys) → w.grownBy w' v.ownBlock → (v'.ownBlock = v.ownBlock ∨ ∀ g, v'.ownBlock = some g → w.heap.size ≤ g) → wpList Tryz.prog ops Q rest (a.put o.dst v') w') : wpList Tryz.prog ops Q (o :: rest) a w := by
  obtain ⟨i0, hi, hz0, hz1, hz2⟩ := info_parts infoByte
  have e1 : Lib.byteCells l ++ Lib.strCells ⟨ys.toArray⟩ = Lib.byteCells (l ++ ys) := by simp [Lib.byteCells, Lib.strCells]
  have h2 : w.ownsRow B 5 1 v l.length (l.flatMap fun c : UInt8 => [Value.int .u8 (c.toNat : Int)]) := hown
  refine wpList_plain hgd fun K hK => ?_
  obtain ⟨v', w', hr, h3, h4, _⟩ := Lib.run_append_own_string (P := Tryz.prog) w B 126 9 o.type 5 i0 Tryz.underlying126 Tryz.underlying9 hi hz0 hz1 hz2 v l.length _ h2 ⟨ys.toArray⟩ (show l.length + ys.length ≤ maxLen by unfold maxLen; omega) (show l.length + ys.length ≤ 140737488355328 from hn) hbase
  have hloc : v'.ownBlock = v.ownBlock ∨ ∀ g, v'.ownBlock = some g → w.heap.size ≤ g := by
    rcases h2.2 with ⟨hv, h0⟩ | ⟨g, cap, cur, hv, hbg, hg, hnc, hcm, hcs, htake⟩
    · right
      have h5 : w.ownsRow w.heap.size 5 1 v l.length (l.flatMap fun c : UInt8 => [Value.int .u8 (c.toNat : Int)]) := ⟨h2.1, Or.inl ⟨hv, h0⟩⟩
      obtain ⟨v2, w2, hr2, h6, _⟩ := Lib.run_append_own_string (P := Tryz.prog) w w.heap.size 126 9 o.type 5 i0 Tryz.underlying126 Tryz.underlying9 hi hz0 hz1 hz2 v l.length _ h5 ⟨ys.toArray⟩ (show l.length + ys.length ≤ maxLen by unfold maxLen; omega) (show l.length + ys.length ≤ 140737488355328 from hn) (Nat.le_refl _)
      rw [hr] at hr2
      injection hr2 with hr2 _
      subst hr2
      intro g hg
      rcases h6.2 with ⟨h7, _⟩ | ⟨g', _, _, h7, h8, _⟩
      · rw [h7] at hg; cases hg
      · rw [h7] at hg
        injection hg with hg
        subst hg
        exact h8
    · subst hv
      by_cases hroom : l.length + (⟨ys.toArray⟩ : ByteArray).size ≤ cap
      · have hr2 := Lib.run_append_room_string (P := Tryz.prog) w 126 9 o.type 5 i0 Tryz.underlying126 Tryz.underlying9 hi hz1 g l.length cap cur hg ⟨ys.toArray⟩ hroom (by omega)
        rw [hr] at hr2
        injection hr2 with hr2 _
        left
        rw [hr2]; rfl
      · have hr2 := Lib.run_append_grow_string (P := Tryz.prog) w 126 9 o.type 5 i0 (.int .u8 0) Tryz.underlying126 Tryz.underlying9 hi hz0 ⟨g, 0, none⟩ l.length cap (l.flatMap fun c : UInt8 => [Value.int .u8 (c.toNat : Int)]) (by rw [hz1]; exact h2.1) (h2.cells (g := g) rfl) ⟨ys.toArray⟩ (by omega) (by show ((l.length + ys.length : Nat) : Int) ≤ _; omega) (by rw [hz2]; exact growslice_fits (by omega) (by show (l.length + ys.length) * 1 ≤ _; omega))
        rw [hr] at hr2
        injection hr2 with hr2 _
        right
        rw [hr2]
        intro g' hg'
        injection hg' with hg'
        simp only at hg'
        omega
  unfold Oper.wp execOp
  simp only [ho, resolve, invoke, builtin, Sem.run_bind, Sem.run_pure, Result.andThen_ok, List.map_toArray, List.map_cons, List.map_nil, hs, hx, hr]
  refine hK _ _ (h v' w' ?_ h4 hloc)
  unfold OwnB OwnG
  rw [bytes_flat, ← e1, List.length_append, ← bytes_flat l]
  exact h3
theorem lies_said : liesAt Tryz.prog Tryz.prog.depth 130 (3 / Tryz.prog.cellsOf 130) 1 128 1 = true := by kernel_rfl
set_option maxHeartbeats 4000000 in
set_option maxRecDepth 100000 in
theorem cc_used_said (d : Nat) (w : World) (h0 : w.cell? ⟨d, 1, none⟩ = some (.pointer (some ⟨d, 1, none⟩))) :
    Calls Tryz.prog 130 #[.pointer (some ⟨d, 1, none⟩)] w fun e w' => e = .returned (.tuple #[]) ∧ w = w' := by
  obtain ⟨j, hj, _⟩ := Option.map_eq_some_iff.1 infoBldr
  go_enter Tryz.func130, Tryz.ntmps130
  go_wp2_with fail
  rw [Lib.run_neq_ptr_same w _ Tryz.underlying125 hj]
  go_wp2_with fail
  go_end0
  exact ⟨rfl, rfl⟩
set_option maxHeartbeats 4000000 in
set_option maxRecDepth 100000 in
theorem cc_fresh_said (d : Nat) (w : World) (h0 : w.cell? ⟨d, 1, none⟩ = some (.pointer none)) (hsh : w.shape? d = some (130, 3)) (hfz : w.frozen? ⟨d, 1, none⟩ = false) :
    Calls Tryz.prog 130 #[.pointer (some ⟨d, 1, none⟩)] w fun e w' => e = .returned (.tuple #[]) ∧ w.setCell ⟨d, 1, none⟩ (.pointer (some ⟨d, 1, none⟩)) = w' := by
  obtain ⟨j, hj, hjs⟩ := Option.map_eq_some_iff.1 infoBldr
  go_enter Tryz.func130, Tryz.ntmps130
  go_wp2_with fail
  rw [Lib.run_to_unsafe w ⟨d, 1, none⟩ Tryz.underlying125 Tryz.underlying174 hj (by rw [hjs]; decide) hsh (by show (1 : Nat) < 3; decide)]
  simp only [Result.andThen]
  rw [Oper.upon_value]
  go_wp2_with fail
  rw [run_callFunc_extern Tryz.func220 (by kernel_rfl) (by kernel_rfl) (by kernel_rfl) (e := Extern.AbiNoEscape.same) (by kernel_rfl)]
  rw [Lib.run_noEscape]
  simp only [Result.andThen]
  rw [Oper.upon_value]
  go_wp2_with fail
  rw [Lib.run_from_unsafe w ⟨d, 1, none⟩ Tryz.underlying174 Tryz.underlying125 hj hsh lies_said]
  simp only [Result.andThen]
  rw [Oper.upon_value]
  go_wp2_with fail
  go_end0
  exact ⟨rfl, rfl⟩
theorem cc_said (d : Nat) (bptr self v : Value) (w : World) (hk : Blk w d #[bptr, self, v] 130) (hself : self = .pointer none ∨ self = .pointer (some ⟨d, 1, none⟩)) :
    Calls Tryz.prog 130 #[.pointer (some ⟨d, 1, none⟩)] w fun e w' => e = .returned (.tuple #[]) ∧ Blk w' d #[bptr, .pointer (some ⟨d, 1, none⟩), v] 130 ∧ KeepX (fun k => k ≠ d) w w' := by
  rcases hself with rfl | rfl
  · refine (cc_fresh_said d w (hk.cell 1) (by simp [World.shape?, show w.heap[d]? = _ from hk]) (hk.free 1)).mono ?_
    rintro e w' ⟨rfl, rfl⟩
    refine ⟨rfl, ?_, rfl, rfl, rfl, by simp [World.setCell], fun k hk => heap_set _ _ _ k (by simpa using hk)⟩
    have := hk.set 1 (.pointer (some ⟨d, 1, none⟩))
    simpa using this
  · refine (cc_used_said d w (hk.cell 1)).mono ?_
    rintro e w' ⟨rfl, rfl⟩
    exact ⟨rfl, hk, rfl, rfl, rfl, Nat.le_refl _, fun k _ => rfl⟩
set_option maxHeartbeats 8000000 in
set_option maxRecDepth 100000 in
theorem wrs_said (d : Nat) (bptr self v : Value) (said s : Bs) (w : World) (hk : Blk w d #[bptr, self, v] 130) (hself : self = .pointer none ∨ self = .pointer (some ⟨d, 1, none⟩)) (hown : OwnB w 0 v said) (hne : v.ownBlock ≠ some d) (hlen : said.length + s.length ≤ 140737488355328) :
    Calls Tryz.prog 78 #[.pointer (some ⟨d, 1, none⟩), .string ⟨s.toArray⟩] w fun e w' => e = .returned (.tuple #[.int .i64 (s.length : Int), .nilIface]) ∧ ∃ v', Blk w' d #[bptr, .pointer (some ⟨d, 1, none⟩), v'] 130 ∧ OwnB w' 0 v' (said ++ s) ∧ (v'.ownBlock = v.ownBlock ∨ ∀ g, v'.ownBlock = some g → w.heap.size ≤ g) ∧ v'.ownBlock ≠ some d ∧ KeepX (fun k => k < w.heap.size ∧ k ≠ d ∧ v.ownBlock ≠ some k) w w' := by
  have hC := cc_said d bptr self v w hk hself
  have hlt := hk.lt
  clear hk hself
  go_enter Tryz.func78, Tryz.ntmps78
  go_wp2_with fail
  with_reducible refine hC.mono ?_
  rintro e w1 ⟨rfl, hk1, K1⟩
  have hown1 : OwnB w1 0 v said := OwnG.keepB hown (fun g hg => K1.block g (fun e => hne (e ▸ hg)))
  have kc := hk1.cell
  have hlt1 := hk1.lt
  clear hC hown
  go_wp2_with (at_builtin; refine appBS2 rfl _ _ rfl 0 v said s rfl hown1 rfl hlen (Nat.zero_le _) ?_; intro v' w2 hown2 hg2 hloc2; have hk2 := blk_grown hk1 hg2 (fun e => hne e.symm); have kc2 := hk2.cell; have kf2 := hk2.free; obtain ⟨va, vc, hve, _⟩ := OwnB.shape hown2; subst hve)
  go_ret2
  have hge : ∀ g, (Value.slice va (said ++ s).length vc).ownBlock = some g → g ≠ d := fun g hg e => by
    subst e
    rcases hloc2 with h | h
    · exact hne (h ▸ hg)
    · have := h g hg; omega
  refine ⟨rfl, .slice va (said ++ s).length vc, ?_, ?_, ?_, fun e => hge d e rfl, ?_⟩
  · have := hk2.set 2 (.slice va (said ++ s).length vc)
    simpa using this
  · refine OwnG.keepB hown2 (fun g hg => heap_set _ _ _ g (hge g hg))
  · rcases hloc2 with h | h
    · exact Or.inl h
    · exact Or.inr (fun g hg => Nat.le_trans K1.size (h g hg))
  · refine ⟨hg2.os.trans K1.os, hg2.tape.trans K1.tape, hg2.output.trans K1.output, by have h1 := K1.size; have h2 := hg2.size; simp [World.setCell]; omega, fun k hk => ?_⟩
    refine (heap_set _ _ _ k (by simpa using hk.2.1)).trans ((hg2.block k (by have := K1.size; omega) (fun e => hk.2.2 e.symm)).trans (K1.block k hk.2.1))
theorem lies_own : liesAt Tryz.prog Tryz.prog.depth 128 (2 / Tryz.prog.cellsOf 128) 0 128 1 = true := by kernel_rfl
set_option maxHeartbeats 4000000 in
set_option maxRecDepth 100000 in
theorem cc_used_own (d : Nat) (w : World) (h0 : w.cell? ⟨d, 0, none⟩ = some (.pointer (some ⟨d, 0, none⟩))) :
    Calls Tryz.prog 130 #[.pointer (some ⟨d, 0, none⟩)] w fun e w' => e = .returned (.tuple #[]) ∧ w = w' := by
  obtain ⟨j, hj, _⟩ := Option.map_eq_some_iff.1 infoBldr
  go_enter Tryz.func130, Tryz.ntmps130
  go_wp2_with fail
  rw [Lib.run_neq_ptr_same w _ Tryz.underlying125 hj]
  go_wp2_with fail
  go_end0
  exact ⟨rfl, rfl⟩
set_option maxHeartbeats 4000000 in
set_option maxRecDepth 100000 in
theorem cc_fresh_own (d : Nat) (w : World) (h0 : w.cell? ⟨d, 0, none⟩ = some (.pointer none)) (hsh : w.shape? d = some (128, 2)) (hfz : w.frozen? ⟨d, 0, none⟩ = false) :
    Calls Tryz.prog 130 #[.pointer (some ⟨d, 0, none⟩)] w fun e w' => e = .returned (.tuple #[]) ∧ w.setCell ⟨d, 0, none⟩ (.pointer (some ⟨d, 0, none⟩)) = w' := by
  obtain ⟨j, hj, hjs⟩ := Option.map_eq_some_iff.1 infoBldr
  go_enter Tryz.func130, Tryz.ntmps130
  go_wp2_with fail
  rw [Lib.run_to_unsafe w ⟨d, 0, none⟩ Tryz.underlying125 Tryz.underlying174 hj (by rw [hjs]; decide) hsh (by show (0 : Nat) < 2; decide)]
  simp only [Result.andThen]
  rw [Oper.upon_value]
  go_wp2_with fail
  rw [run_callFunc_extern Tryz.func220 (by kernel_rfl) (by kernel_rfl) (by kernel_rfl) (e := Extern.AbiNoEscape.same) (by kernel_rfl)]
  rw [Lib.run_noEscape]
  simp only [Result.andThen]
  rw [Oper.upon_value]
  go_wp2_with fail
  rw [Lib.run_from_unsafe w ⟨d, 0, none⟩ Tryz.underlying174 Tryz.underlying125 hj hsh lies_own]
  simp only [Result.andThen]
  rw [Oper.upon_value]
  go_wp2_with fail
  go_end0
  exact ⟨rfl, rfl⟩
theorem cc_own (d : Nat) (self v : Value) (w : World) (hk : Blk w d #[self, v] 128) (hself : self = .pointer none ∨ self = .pointer (some ⟨d, 0, none⟩)) :
    Calls Tryz.prog 130 #[.pointer (some ⟨d, 0, none⟩)] w fun e w' => e = .returned (.tuple #[]) ∧ Blk w' d #[.pointer (some ⟨d, 0, none⟩), v] 128 ∧ KeepX (fun k => k ≠ d) w w' := by
  rcases hself with rfl | rfl
  · refine (cc_fresh_own d w (hk.cell 0) (by simp [World.shape?, show w.heap[d]? = _ from hk]) (hk.free 0)).mono ?_
    rintro e w' ⟨rfl, rfl⟩
    refine ⟨rfl, ?_, rfl, rfl, rfl, by simp [World.setCell], fun k hk => heap_set _ _ _ k (by simpa using hk)⟩
    have := hk.set 0 (.pointer (some ⟨d, 0, none⟩))
    simpa using this
  · refine (cc_used_own d w (hk.cell 0)).mono ?_
    rintro e w' ⟨rfl, rfl⟩
    exact ⟨rfl, hk, rfl, rfl, rfl, Nat.le_refl _, fun k _ => rfl⟩
set_option maxHeartbeats 8000000 in
set_option maxRecDepth 100000 in
theorem wrs_own (d : Nat) (self v : Value) (said s : Bs) (w : World) (hk : Blk w d #[self, v] 128) (hself : self = .pointer none ∨ self = .pointer (some ⟨d, 0, none⟩)) (hown : OwnB w 0 v said) (hne : v.ownBlock ≠ some d) (hlen : said.length + s.length ≤ 140737488355328) :
    Calls Tryz.prog 78 #[.pointer (some ⟨d, 0, none⟩), .string ⟨s.toArray⟩] w fun e w' => e = .returned (.tuple #[.int .i64 (s.length : Int), .nilIface]) ∧ ∃ v', Blk w' d #[.pointer (some ⟨d, 0, none⟩), v'] 128 ∧ OwnB w' 0 v' (said ++ s) ∧ (v'.ownBlock = v.ownBlock ∨ ∀ g, v'.ownBlock = some g → w.heap.size ≤ g) ∧ v'.ownBlock ≠ some d ∧ KeepX (fun k => k < w.heap.size ∧ k ≠ d ∧ v.ownBlock ≠ some k) w w' := by
  have hC := cc_own d self v w hk hself
  have hlt := hk.lt
  clear hk hself
  go_enter Tryz.func78, Tryz.ntmps78
  go_wp2_with fail
  with_reducible refine hC.mono ?_
  rintro e w1 ⟨rfl, hk1, K1⟩
  have hown1 : OwnB w1 0 v said := OwnG.keepB hown (fun g hg => K1.block g (fun e => hne (e ▸ hg)))
  have kc := hk1.cell
  have hlt1 := hk1.lt
  clear hC hown
  go_wp2_with (at_builtin; refine appBS2 rfl _ _ rfl 0 v said s rfl hown1 rfl hlen (Nat.zero_le _) ?_; intro v' w2 hown2 hg2 hloc2; have hk2 := blk_grown hk1 hg2 (fun e => hne e.symm); have kc2 := hk2.cell; have kf2 := hk2.free; obtain ⟨va, vc, hve, _⟩ := OwnB.shape hown2; subst hve)
  go_ret2
  have hge : ∀ g, (Value.slice va (said ++ s).length vc).ownBlock = some g → g ≠ d := fun g hg e => by
    subst e
    rcases hloc2 with h | h
    · exact hne (h ▸ hg)
    · have := h g hg; omega
  refine ⟨rfl, .slice va (said ++ s).length vc, ?_, ?_, ?_, fun e => hge d e rfl, ?_⟩
  · have := hk2.set 1 (.slice va (said ++ s).length vc)
    simpa using this
  · refine OwnG.keepB hown2 (fun g hg => heap_set _ _ _ g (hge g hg))
  · rcases hloc2 with h | h
    · exact Or.inl h
    · exact Or.inr (fun g hg => Nat.le_trans K1.size (h g hg))
  · refine ⟨hg2.os.trans K1.os, hg2.tape.trans K1.tape, hg2.output.trans K1.output, by have h1 := K1.size; have h2 := hg2.size; simp [World.setCell]; omega, fun k hk => ?_⟩
    refine (heap_set _ _ _ k (by simpa using hk.2.1)).trans ((hg2.block k (by have := K1.size; omega) (fun e => hk.2.2 e.symm)).trans (K1.block k hk.2.1))
theorem RdBnd.to {P Q : Nat → Prop} {w w' : World} {bp : Nat} {b : Bnd} (h : RdBnd P w bp b) (hs : w.heap.size ≤ w'.heap.size) (hk : ∀ c, P c → c < w.heap.size → Q c ∧ w'.heap[c]? = w.heap[c]?) : RdBnd Q w' bp b := by
  have h1 := RdBnd.weak (Q := fun c => P c ∧ c < w.heap.size) (fun c hp hl => ⟨hp, hl⟩) h
  exact RdBnd.weak (fun c hp _ => (hk c hp.1 hp.2).1) (h1.keep hs (fun c hp _ => (hk c hp.1 hp.2).2))
theorem Gz.keepX {X : Nat → Prop} {w w' : World} (h : Gz w) (hX : ∀ k, k ≤ 8 → X k) (hk : KeepX X w w') : Gz w' := h.keep fun b hb => hk.block b (hX b hb)
set_option maxHeartbeats 8000000 in
set_option maxRecDepth 100000 in
theorem dadd_any (X : Nat → Prop) (d : Nat) (dk : Dsk) (v : Value) (l : List Bs) (w : World) (hX : ∀ k, X k → k < w.heap.size) (hD : DeskM X w d dk) (h : RdW w v l) (hl : (blankT l).length ≤ 1000000) (hn : l.length ≤ 1000000) (hs : dk.said.length ≤ 1000000) :
    Calls Tryz.prog 221 #[.pointer (some ⟨d, 0, none⟩), v] w fun e w' => AnsOr (addD dk l).2 e ∧ DeskM X w' d (addD dk l).1 ∧ KeepX X w w' := by
  have Bd := (Below.refl w.heap.size w).drew
  have hJ := joinW v l w.drew (h.next Bd) hl hn
  show Calls _ _ _ _ fun e w' => e = .returned (.string ⟨#[97, 100, 100]⟩) ∧ DeskM X w' d ⟨dk.bundle, dk.said ++ (blankT l ++ [13, 10])⟩ ∧ KeepX X w w'
  generalize blankT l = j at hJ hl ⊢
  obtain ⟨bptr, self, va, hk, hXd, hself, hown, hvo, hbn⟩ := hD
  have hlt := hk.lt
  have hW := fun (W : World) (b1 : Below w.heap.size w W) => wrs_said d bptr self va dk.said (j ++ [13, 10]) W (hk.next b1 hlt) hself (OwnG.next hown b1) (fun e => (hvo d e).2 rfl) (by simp; omega)
  have kc := fun (W : World) (b1 : Below w.heap.size w W) => (hk.next b1 hlt).cell
  have HK := Lib.hid hk
  have HB := Lib.hid hbn
  have HO := Lib.hid (And.intro hX (And.intro hXd hvo))
  clear hk hbn hX hXd hvo hown hself
  obtain ⟨bk, o, c, rfl, _⟩ := h
  go_enter Tryz.func221, Tryz.ntmps221
  go_upto_region 1 with fail
  refine wp_region_stop 6 (fun _ => True) (by kernel_rfl) ?_
  refine GoesG.takeU (i := 0) (v := ?_) rfl (by kernel_rfl) (by kernel_rfl) (by kernel_rfl) (by decide) (fun _ _ _ h => h) (Or.inl ⟨by rfl, ?_⟩) trivial ?_
  rotate_left
  · (intro W; go_simp; try with_reducible rfl)
  (try simp only [Act.put])
  refine GoesG.takeU (i := 1) (v := ?_) rfl (by kernel_rfl) (by kernel_rfl) (by kernel_rfl) (by decide) (fun _ _ _ h => h) (Or.inl ⟨by rfl, ?_⟩) trivial ?_
  rotate_left
  · (intro W; go_simp; try with_reducible rfl)
  (try simp only [Act.put])
  refine GoesG.takeU (i := 2) (v := ?_) rfl (by kernel_rfl) (by kernel_rfl) (by kernel_rfl) (by decide) (fun _ _ _ h => h) (Or.inl ⟨by rfl, ?_⟩) trivial ?_
  rotate_left
  · (intro W; go_simp; try with_reducible rfl)
  (try simp only [Act.put])
  refine GoesG.takeU (i := 3) (v := ?_) rfl (by kernel_rfl) (by kernel_rfl) (by kernel_rfl) (by decide) (fun _ _ _ h => h) (Or.inl ⟨by rfl, ?_⟩) trivial ?_
  rotate_left
  · (intro W; go_simp; try with_reducible rfl)
  (try simp only [Act.put])
  refine GoesG.one (j := 4) (by kernel_rfl) rfl (by decide) (fun K hK => ?_)
  go_simp
  with_reducible refine hJ.mono ?_
  rintro e w1 ⟨rfl, bd1⟩
  have b1 := Bd.trans bd1
  have hW := hW w1 b1
  clear kc hJ
  refine hK.out _ _ trivial ?_
  clear hK K
  (try simp only [Act.put])
  refine GoesG.takeU (i := 5) (v := ?_) rfl (by kernel_rfl) (by kernel_rfl) (by kernel_rfl) (by decide) (fun _ _ _ h => h) (Or.inl ⟨by rfl, ?_⟩) trivial ?_
  rotate_left
  · (intro W; go_simp; rw [if_neg (by omega)])
  (try simp only [Act.put])
  refine GoesG.stop (by kernel_rfl) rfl (fun K hK => ?_)
  go_simp
  with_reducible refine hW.mono ?_
  rintro e w2 ⟨rfl, v', hk2, hown2, hloc, hne, KX⟩
  refine hK.out _ _ ?_
  clear hK K
  refine wpAny_done (by kernel_rfl) ?_ _
  have K := KX
  go_wp2_with fail
  go_ret
  obtain ⟨hX, hXd, hvo⟩ := HO.out
  have b1s := b1.size
  have hb2 : ∀ k, k < w.heap.size → k ≠ d → va.ownBlock ≠ some k → w2.heap[k]? = w.heap[k]? := fun k h1 h2 h3 => (K.block k ⟨by omega, h2, h3⟩).trans (b1.block k h1)
  refine ⟨rfl, ⟨bptr, _, v', hk2, hXd, Or.inr rfl, hown2, fun g hg => ⟨fun hx => ?_, fun e => hne (e ▸ hg)⟩, ?_⟩, ?_⟩
  · rcases hloc with h | h
    · exact (hvo g (h ▸ hg)).1 hx
    · have := h g hg; have := hX g hx; omega
  · rcases HB.out with ⟨h1, h2⟩ | ⟨b, bp, h1, h2, h3, h4, h5⟩
    · exact Or.inl ⟨h1, h2⟩
    · refine Or.inr ⟨b, bp, h1, h2, h3.to (by have := K.size; omega) (fun k ⟨p1, p2, p3⟩ hl => ⟨⟨p1, p2, fun e => ?_⟩, hb2 k hl p2 p3⟩), h4, h5⟩
      rcases hloc with h | h
      · exact p3 (h ▸ e)
      · have := h k e; omega
  · exact ⟨K.os.trans b1.os, K.tape.trans b1.tape, K.output.trans b1.output, by have := K.size; omega, fun k hx => hb2 k (hX k hx) (fun e => hXd (e ▸ hx)) (fun e => (hvo k e).1 hx)⟩
set_option maxHeartbeats 8000000 in
set_option maxRecDepth 100000 in
theorem str_nil (d : Nat) (bptr self : Value) (w : World) (hk : Blk w d #[bptr, self, .slice none 0 0] 130) :
    Calls Tryz.prog 80 #[.pointer (some ⟨d, 1, none⟩)] w fun e w' => e = .returned (.string ⟨#[]⟩) ∧ Blk w' d #[bptr, self, .slice none 0 0] 130 ∧ KeepX (fun k => k < w.heap.size ∧ (.slice none 0 0 : Value).ownBlock ≠ some k) w w' := by
  have mixed : Tryz.prog.follows Departure.mixedOrders = true := by kernel_rfl
  have hUS := fun (W : World) (q : Option Go.Addr) => Lib.run_unsafeString_none (P := Tryz.prog) W 206 3 9 q
  have c1 : w.drew.cell? ⟨d, 2, none⟩ = some (.slice none 0 0) := hk.cell 2
  have hSD : (Builtin.unsafeSliceData_ #[126] 206 #[.slice none 0 0]).run Tryz.prog w.drew = .ok (.pointer none) w.drew := rfl
  go_enter Tryz.func80, Tryz.ntmps80
  go_wp2
  go_region_o
  all_goals (go_wp2; go_ret; exact ⟨rfl, hk, rfl, rfl, rfl, Nat.le_refl _, fun k _ => rfl⟩)
set_option maxHeartbeats 8000000 in
set_option maxRecDepth 100000 in
theorem str_room (d : Nat) (bptr self : Value) (g cap : Nat) (w : World) (hc0 : cap ≠ 0) (hk : Blk w d #[bptr, self, .slice (some ⟨g, 0, none⟩) 0 cap] 130) :
    Calls Tryz.prog 80 #[.pointer (some ⟨d, 1, none⟩)] w fun e w' => e = .returned (.string ⟨#[]⟩) ∧ Blk w' d #[bptr, self, .slice (some ⟨g, 0, none⟩) 0 cap] 130 ∧ KeepX (fun k => k < w.heap.size ∧ (.slice (some ⟨g, 0, none⟩) 0 cap : Value).ownBlock ≠ some k) w w' := by
  have mixed : Tryz.prog.follows Departure.mixedOrders = true := by kernel_rfl
  have hUS := fun (W : World) (q : Option Go.Addr) => Lib.run_unsafeString_none (P := Tryz.prog) W 206 3 9 q
  have c1 : w.drew.cell? ⟨d, 2, none⟩ = some (.slice (some ⟨g, 0, none⟩) 0 cap) := hk.cell 2
  have hSD : (Builtin.unsafeSliceData_ #[126] 206 #[.slice (some ⟨g, 0, none⟩) 0 cap]).run Tryz.prog w.drew = .ok (.pointer (some ⟨g, 0, none⟩)) w.drew :=
    Lib.run_unsafeSliceData_row _ _ _ _ _ _ hc0
  clear hc0
  go_enter Tryz.func80, Tryz.ntmps80
  go_wp2
  go_region_o
  all_goals (go_wp2; go_ret; exact ⟨rfl, hk, rfl, rfl, rfl, Nat.le_refl _, fun k _ => rfl⟩)
set_option maxHeartbeats 8000000 in
set_option maxRecDepth 100000 in
theorem str_noroom (d : Nat) (bptr self : Value) (g : Nat) (cur : Array Value) (w : World) (hg : w.heap[g]? = some (.cells cur 5 (0, 0))) (hk : Blk w d #[bptr, self, .slice (some ⟨g, 0, none⟩) 0 0] 130) :
    Calls Tryz.prog 80 #[.pointer (some ⟨d, 1, none⟩)] w fun e w' => e = .returned (.string ⟨#[]⟩) ∧ Blk w' d #[bptr, self, .slice (some ⟨g, 0, none⟩) 0 0] 130 ∧ KeepX (fun k => k < w.heap.size ∧ (.slice (some ⟨g, 0, none⟩) 0 0 : Value).ownBlock ≠ some k) w w' := by
  have mixed : Tryz.prog.follows Departure.mixedOrders = true := by kernel_rfl
  have hUS := fun (W : World) (q : Option Go.Addr) => Lib.run_unsafeString_none (P := Tryz.prog) W 206 3 9 q
  have hlt := hk.lt
  have c1 : w.drew.cell? ⟨d, 2, none⟩ = some (.slice (some ⟨g, 0, none⟩) 0 0) := hk.cell 2
  have hSD : (Builtin.unsafeSliceData_ #[126] 206 #[.slice (some ⟨g, 0, none⟩) 0 0]).run Tryz.prog w.drew = .ok (.pointer (some ⟨w.drew.heap.size, 0, none⟩)) (w.drew.alloc (.view ⟨g, 0, none⟩ 5)) :=
    Lib.run_unsafeSliceData_zero w.drew _ _ 5 Tryz.underlying206 ⟨g, 0, none⟩ 0 (5, cur.size) (by have hg' : w.drew.heap[g]? = some (.cells cur 5 (0, 0)) := hg; simp [World.shape?, hg'])
  have hk2 : Blk (w.drew.alloc (.view ⟨g, 0, none⟩ 5)) d #[bptr, self, .slice (some ⟨g, 0, none⟩) 0 0] 130 := (Lib.alloc_old w.drew _ d hlt).trans hk
  have c2 : (w.drew.alloc (.view ⟨g, 0, none⟩ 5)).cell? ⟨d, 2, none⟩ = some (.slice (some ⟨g, 0, none⟩) 0 0) := hk2.cell 2
  have c3 : (w.alloc (.view ⟨g, 0, none⟩ 5)).drew.cell? ⟨d, 2, none⟩ = some (.slice (some ⟨g, 0, none⟩) 0 0) := c2
  have c0 : w.cell? ⟨d, 2, none⟩ = some (.slice (some ⟨g, 0, none⟩) 0 0) := c1
  go_enter Tryz.func80, Tryz.ntmps80
  go_wp2
  go_region_o
  all_goals (go_wp2; go_ret; exact ⟨rfl, hk2, KeepX.of (fun k hk => hk.1) ((Below.refl w.heap.size w).drew.alloc (Nat.le_refl _) _)⟩)
set_option maxHeartbeats 8000000 in
set_option maxRecDepth 100000 in
theorem str_some (d : Nat) (bptr self : Value) (g cap : Nat) (cur : Array Value) (s : Bs) (w : World) (h0 : s ≠ []) (hown : OwnB w 0 (.slice (some ⟨g, 0, none⟩) s.length cap) s) (hg : w.heap[g]? = some (.cells cur 5 (0, 0))) (hcs : cur.size = cap * 1) (hnc : s.length ≤ cap) (hcm : cap ≤ maxLen) (hne : g ≠ d) (hk : Blk w d #[bptr, self, .slice (some ⟨g, 0, none⟩) s.length cap] 130) :
    Calls Tryz.prog 80 #[.pointer (some ⟨d, 1, none⟩)] w fun e w' => e = .returned (.string ⟨s.toArray⟩) ∧ Blk w' d #[bptr, self, .slice (some ⟨g, 0, none⟩) s.length cap] 130 ∧ KeepX (fun k => k < w.heap.size ∧ (.slice (some ⟨g, 0, none⟩) s.length cap : Value).ownBlock ≠ some k) w w' := by
  have mixed : Tryz.prog.follows Departure.mixedOrders = true := by kernel_rfl
  have hUS := fun (W : World) (q : Option Go.Addr) => Lib.run_unsafeString_none (P := Tryz.prog) W 206 3 9 q
  have hl0 : s.length ≠ 0 := by simpa using h0
  have c1 : w.drew.cell? ⟨d, 2, none⟩ = some (.slice (some ⟨g, 0, none⟩) s.length cap) := hk.cell 2
  have hSD : (Builtin.unsafeSliceData_ #[126] 206 #[.slice (some ⟨g, 0, none⟩) s.length cap]).run Tryz.prog w.drew = .ok (.pointer (some ⟨g, 0, none⟩)) w.drew :=
    Lib.run_unsafeSliceData_row _ _ _ _ _ _ (by omega)
  have hUS : (Builtin.unsafeString_ #[206, 3] 9 #[.pointer (some ⟨g, 0, none⟩), .int .i64 s.length]).run Tryz.prog w.drew = .ok (.string ⟨s.toArray⟩) (w.drew.freeze ⟨g, 0, none⟩ s.length) := by
    refine Lib.run_unsafeString_row w.drew 206 3 9 5 Tryz.underlying206 (by kernel_rfl) g cur.size (by have hg' : w.drew.heap[g]? = some (.cells cur 5 (0, 0)) := hg; simp [World.shape?, hg']) s h0 (by omega) (by unfold maxLen at hcm; omega) ?_
    intro j x hx
    obtain ⟨a', c', e1, e2⟩ := OwnB.shape hown
    obtain ⟨hj, rfl⟩ := List.getElem?_eq_some_iff.1 hx
    obtain ⟨g', h1, h2⟩ := e2 j hj
    injection e1 with e1
    subst e1
    injection h1 with h1
    injection h1 with h1
    subst h1
    by_cases hj0 : j = 0
    · subst hj0; simpa [Go.Addr.add] using h2
    · simpa [Go.Addr.add, hj0] using h2
  have hFR : ∀ k, k ≠ g → (w.drew.freeze ⟨g, 0, none⟩ s.length).heap[k]? = w.heap[k]? := fun k hk => by
    unfold World.freeze
    rw [if_neg hl0]
    simp only [Array.getElem?_modify]
    rw [if_neg (fun e => hk e.symm)]
    rfl
  have hFS : w.heap.size ≤ (w.drew.freeze ⟨g, 0, none⟩ s.length).heap.size := by
    unfold World.freeze
    rw [if_neg hl0]
    show w.heap.size ≤ (w.drew.heap.modify _ _).size
    rw [Array.size_modify]
    exact Nat.le_refl _
  have hFO : (w.drew.freeze ⟨g, 0, none⟩ s.length).os = w.os ∧ (w.drew.freeze ⟨g, 0, none⟩ s.length).tape = w.tape ∧ (w.drew.freeze ⟨g, 0, none⟩ s.length).output = w.output := by
    unfold World.freeze
    rw [if_neg hl0]
    exact ⟨rfl, rfl, rfl⟩
  go_enter Tryz.func80, Tryz.ntmps80
  go_wp2
  go_region_o
  all_goals (go_wp2; go_ret; exact ⟨rfl, (hFR d (fun e => hne e.symm)).trans hk, hFO.1, hFO.2.1, hFO.2.2, hFS, fun k hk => hFR k (fun e => hk.2 (by rw [e]; rfl))⟩)
set_option maxHeartbeats 8000000 in
set_option maxRecDepth 100000 in
theorem reset_said (d : Nat) (bptr self v : Value) (w : World) (hk : Blk w d #[bptr, self, v] 130) :
    Calls Tryz.prog 282 #[.pointer (some ⟨d, 1, none⟩)] w fun e w' => e = .returned (.tuple #[]) ∧ Blk w' d #[bptr, .pointer none, .slice none 0 0] 130 ∧ KeepX (fun k => k ≠ d) w w' := by
  have kc := hk.cell
  have kf := hk.free
  go_enter Tryz.func282, Tryz.ntmps282
  go_wp2_with fail
  go_end0
  refine ⟨rfl, ?_, rfl, rfl, rfl, by simp [World.setCell], fun k hk => ?_⟩
  · have := (hk.set 1 (.pointer none)).set 2 (.slice none 0 0)
    simpa using this
  · exact (heap_set _ _ _ k (by simpa using hk)).trans (heap_set _ _ _ k (by simpa using hk))
theorem str_said (d : Nat) (bptr self v : Value) (s : Bs) (w : World) (hk : Blk w d #[bptr, self, v] 130) (hown : OwnB w 0 v s) (hne : v.ownBlock ≠ some d) :
    Calls Tryz.prog 80 #[.pointer (some ⟨d, 1, none⟩)] w fun e w' => e = .returned (.string ⟨s.toArray⟩) ∧ Blk w' d #[bptr, self, v] 130 ∧ KeepX (fun k => k < w.heap.size ∧ v.ownBlock ≠ some k) w w' := by
  rcases hown.2 with ⟨rfl, h0⟩ | ⟨g, cap, cur, rfl, _, hg, hnc, hcm, hcs, _⟩
  · obtain rfl := List.eq_nil_of_length_eq_zero h0
    exact str_nil d bptr self w hk
  · by_cases h0 : s = []
    · subst h0
      by_cases hc0 : cap = 0
      · subst hc0
        exact str_noroom d bptr self g cur w hg hk
      · exact str_room d bptr self g cap w hc0 hk
    · exact str_some d bptr self g cap cur s w h0 hown hg hcs hnc hcm (fun e => hne (by rw [e]; rfl)) hk
end Go.Proofs.YtignjjnflcpiiaaGreatDoor
