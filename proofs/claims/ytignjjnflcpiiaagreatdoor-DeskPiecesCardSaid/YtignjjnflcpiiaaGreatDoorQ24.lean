/- slices.Index over texts and over addresses. Condition: at most 10^12 of them; (bundle.Bundle).Find. Condition: what the variables hold; at most 10^6 bytes and 10^6 parts; How long what links say can be. No program, no condition; (bundle.Bundle).Leads. Condition: what the variables hold; so much in t. -/
import Derived.Test.YtignjjnflcpiiaaGreatDoorQ23
namespace Go.Proofs.YtignjjnflcpiiaaGreatDoor
open Go Go.RowKit
set_option maxHeartbeats 4000000 in
set_option maxRecDepth 100000 in
theorem idxTxt_any (v : Value) (l : List Bs) (x : Bs) (w : World) (hr : RdG 1 strC w v l) (hlen : l.length ≤ 1000000000000) :
    Calls Tryz.prog 63 #[v, .string ⟨x.toArray⟩] w fun e w' => e = .returned (.int .i64 (idxOf x l 0)) ∧ w' = w := by
  obtain ⟨a, cap, rfl, hc⟩ := hr.opens strC_len
  have HC := Lib.hid hc
  clear hc hr
  go_enter Tryz.func63, Tryz.ntmps63
  go_wp2_with fail
  go_loop [8] (fun i => ∃ k : Nat, i = .int .i64 k ∧ k ≤ l.length ∧ Hid (idxOf x l 0 = idxOf x (l.drop k) k)) (fun i => l.length - (intOf i).toNat)
  case atStart => exact ⟨0, rfl, by omega, Lib.hid (by simp)⟩
  case round =>
    obtain ⟨k, rfl, hk, Hall⟩ := hrel
    by_cases hlt : k < l.length
    · obtain ⟨b, rfl, hb0, h1⟩ := HC.out k hlt
      have HD := Lib.hid (show idxOf x (l.drop k) k = if l[k] = x then (k : Int) else idxOf x (l.drop (k + 1)) (k + 1) from by rw [List.drop_eq_getElem_cons hlt]; rfl)
      have c1 : w.cell? ⟨b, k, none⟩ = some (.string ⟨(l[k]).toArray⟩) := by
        have := h1 0 (by decide)
        simpa [strC] using this
      clear h1
      generalize l[k] = y at HD c1
      by_cases he : y = x
      · have HG := Lib.hid (show idxOf x l 0 = (k : Int) from by rw [Hall.out, HD.out, if_pos he])
        subst he
        clear HD Hall
        go_wp2_with fail
        go_ret
        exact ⟨ret_int (by rw [HG.out]), rfl⟩
      · have HG := Lib.hid (show idxOf x l 0 = idxOf x (l.drop (k + 1)) (k + 1) from by rw [Hall.out, HD.out, if_neg he])
        have hq : (x == y) = false := by rw [beq_eq_false_iff_ne]; exact fun e => he e.symm
        clear HD Hall he
        go_wp2_with fail
        go_round
        case rel => exact ⟨k + 1, by go_num, by omega, HG⟩
        case measure => simp [intOf]; omega
    · obtain rfl : k = l.length := by omega
      have HG := Lib.hid (show idxOf x l 0 = -1 from by rw [Hall.out, List.drop_length]; rfl)
      go_wp2_with fail
      go_ret
      exact ⟨ret_int (by rw [HG.out]), rfl⟩
set_option maxHeartbeats 8000000 in
set_option maxRecDepth 100000 in
theorem idxAdr_any (v : Value) (l : List Addr) (x : Addr) (w : World) (hr : RdG 8 adrC w v l) (hlen : l.length ≤ 1000000000000) :
    Calls Tryz.prog 64 #[v, x.val] w fun e w' => e = .returned (.int .i64 (idxOf x l 0)) ∧ Below w.heap.size w w' := by
  obtain ⟨a, cap, rfl, hc⟩ := hr.opens adrC_len
  have HC := Lib.hid hc
  have hx1 := Blk.new w x.cells 36
  have B1 := (Below.refl w.heap.size w).alloc (Nat.le_refl _) (.cells x.cells 36)
  have hgd := eqGuardAddr
  clear hc hr
  go_enter Tryz.func64, Tryz.ntmps64
  go_wp2_with fail
  go_loopw [8] (fun i wr => ∃ k : Nat, i = .int .i64 k ∧ k ≤ l.length ∧ Hid (idxOf x l 0 = idxOf x (l.drop k) k) ∧ Blk wr w.heap.size x.cells 36 ∧ Below w.heap.size w wr) (fun i _ => l.length - (intOf i).toNat)
  case atStart => exact ⟨0, rfl, by omega, Lib.hid (by simp), hx1, B1⟩
  case round =>
    clear hx1 B1
    obtain ⟨k, rfl, hk, Hall, hx1, B⟩ := hrel
    by_cases hlt : k < l.length
    · obtain ⟨b, rfl, hb0, h1⟩ := HC.out k hlt
      have HD := Lib.hid (show idxOf x (l.drop k) k = if l[k] = x then (k : Int) else idxOf x (l.drop (k + 1)) (k + 1) from by rw [List.drop_eq_getElem_cons hlt]; rfl)
      have hc := fun i hi => (B.cell (p := ⟨b, k * 8 + i, none⟩) hb0).trans (h1 i hi)
      generalize l[k] = y at HD hc
      have c0 := hc 0 (by decide)
      have c1 := hc 1 (by decide)
      have c2 := hc 2 (by decide)
      have c3 := hc 3 (by decide)
      have c4 := hc 4 (by decide)
      have c5 := hc 5 (by decide)
      have c6 := hc 6 (by decide)
      have c7 := hc 7 (by decide)
      simp only [adrC, Nat.add_zero, List.getElem?_cons_zero, List.getElem?_cons_succ] at c0 c1 c2 c3 c4 c5 c6 c7
      have i0 : (0 : Int) ≤ k := by omega
      have i1 : (k : Int) < l.length := by omega
      have kx := hx1.cell
      clear h1 hc
      go_upto_region 4 with fail
      go_cut [16] (fun t wx => t = .bool (decide (x = y)) ∧ wx.heap = wr.heap ∧ Below w.heap.size wr wx)
      case first =>
        go_quiet (fail)
        go_wp2_with fail
        go_meet
        exact ⟨rfl, rfl, below_drewN _ _ _⟩
      case rest =>
      obtain ⟨rfl, hh, b2⟩ := hcut
      obtain ⟨w2, rfl⟩ : ∃ z : World, z = wc := ⟨_, rfl⟩
      have hx2 : Blk w2 w.heap.size x.cells 36 := by unfold Blk; rw [hh]; exact hx1
      have B2 := B.trans b2
      clear hh b2 c0 c1 c2 c3 c4 c5 c6 c7 kx hx1 B
      by_cases he : y = x
      · have HG := Lib.hid (show idxOf x l 0 = (k : Int) from by rw [Hall.out, HD.out, if_pos he])
        have hd : decide (x = y) = true := by rw [decide_eq_true_eq]; exact he.symm
        rw [hd]
        clear HD Hall he hd
        go_wp2_with fail
        go_ret
        exact ⟨ret_int (by rw [HG.out]), B2⟩
      · have HG := Lib.hid (show idxOf x l 0 = idxOf x (l.drop (k + 1)) (k + 1) from by rw [Hall.out, HD.out, if_neg he])
        have hd : decide (x = y) = false := by rw [decide_eq_false_iff_not]; exact fun e => he e.symm
        rw [hd]
        clear HD Hall he hd
        go_wp2_with fail
        go_roundw
        case rel => exact ⟨k + 1, by go_num, by omega, HG, hx2, B2⟩
        case measure => simp [intOf]; omega
    · obtain rfl : k = l.length := by omega
      have HG := Lib.hid (show idxOf x l 0 = -1 from by rw [Hall.out, List.drop_length]; rfl)
      go_wp2_with fail
      go_ret
      exact ⟨ret_int (by rw [HG.out]), B⟩
def cidB (z : Addr) : Bool := (z.scheme == [99, 105, 100]) && (!z.hasAuth && (!z.hasQuery && !z.path.isEmpty))
theorem findB_eq (b : Bnd) (a : Addr) : findB b a = if cidB (wholeA a) && decide (0 ≤ idxOf (wholeA a).path b.ids 0) then idxOf (wholeA a).path b.ids 0 else if wholeA a = Addr.zero then -1 else idxOf (wholeA a) b.places 0 := by
  unfold findB
  simp only
  have hc : (wholeA a).scheme = [99, 105, 100] ∧ (wholeA a).hasAuth = false ∧ (wholeA a).hasQuery = false ∧ (wholeA a).path ≠ [] ↔ cidB (wholeA a) = true := by
    unfold cidB
    simp
  by_cases h : cidB (wholeA a) = true
  · rw [if_pos (hc.2 h), h]
    simp only [Bool.true_and, decide_eq_true_eq]
  · rw [if_neg (fun h' => h (hc.1 h')), Bool.eq_false_iff.2 h]
    simp
theorem zeroEq (z : Addr) (w : World) : (binOp .eql 36 (.agg z.cells) (.agg zCells)).run Tryz.prog w = .ok (.bool (decide (z = Addr.zero))) w := eqlAddr z Addr.zero w
set_option maxHeartbeats 16000000 in
set_option maxRecDepth 100000 in
theorem find_any (P : Nat → Prop) (bp : Nat) (b : Bnd) (a : Addr) (w : World) (h : RdBnd P w bp b) (ha : a.len ≤ 100000000) (hpl : b.places.length ≤ 1000000) (hil : b.ids.length ≤ 1000000) :
    Calls Tryz.prog 21 #[.pointer (some ⟨bp, 0, none⟩), a.val] w fun e w' => e = .returned (.int .i64 (findB b a)) ∧ Below w.heap.size w w' := by
  have HN := Lib.hid (findB_eq b a)
  have hWh := fun W => addrWhole_any a W (by unfold Addr.len at ha; omega) (by unfold Addr.len at ha; omega)
  have hb := RdBnd.weak (Q := fun _ => True) (fun _ _ _ => trivial) h
  have hk := Blk.new w a.cells 36
  have B1 := (Below.refl w.heap.size w).alloc (Nat.le_refl _) (.cells a.cells 36)
  have hbl : bp < w.heap.size := by obtain ⟨raw, sa, si, h1, h2, _⟩ := h; exact h2.lt
  generalize wholeA a = z at hWh HN
  clear h
  go_enter Tryz.func21, Tryz.ntmps21
  go_upto_region 1 with fail
  generalize World.alloc _ _ = W1 at hk B1 ⊢
  go_cut [7] (fun _ wx => Blk wx w.heap.size z.cells 36 ∧ Below w.heap.size w wx)
  case first =>
    have k1 := hk.cell
    go_wp2_with fail
    with_reducible refine (hWh _).mono ?_
    rintro e w2 ⟨rfl, b2⟩
    have hk2 := hk.next b2 hk.lt
    have B2 := B1.trans (b2.mono B1.size)
    have k2 := hk2.cell
    have f2 := hk2.free
    clear b2 B1
    go_wp2_with fail
    go_meet
    exact ⟨(((((((hk2.set 0 _).set 1 _).set 2 _).set 3 _).set 4 _).set 5 _).set 6 _).set 7 _, by go_grown⟩
  case rest =>
  obtain ⟨hk, B2⟩ := hcut
  obtain ⟨w2, rfl⟩ : ∃ x : World, x = wc := ⟨_, rfl⟩
  have hb2 := hb.next B2
  have hs2 := B2.size
  clear hWh B1 hb
  obtain ⟨raw, sa, si, _, hkb, _, hpla, hids⟩ := hb2
  have kz := hk.cell
  go_upto_region 2 with fail
  go_cut [25] (fun t wx => t = .bool (cidB z) ∧ wx = w2)
  case first =>
    have HC := Lib.hid (show cidB z = ((z.scheme == [99, 105, 100]) && (!z.hasAuth && (!z.hasQuery && !z.path.isEmpty))) from rfl)
    obtain ⟨z1, z2, z3, z4, z5, z6, z7, z8⟩ := z
    simp only at kz HC
    generalize hq1 : (z1 == [99, 105, 100]) = q1 at HC
    cases q1 with
    | false =>
      go_wp2_with fail
      go_meet
      exact ⟨by rw [HC.out]; rfl, rfl⟩
    | true =>
      cases z2 with
      | true =>
        go_wp2_with fail
        go_meet
        exact ⟨by rw [HC.out]; rfl, rfl⟩
      | false =>
        cases z5 with
        | true =>
          go_wp2_with fail
          go_meet
          exact ⟨by rw [HC.out]; rfl, rfl⟩
        | false =>
          generalize hq4 : z4.isEmpty = q4 at HC
          cases q4 with
          | true =>
            go_wp2_with fail
            go_meet
            exact ⟨by rw [HC.out]; rfl, rfl⟩
          | false =>
            go_wp2_with fail
            go_meet
            exact ⟨by rw [HC.out]; rfl, rfl⟩
  case rest =>
  obtain ⟨rfl, hww⟩ := hcut
  obtain rfl := hww.symm
  have hkbc := hkb.cell
  unfold bndC at hkbc
  obtain ⟨s0, sn, sc⟩ := si
  obtain ⟨p0, pn, pc⟩ := sa
  simp only [slv] at hkbc hids hpla
  generalize hcb : cidB z = cb at HN
  have Hcb := Lib.hid hcb
  clear hcb
  go_upto_if 25 with fail
  go_cut [5] (fun _ wx => findB b a = (if z = Addr.zero then -1 else idxOf z b.places 0) ∧ wx.heap = w2.heap ∧ Below w.heap.size w wx)
  case first =>
    cases cb with
    | false =>
      have HN := Lib.hid (show findB b a = (if z = Addr.zero then -1 else idxOf z b.places 0) from HN.out)
      go_wp2_with fail
      go_meet
      exact ⟨HN.out, rfl, B2⟩
    | true =>
      have hI := fun n => idxTxt_any (.slice s0 sn sc) b.ids z.path (w2.drewN n) (hids.rd.next (below_drewN _ _ _)) (by omega)
      have HN := Lib.hid (show findB b a = if decide (0 ≤ idxOf z.path b.ids 0) then idxOf z.path b.ids 0 else if z = Addr.zero then -1 else idxOf z b.places 0 from HN.out)
      generalize idxOf z.path b.ids 0 = k at hI HN
      go_upto_region 3 with fail
      go_quiet ((go_at_call 63; exact Calls.quiet_of_same (hI _)))
      have b3 : Below w.heap.size w (w2.drewN nq) := B2.trans (below_drewN _ _ _)
      have hh3 : (w2.drewN nq).heap = w2.heap := rfl
      generalize w2.drewN nq = w3 at b3 hh3 ⊢
      by_cases h0 : 0 ≤ k
      · have HN := Lib.hid (show findB b a = k from by rw [HN.out, decide_eq_true h0]; rfl)
        go_wp2_with fail
        go_ret
        exact ⟨ret_int HN.out.symm, b3⟩
      · have HN := Lib.hid (show findB b a = (if z = Addr.zero then -1 else idxOf z b.places 0) from by rw [HN.out, decide_eq_false h0]; rfl)
        go_wp2_with fail
        go_meet
        exact ⟨HN.out, hh3, b3⟩
  case rest =>
  obtain ⟨HF, hh, B3⟩ := hcut
  obtain ⟨w3, rfl⟩ : ∃ x : World, x = wc := ⟨_, rfl⟩
  have HFH := Lib.hid HF
  clear HF
  have hk3 : Blk w3 w.heap.size z.cells 36 := by unfold Blk; rw [hh]; exact hk
  have hkb3 : Blk w3 bp (bndC raw b.root (p0, pn, pc) (s0, sn, sc)) 83 := by unfold Blk; rw [hh]; exact hkb
  have hpl3 := (hpla.keep (w' := w3) (by rw [hh]; exact Nat.le_refl _) (fun c _ _ => by rw [hh])).rd
  have hA := fun W (hW : Below w3.heap.size w3 W) => idxAdr_any (.slice p0 pn pc) b.places z W (hpl3.next hW) (by omega)
  unfold bndC at hkb3
  have kz3 := hk3.cell
  have kb3 := hkb3.cell
  have hz := zeroEq z
  have hgd := eqGuardAddr
  clear hh hpla hids hkb hkbc kz hk B2
  by_cases hzz : z = Addr.zero
  · have HN := Lib.hid (show findB b a = -1 from by rw [HFH.out, if_pos hzz])
    have hd : decide (z = Addr.zero) = true := by rw [decide_eq_true_eq]; exact hzz
    rw [hd] at hz
    clear hzz hd HFH
    go_wp2_with fail
    go_ret
    exact ⟨ret_int HN.out.symm, B3⟩
  · have HN := Lib.hid (show findB b a = idxOf z b.places 0 from by rw [HFH.out, if_neg hzz])
    have hd : decide (z = Addr.zero) = false := by rw [decide_eq_false_iff_not]; exact hzz
    rw [hd] at hz
    clear hzz hd HFH
    generalize idxOf z b.places 0 = k at HN hA
    go_upto_region 8 with fail
    have kz3d := (Blk.drew hk3).cell
    have kb3d := (Blk.drew hkb3).cell
    have K0 := (Below.refl w3.heap.size w3).drew
    go_region_held3 (fun W => (∀ k, W.cell? ⟨bp, k, none⟩ = (#[slv raw.1, .string ⟨raw.2.1.toArray⟩, .bool raw.2.2.1, slv raw.2.2.2, .int .i64 (b.root : Int), slv (p0, pn, pc), slv (s0, sn, sc)])[k]?) ∧ (∀ k, W.cell? ⟨w.heap.size, k, none⟩ = z.cells[k]?) ∧ Below w3.heap.size w3 W)
      (first
        | with_reducible exact ⟨kb3d, kz3d, K0⟩
        | with_reducible exact ⟨(hkb3.next K hkb3.lt).cell, (hk3.next K hk3.lt).cell, K⟩)
      ((first | (go_at_call 64; go_split_ands; refine (hA _ (by assumption)).mono ?_; rintro e w10 ⟨rfl, hb⟩; have K := belowStep hb (w0 := w3) (by assumption))))
    all_goals go_split_ands
    all_goals
      go_wp2_with fail
      go_ret
      exact ⟨ret_int HN.out.symm, B3.trans (Below.mono (B := w3.heap.size) (by assumption) B3.size)⟩
end Go.Proofs.YtignjjnflcpiiaaGreatDoor
namespace Go.Proofs.YtignjjnflcpiiaaGreatDoor
open Go
theorem sig_len (j : Nat) : (sigT.getD j ([], [])).1.length ≤ (sigT.getD j ([], [])).2.length ∧ ((sigT.getD j ([], [])).1.length ≤ 1) := by
  match j with
  | 0 => decide
  | 1 => decide
  | 2 => decide
  | 3 => decide
  | 4 => decide
  | j + 5 => simp [sigT]
theorem unescF_len : ∀ (k : Nat) (l : Bs), (unescF k l).length ≤ l.length
  | 0, l => by simp [unescF]
  | k + 1, l => by
    unfold unescF
    split
    · simp
    · rename_i h0
      have h1 : 0 < l.length := List.length_pos_iff.2 h0
      cases hs : sigI l with
      | none =>
        have := unescF_len k (l.drop 1)
        simp only [List.length_append, List.length_take, List.length_drop] at *
        omega
      | some j =>
        have := unescF_len k (l.drop (sigT.getD j ([], [])).2.length)
        have h2 := sig_len j
        simp only [List.length_append, List.length_drop] at *
        omega
theorem unescT_len (l : Bs) : (unescT l).length ≤ l.length := unescF_len _ _
def ValOk (l : List Lnk) : Prop := ∀ x ∈ l, x.2.2.length ≤ x.2.1
theorem ValOk.nil : ValOk [] := fun x h => by cases h
theorem ValOk.append {l m : List Lnk} (h1 : ValOk l) (h2 : ValOk m) : ValOk (l ++ m) := fun x h => by
  rcases List.mem_append.1 h with h | h
  · exact h1 x h
  · exact h2 x h
theorem valueN_ok (s name : Bs) (i : Nat) : ValOk (valueN s name i).2.2 := by
  unfold valueN
  cases s.drop i with
  | nil => exact ValOk.nil
  | cons c l =>
    simp only
    generalize (if (c == 34 || c == 39) = true then Lib.indexByte l c else Lib.indexAny (c :: l) [32, 9, 13, 10, 62]) = k
    generalize (if (c == 34 || c == 39) = true then 1 else 0) = o
    by_cases hk : k < 0
    · rw [if_pos hk]; exact ValOk.nil
    · rw [if_neg hk]
      simp only
      split
      · intro x hx
        simp only [List.mem_singleton] at hx
        subst hx
        refine Nat.le_trans (unescT_len _) ?_
        simp only [List.length_take]
        omega
      · exact ValOk.nil
theorem attrN_ok (s : Bs) (i : Nat) : ValOk (attrN s i).2.2 := by
  unfold attrN
  simp only
  cases s.drop (i + runN (s.drop i) [32, 9, 13, 10, 47]) with
  | nil => exact ValOk.nil
  | cons c l =>
    simp only
    split
    · exact ValOk.nil
    · split
      · exact ValOk.nil
      · split
        · exact valueN_ok _ _ _
        · exact ValOk.nil
theorem attrsF_ok (s : Bs) : ∀ f i, ValOk (attrsF s f i).2
  | 0, _ => ValOk.nil
  | f + 1, i => by
    have h := attrN_ok s i
    unfold attrsF
    generalize attrN s i = r at h
    obtain ⟨b, j, l⟩ := r
    cases b with
    | true => exact h.append (attrsF_ok s f j)
    | false => exact h
theorem tagN_ok (s : Bs) (i : Nat) : ValOk (tagN s i).2 := by
  unfold tagN
  simp only
  split
  · exact attrsF_ok _ _ _
  · exact attrsF_ok _ _ _
theorem linksF_ok (s : Bs) : ∀ f i, ValOk (linksF s f i)
  | 0, _ => ValOk.nil
  | f + 1, i => by
    unfold linksF
    simp only
    cases s.drop (skipN s [60] i) with
    | nil => exact ValOk.nil
    | cons c l =>
      simp only
      split
      · exact linksF_ok s f _
      · split
        · exact linksF_ok s f _
        · split
          · exact (tagN_ok _ _).append (linksF_ok s f _)
          · exact linksF_ok s f _
theorem linksT_ok (s : Bs) : ValOk (linksT s) := linksF_ok s _ _
theorem Lies.sum : ∀ {l : List Lnk} {i j : Nat}, Lies i l j → i + (l.map fun x => x.2.1).sum ≤ j
  | [], i, j, h => by have := h.le; simpa using this
  | x :: l, i, j, h => by
    have ih := Lies.sum (l := l) h.2
    have := h.1
    simp only [List.map_cons, List.sum_cons]
    omega
theorem Lies.mem : ∀ {l : List Lnk} {i j : Nat}, Lies i l j → ∀ x ∈ l, x.1 + x.2.1 ≤ j
  | x :: l, i, j, h, y, hy => by
    rcases List.mem_cons.1 hy with rfl | hy
    · exact Lies.le (l := l) h.2
    · exact Lies.mem (l := l) h.2 y hy
theorem linksT_sum (s : Bs) : ((linksT s).map fun x => x.2.1).sum ≤ s.length := by
  have := (linksT_lies s).1.sum
  omega
theorem linksT_val (s : Bs) : ∀ x ∈ linksT s, x.2.2.length ≤ s.length := fun x hx => by
  have h1 := linksT_ok s x hx
  have h2 := (linksT_lies s).1.mem x hx
  omega
end Go.Proofs.YtignjjnflcpiiaaGreatDoor
namespace Go.Proofs.YtignjjnflcpiiaaGreatDoor
open Go Go.RowKit
abbrev Led1 := Bs × Int
def ledC (x : Led1) : List Value := [.string ⟨x.1.toArray⟩, .int .i64 x.2]
theorem ledC_len (x : Led1) : (ledC x).length = 2 := rfl
theorem ledC_one (x : Led1) : ∀ u ∈ ledC x, u.oneCell' = true := fun u hu => by
  simp [ledC] at hu
  rcases hu with rfl | rfl <;> rfl
theorem infoLed : (Tryz.prog.info? 46).map (fun i => (i.zero, i.size, i.bytes)) = some (some (.agg #[.string ByteArray.empty, .int .i64 0]), 2, 24) := by kernel_rfl
abbrev OwnD (w : World) (B : Nat) (v : Value) (l : List Led1) : Prop := OwnG 46 2 ledC w B v l
theorem cellD1 (w : World) (x : Led1) (t : TypeId) (b : Nat) (hb : b = w.heap.size) : ∀ j u, ([x].flatMap ledC)[j]? = some u → (w.alloc (.cells #[.string ⟨x.1.toArray⟩, .int .i64 x.2] t)).cell? ((⟨b, 0, none⟩ : Go.Addr).add j) = some u := fun j u hj => by
  subst hb
  rw [addr_add0, (Blk.new w #[.string ⟨x.1.toArray⟩, .int .i64 x.2] t).cell]
  match j, hj with
  | 0, hj => exact hj
  | 1, hj => exact hj
  | j + 2, hj => simp [ledC] at hj
def LeadsOr (B : Nat) (r : Option (List Led1)) (e : Ending) (w' : World) : Prop :=
  (∃ l v, r = some l ∧ e = .returned (.tuple #[v, .nilIface]) ∧ OwnD w' B v l) ∨ (r = none ∧ e = .returned (.tuple #[.slice none 0 0, .iface 30 (.int .i64 2)]))
theorem PrtSm.part {n : Nat} {p : Prt} (h : PrtSm (n + 1) p) {q : Prt} (hq : q ∈ p.parts) : PrtSm n q := by
  obtain ⟨a, b, c, d⟩ := p
  exact h.2.2.2 q hq
theorem PrtSm.head : ∀ {n : Nat} {p : Prt}, PrtSm n p → weight p.head ≤ 20000 ∧ p.body.length ≤ 60002 ∧ p.parts.length ≤ 20002
  | 0, _, h => h.elim
  | _ + 1, .mk _ _ _ _, ⟨h1, h2, h3, _⟩ => ⟨h1, h2, h3⟩
theorem RdPrt.parts {P : Nat → Prop} {n : Nat} {w : World} {r : PRaw} {p : Prt} (h : RdPrt P (n + 1) w r p) : ∃ raws : List PRaw, RdB 4 prtC P w (slv r.2.2.2) raws ∧ raws.length = p.parts.length ∧ ∀ k (h1 : k < raws.length) (h2 : k < p.parts.length), RdPrt P n w raws[k] p.parts[k] := by
  obtain ⟨a, b, c, d⟩ := p
  obtain ⟨_, _, _, raws, h4, h5, h6⟩ := h
  exact ⟨raws, h4, h5, h6⟩
theorem RdPrt.body {P : Nat → Prop} {n : Nat} {w : World} {r : PRaw} {p : Prt} (h : RdPrt P (n + 1) w r p) : r.2.1 = p.body := by
  obtain ⟨a, b, c, d⟩ := p
  exact h.1
theorem Blk.set8 {w : World} {b : Nat} {t : TypeId} {x0 x1 x2 x3 x4 x5 x6 x7 : Value} (h : Blk w b #[x0, x1, x2, x3, x4, x5, x6, x7] t) (y0 y1 y2 y3 y4 y5 y6 y7 : Value) :
    Blk ((((((((w.setCell ⟨b, 0, none⟩ y0).setCell ⟨b, 1, none⟩ y1).setCell ⟨b, 2, none⟩ y2).setCell ⟨b, 3, none⟩ y3).setCell ⟨b, 4, none⟩ y4).setCell ⟨b, 5, none⟩ y5).setCell ⟨b, 6, none⟩ y6).setCell ⟨b, 7, none⟩ y7) b #[y0, y1, y2, y3, y4, y5, y6, y7] t := by
  have h8 := (((((((h.set 0 y0).set 1 y1).set 2 y2).set 3 y3).set 4 y4).set 5 y5).set 6 y6).set 7 y7
  simpa using h8
theorem below_set8 {B b : Nat} {w0 w : World} (h : Below B w0 w) (hb : B ≤ b) (y0 y1 y2 y3 y4 y5 y6 y7 : Value) :
    Below B w0 ((((((((w.setCell ⟨b, 0, none⟩ y0).setCell ⟨b, 1, none⟩ y1).setCell ⟨b, 2, none⟩ y2).setCell ⟨b, 3, none⟩ y3).setCell ⟨b, 4, none⟩ y4).setCell ⟨b, 5, none⟩ y5).setCell ⟨b, 6, none⟩ y6).setCell ⟨b, 7, none⟩ y7) :=
  (((((((h.setCell hb y0).setCell hb y1).setCell hb y2).setCell hb y3).setCell hb y4).setCell hb y5).setCell hb y6).setCell hb y7
theorem Blk.setA {w : World} {b : Nat} {t : TypeId} {x0 x1 x2 x3 x4 x5 x6 x7 : Value} (h : Blk w b #[x0, x1, x2, x3, x4, x5, x6, x7] t) (y : Addr) :
    Blk ((((((((w.setCell ⟨b, 0, none⟩ (.string ⟨y.scheme.toArray⟩)).setCell ⟨b, 1, none⟩ (.bool y.hasAuth)).setCell ⟨b, 2, none⟩ (.string ⟨y.auth.toArray⟩)).setCell ⟨b, 3, none⟩ (.string ⟨y.path.toArray⟩)).setCell ⟨b, 4, none⟩ (.bool y.hasQuery)).setCell ⟨b, 5, none⟩ (.string ⟨y.query.toArray⟩)).setCell ⟨b, 6, none⟩ (.bool y.hasFrag)).setCell ⟨b, 7, none⟩ (.string ⟨y.frag.toArray⟩)) b #[(.string ⟨y.scheme.toArray⟩), (.bool y.hasAuth), (.string ⟨y.auth.toArray⟩), (.string ⟨y.path.toArray⟩), (.bool y.hasQuery), (.string ⟨y.query.toArray⟩), (.bool y.hasFrag), (.string ⟨y.frag.toArray⟩)] t := Blk.set8 h (.string ⟨y.scheme.toArray⟩) (.bool y.hasAuth) (.string ⟨y.auth.toArray⟩) (.string ⟨y.path.toArray⟩) (.bool y.hasQuery) (.string ⟨y.query.toArray⟩) (.bool y.hasFrag) (.string ⟨y.frag.toArray⟩)
theorem below_setA {B b : Nat} {w0 w : World} (h : Below B w0 w) (hb : B ≤ b) (y : Addr) :
    Below B w0 ((((((((w.setCell ⟨b, 0, none⟩ (.string ⟨y.scheme.toArray⟩)).setCell ⟨b, 1, none⟩ (.bool y.hasAuth)).setCell ⟨b, 2, none⟩ (.string ⟨y.auth.toArray⟩)).setCell ⟨b, 3, none⟩ (.string ⟨y.path.toArray⟩)).setCell ⟨b, 4, none⟩ (.bool y.hasQuery)).setCell ⟨b, 5, none⟩ (.string ⟨y.query.toArray⟩)).setCell ⟨b, 6, none⟩ (.bool y.hasFrag)).setCell ⟨b, 7, none⟩ (.string ⟨y.frag.toArray⟩)) := below_set8 h hb (.string ⟨y.scheme.toArray⟩) (.bool y.hasAuth) (.string ⟨y.auth.toArray⟩) (.string ⟨y.path.toArray⟩) (.bool y.hasQuery) (.string ⟨y.query.toArray⟩) (.bool y.hasFrag) (.string ⟨y.frag.toArray⟩)
set_option maxHeartbeats 16000000 in
set_option maxRecDepth 100000 in
theorem bleads_any (P : Nat → Prop) (bp : Nat) (b : Bnd) (i : Int) (w : World) (h : RdBnd P w bp b) (hin : BndIn b) (hg : Gr w) (hi1 : -9223372036854775808 ≤ i) (hi2 : i ≤ 9223372036854775807) :
    Calls Tryz.prog 16 #[.pointer (some ⟨bp, 0, none⟩), .int .i64 i] w fun e w' => LeadsOr w.heap.size (leadsB b i) e w' ∧ Below w.heap.size w w' := by
  have hb := RdBnd.weak (Q := fun _ => True) (fun _ _ _ => trivial) h
  have HB := Lib.hid hb
  obtain ⟨raw, sa, si, _, hkb, hrw, hpla, _⟩ := hb
  obtain ⟨s0, sn, sc⟩ := sa
  have hsn : sn = b.places.length := by
    obtain ⟨a, c, e, _⟩ := hpla
    injection e
  subst hsn
  have hpl := hin.places
  have hPS := hin.whole
  have hp3 := hPS.head.2.2
  obtain ⟨raws, hrp, hrl, hch⟩ := hrw.parts
  obtain ⟨⟨ra, rn, rc⟩, rb, rm, ⟨ra', rn', rc'⟩⟩ := raw
  have hrn : rn' = b.whole.parts.length := by
    obtain ⟨a, c, e, _⟩ := hrp
    injection e with _ e _
    exact e.trans hrl
  subst hrn
  unfold bndC at hkb
  simp only [slv] at hkb hpla hrp
  have kb := hkb.cell
  clear h hrw
  by_cases h0 : i < 0
  · have HN := Lib.hid (show leadsB b i = none from by unfold leadsB; rw [if_pos h0])
    go_enter Tryz.func16, Tryz.ntmps16
    go_wp2_with fail
    go_ret2
    exact ⟨Or.inr ⟨HN.out, rfl⟩, Below.refl _ _⟩
  by_cases hlt : i < b.places.length
  case neg =>
    have HN := Lib.hid (show leadsB b i = none from by unfold leadsB; rw [if_neg h0, List.getElem?_eq_none (by omega)])
    have hge : (b.places.length : Int) ≤ i := by omega
    go_enter Tryz.func16, Tryz.ntmps16
    go_wp2_with fail
    go_ret2
    exact ⟨Or.inr ⟨HN.out, rfl⟩, Below.refl _ _⟩
  obtain ⟨k, rfl⟩ : ∃ k : Nat, i = k := ⟨i.toNat, by omega⟩
  have hk : k < b.places.length := by omega
  have hk2 : k < b.whole.parts.length := by omega
  have HN := Lib.hid (show leadsB b (k : Int) = some (leadsAt b b.whole.parts[k] b.places[k]) from by
    unfold leadsB
    rw [if_neg h0]
    simp [hk, hk2])
  obtain ⟨pb, rfl, _, hpb, hcell⟩ := hrp.at prtC_len k (by omega)
  obtain ⟨ab, rfl, _, hab, hacell⟩ := hpla.at adrC_len k hk
  have hq1 := hch k (by omega) hk2
  have hqS := hPS.part (List.getElem_mem hk2)
  have hal := hin.placeL _ (List.getElem_mem hk)
  have c0 := hcell 0 (by decide)
  have c1 := hcell 1 (by decide)
  have c2 := hcell 2 (by decide)
  have c3 := hcell 3 (by decide)
  clear hcell hch
  generalize b.whole.parts[k] = p at HN hq1 hqS
  generalize b.places[k] = a0 at HN hal hacell
  generalize raws[k]'(by omega) = raw at hq1 c0 c1 c2 c3
  have hbd := hq1.body
  obtain ⟨⟨qa, qn, qc⟩, qb, qm, ⟨qa', qn', qc'⟩⟩ := raw
  simp only at hbd
  subst hbd
  simp only [prtC, slv, Nat.add_zero, List.getElem?_cons_zero, List.getElem?_cons_succ] at c0 c1 c2 c3
  have hHt := html_any 3 ((qa, qn, qc), p.body, qm, (qa', qn', qc')) p w hq1 ((weight_n hqS.head.1).mono (by decide)) hg
  simp only [prtV, slv] at hHt
  have HL := Lib.hid (show leadsAt b p a0 = if htmlB p then (linksT p.body).map fun x => leadOf b a0 x.2.2 else [] from rfl)
  have hLk := fun W hW => links_any p.body W hW (by have := hqS.head.2.1; omega)
  have hVal := linksT_val p.body
  have hLn := (linksT_lies p.body).2
  have hbl := hqS.head.2.1
  generalize linksT p.body = L at HL hLk hVal hLn
  generalize htmlB p = ht at hHt HL
  have i0 : (0 : Int) ≤ k := by omega
  have dk : decide ((k : Int) < 0) = false := by rw [decide_eq_false_iff_not]; omega
  have i1 : (k : Int) < b.places.length := by omega
  have i2 : (k : Int) < b.whole.parts.length := by omega
  clear hq1 h0 hrp hpla
  go_enter Tryz.func16, Tryz.ntmps16
  go_wp2_with fail
  with_reducible refine hHt.mono ?_
  rintro e w1 ⟨rfl, b1⟩
  cases ht with
  | false =>
    have HN := Lib.hid (show leadsB b (k : Int) = some [] from by rw [HN.out, HL.out]; rfl)
    go_wp2_with fail
    go_ret2
    exact ⟨Or.inl ⟨[], _, HN.out, rfl, OwnG.nil _ _ _ _ _⟩, b1⟩
  | true =>
  have HN := Lib.hid (show leadsB b (k : Int) = some (L.map fun x => leadOf b a0 x.2.2) from by rw [HN.out, HL.out]; rfl)
  have kb1 := (hkb.next b1 hkb.lt).cell
  have d1 := (b1.cell (p := ⟨pb, k * 4 + 1, none⟩) hpb).trans c1
  have hg1 := hg.next b1
  have hs1 := b1.size
  clear hHt HL c0 c1 c2 c3 kb
  go_wp2_with fail
  with_reducible refine (hLk _ hg1).mono ?_
  rintro e w2 ⟨v2, rfl, hownL, b2⟩
  have hLB := OwnG.rdB (by decide) lnkC_len hownL
  obtain ⟨la, lc, hv2, _⟩ := hLB.rd
  subst hv2
  have B2 := b1.trans (b2.mono hs1)
  have hg2 := hg1.next b2
  have hs2 := B2.size
  have hval := Lib.hid hVal
  clear hLk b2 kb1 d1 hg1 hownL hVal b1
  have HAC := Lib.hid hacell
  have HPL := Lib.hid hpl
  have hpl1 : b.places.length ≤ 1000000 := by omega
  have hil1 : b.ids.length ≤ 1000000 := by have := hin.ids; omega
  have HB2 := Lib.hid (HB.out.next B2)
  have hkb2 := hkb.next B2 hkb.lt
  clear hacell hkb HB hs1
  go_wp2_with fail
  go_loopw [6, 44] (fun ov iv wr => ∃ (j : Nat) (out : List Led1), iv = .int .i64 j ∧ j ≤ L.length ∧ out.length = j ∧ OwnD wr w2.heap.size ov out ∧ Hid (out ++ (L.drop j).map (fun x => leadOf b a0 x.2.2) = L.map fun x => leadOf b a0 x.2.2) ∧ Below w2.heap.size w2 wr) (fun _ iv _ => L.length - (intOf iv).toNat)
  case atStart => exact ⟨0, [], rfl, by omega, rfl, OwnG.nil _ _ _ _ _, Lib.hid (by simp), Below.refl _ _⟩
  case round =>
    obtain ⟨j, out, rfl, hj, hol, hown, Hall, B⟩ := hrel
    by_cases hlt2 : j < L.length
    · obtain ⟨lb, rfl, _, hlb, hcell⟩ := hLB.at lnkC_len j hlt2
      have hxv := hval.out _ (List.getElem_mem hlt2)
      have HS := Lib.hid (show ∀ y, leadOf b a0 (L[j]).2.2 = y → (out ++ [y]) ++ (L.drop (j + 1)).map (fun x => leadOf b a0 x.2.2) = L.map fun x => leadOf b a0 x.2.2 from fun y hy => by
        rw [← Hall.out, List.drop_eq_getElem_cons hlt2, List.map_cons, hy]; simp)
      have e0 := (B.cell (p := ⟨lb, j * 3 + 0, none⟩) hlb).trans (hcell 0 (by decide))
      have e1 := (B.cell (p := ⟨lb, j * 3 + 1, none⟩) hlb).trans (hcell 1 (by decide))
      have e2 := (B.cell (p := ⟨lb, j * 3 + 2, none⟩) hlb).trans (hcell 2 (by decide))
      clear hcell Hall
      generalize L[j] = x at hxv HS e0 e1 e2
      obtain ⟨x1, x2, x3⟩ := x
      simp only [lnkC, Nat.add_zero, List.getElem?_cons_zero, List.getElem?_cons_succ] at hxv HS e0 e1 e2
      have kx := Blk.new wr #[.int .i64 (x1 : Int), .int .i64 (x2 : Int), .string ⟨x3.toArray⟩] 96
      have BA := (Below.refl wr.heap.size wr).alloc (Nat.le_refl _) (.cells #[.int .i64 (x1 : Int), .int .i64 (x2 : Int), .string ⟨x3.toArray⟩] 96)
      have hown := OwnG.next hown BA
      have B1 := B.trans (BA.mono B.size)
      have hg3 := hg2.next B1
      have hR := fun W hW => addrRead_any x3 W (by omega) hW
      unfold ReadPost at hR
      have HLO := Lib.hid (show leadOf b a0 x3 = match readA x3 with
        | none => (x3, -1)
        | some a => (writeA (resolveA a0 a), findB b (resolveA a0 a)) from rfl)
      have hrl := fun a (h : readA x3 = some a) => readA_len h
      generalize readA x3 = ra at hR HLO hrl
      have kxc := kx.cell
      have hsz1 : (wr.alloc (.cells #[.int .i64 (x1 : Int), .int .i64 (x2 : Int), .string ⟨x3.toArray⟩] 96)).heap.size = wr.heap.size + 1 := by simp
      have hwr := B.size
      clear BA B
      go_wp2_with fail
      generalize World.alloc _ _ = W1 at kx hown B1 hg3 kxc hsz1 ⊢
      with_reducible refine (hR _ hg3.g).mono ?_
      rintro e w4 ⟨rfl, b4⟩
      have kx := kx.next b4 kx.lt
      have hown := OwnG.next hown b4
      have B4 := B1.trans (b4.mono B1.size)
      have hg4 := hg3.next b4
      have hs4 := b4.size
      clear hR b4 hg3 B1 e0 e1 e2 kxc
      cases ra with
      | none =>
        have HST := Lib.hid (HS.out (x3, -1) HLO.out)
        have BA := (Below.refl w4.heap.size w4).alloc (Nat.le_refl _) (.cells Addr.zero.cells 36)
        have kx := kx.next BA kx.lt
        have hown := OwnG.next hown BA
        have B5 := B4.trans (BA.mono B4.size)
        have hs5 := BA.size
        simp only [Addr.zero] at kx hown B5 hs5 ⊢
        have kxc := kx.cell
        clear BA hg4 B4 HS HLO
        go_wp2_with (at_builtin; refine appG2 (α := Led1) (cs := ledC) (size := 2) (z := .agg #[.string ByteArray.empty, .int .i64 0]) ledC_len ledC_one infoLed rfl (by decide) Tryz.underlying39 rfl _ _ rfl w2.heap.size _ out [(x3, -1)] ⟨_, 0, none⟩ 1 1 rfl rfl (OwnG.alloc hown _) rfl (cellD1 _ (x3, -1) _ _ (by simp)) (by simp; omega) (by unfold maxLen; simp; omega) (by have := B5.size; simp at *; omega) ?_; intro v' w6 hown6 hg6 hb6 hob)
        go_wp2_with fail
        go_roundw
        case rel => exact ⟨j + 1, out ++ [(x3, -1)], by go_num, by omega, by simp; omega, hown6, HST, (B5.alloc B5.size _).trans hb6⟩
        case measure => simp [intOf]; omega
      | some a =>
        have hra := hrl a rfl
        have hRl := resolve_len a0 a
        have HLO2 := Lib.hid (show leadOf b a0 x3 = (writeA (resolveA a0 a), findB b (resolveA a0 a)) from HLO.out)
        have HST := Lib.hid (HS.out _ HLO2.out)
        have BA := (Below.refl w4.heap.size w4).alloc (Nat.le_refl _) (.cells a.cells 36)
        have k9 := Blk.new w4 a.cells 36
        have hRes := fun W hW => resolve_any a0 a W (by unfold Addr.len at hal; omega) (by unfold Addr.len at hra; omega) hW
        clear HS HLO HLO2
        go_upto_region 12 with fail
        generalize World.alloc _ _ = w5 at k9 BA ⊢
        have B5 := B4.trans (BA.mono B4.size)
        have kd := Blk.drew (hkb2.next B5 hkb2.lt)
        have k9d := Blk.drew k9
        have hgd : Ground w5.drew := (hg4.next BA.drew).g
        have hac := fun i hi => ((B2.trans (B5.mono hs2)).drew.cell (p := ⟨ab, k * 8 + i, none⟩) hab).trans (HAC.out i hi)
        have c0 := hac 0 (by decide)
        have c1 := hac 1 (by decide)
        have c2 := hac 2 (by decide)
        have c3 := hac 3 (by decide)
        have c4 := hac 4 (by decide)
        have c5 := hac 5 (by decide)
        have c6 := hac 6 (by decide)
        have c7 := hac 7 (by decide)
        simp only [adrC, Nat.add_zero, List.getElem?_cons_zero, List.getElem?_cons_succ] at c0 c1 c2 c3 c4 c5 c6 c7
        clear hac
        have hWr := fun W => addrWrite_any (resolveA a0 a) W (by omega)
        have hFi := fun W hW => find_any (fun _ => True) bp b (resolveA a0 a) W hW (by omega) hpl1 hil1
        generalize resolveA a0 a = r at hRes HST hWr hFi
        go_cut [70] (fun _ wx => Blk wx w4.heap.size r.cells 36 ∧ Below w4.heap.size w5 wx)
        case first =>
          have kdc := kd.cell
          have k9c := k9d.cell
          have k9f := k9d.free
          have hs45 := BA.size
          clear hWr hFi
          go_region_law ((go_simp; with_reducible refine (hRes _ hgd).mono ?_; rintro e w6 ⟨rfl, hb6⟩; have k96 := k9d.next hb6 k9d.lt; have k96c := k96.cell; have k96f := k96.free; have K6 := belowStep hb6 (w0 := w5) ((Below.refl w5.heap.size w5).drew)))
          all_goals
            go_wp2_with fail
            go_meet
            exact ⟨Blk.set8 k96 _ _ _ _ _ _ _ _, below_set8 (K6.mono hs45) (Nat.le_refl _) _ _ _ _ _ _ _ _⟩
        case rest =>
        obtain ⟨k97, K7⟩ := hcut
        obtain ⟨w7, rfl⟩ : ∃ x : World, x = wc := ⟨_, rfl⟩
        have B47 := BA.trans K7
        have hown := OwnG.next hown B47
        have B7 := B4.trans (B47.mono B4.size)
        have HB7 := Lib.hid (HB2.out.next B7)
        have k97d := Blk.drew k97
        have k97c := k97d.cell
        have b78 := B7.size
        clear hRes K7 BA B47 B5 kd k9 k9d hgd c0 c1 c2 c3 c4 c5 c6 c7 hg4
        generalize findB b r = fv at hFi HST
        generalize writeA r = wv at hWr HST
        have q1 := Lib.hid (show (out.length + [(wv, fv)].length) * 24 ≤ 140737488355328 from by simp; omega)
        have q2 := Lib.hid (show out.length + [(wv, fv)].length ≤ maxLen from by unfold maxLen; simp; omega)
        go_upto_region 13 with fail
        go_region_law ((first
          | (refine stepG (α := Led1) (cs := ledC) (size := 2) (z := .agg #[.string ByteArray.empty, .int .i64 0]) ledC_len ledC_one infoLed rfl (by decide) Tryz.underlying39 rfl _ _ rfl w2.heap.size _ out [(wv, fv)] ⟨w9.heap.size, 0, none⟩ 1 1 rfl (by decide) rfl hown9 rfl hcell9 q1.out q2.out hbase9.out ?_; intro v' w11 hown11 hg11 hb11)
          | (go_simp; with_reducible refine (hFi _ (HB7.out.next K8.out)).mono ?_; rintro e w9 ⟨rfl, hb9⟩; have K9 := Lib.hid (belowStep hb9 (w0 := w7) K8.out); have hown9 := OwnG.alloc (OwnG.next (w := w7) hown K9.out) (.cells #[.string ⟨wv.toArray⟩, .int .i64 fv] 46); have hcell9 := cellD1 w9 (wv, fv) 46 _ rfl; have hbase9 := Lib.hid (show w2.heap.size ≤ (w9.alloc (.cells #[.string ⟨wv.toArray⟩, .int .i64 fv] 46)).heap.size from by have := K9.out.size; simp at this ⊢; omega))
          | (go_simp; with_reducible refine (hWr _).mono ?_; rintro e w8 ⟨rfl, hb8⟩; have k98c := (k97d.next hb8 k97d.lt).cell; have K8 := Lib.hid (belowStep hb8 (w0 := w7) ((Below.refl w7.heap.size w7).drew)))))
        all_goals
          go_wp2_with fail
          go_roundw
          case rel => exact ⟨j + 1, out ++ [(wv, fv)], by go_num, by omega, by simp; omega, hown11, HST, ((B7.trans (K9.out.mono B7.size)).alloc (Nat.le_trans B7.size K9.out.size) _).trans hb11⟩
          case measure => simp [intOf]; omega
    · obtain rfl : j = L.length := by omega
      have HD := Lib.hid (show leadsB b (k : Int) = some out from by rw [HN.out, ← Hall.out, List.drop_length]; simp)
      clear Hall HN
      go_wp2_with fail
      go_ret2
      exact ⟨Or.inl ⟨out, _, HD.out, rfl, OwnG.mono hown hs2⟩, B2.trans (B.mono hs2)⟩
end Go.Proofs.YtignjjnflcpiiaaGreatDoor
