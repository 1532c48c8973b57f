/- desk's must, words, read, number. Condition: so many bytes; what the variables hold; bundle.sign: the first sign that stands nowhere. Condition: what the variables hold; so much in the whole; bundle.sign, and the names that Bind gives. Condition: what the variables hold; so much in the whole. -/
import Derived.Test.YtignjjnflcpiiaaGreatDoorQ24
namespace Go.Proofs.YtignjjnflcpiiaaGreatDoor
open Go Go.RowKit
def thrown (c : Int) : Ending := .panicked [{ v := .iface 199 (.agg #[.int .i64 c]), recovered := false }]
set_option maxHeartbeats 4000000 in
set_option maxRecDepth 100000 in
theorem must_nil (w : World) : Calls Tryz.prog 135 #[.nilIface] w fun e w' => e = .returned (.tuple #[]) ∧ w = w' := by
  go_enter Tryz.func135, Tryz.ntmps135
  go_wp2_with fail
  go_end0
  exact ⟨rfl, rfl⟩
set_option maxHeartbeats 4000000 in
set_option maxRecDepth 100000 in
theorem must_err (v : Value) (n : Int) (w : World) (hv : ErrN w v n) (hg : Gr w) : Calls Tryz.prog 135 #[v] w fun e w' => e = thrown n ∧ Below w.heap.size w w' := by
  have hT := tell_any v n w hv.v hg
  obtain ⟨t, x, rfl⟩ := hv.some
  go_enter Tryz.func135, Tryz.ntmps135
  go_wp2_with fail
  with_reducible refine hT.mono ?_
  rintro e w1 ⟨rfl, b1⟩
  go_wp2_with fail
  exact ⟨rfl, rfl, b1⟩
set_option maxHeartbeats 4000000 in
set_option maxRecDepth 100000 in
theorem words_ok (a : Option Go.Addr) (n c : Nat) (k : Int) (hk : ((n : Int) == k) = true) (w : World) :
    Calls Tryz.prog 277 #[.slice a n c, .int .i64 k] w fun e w' => e = .returned (.tuple #[]) ∧ w = w' := by
  go_enter Tryz.func277, Tryz.ntmps277
  go_wp2_with fail
  go_end0
  exact ⟨rfl, rfl⟩
set_option maxHeartbeats 4000000 in
set_option maxRecDepth 100000 in
theorem words_no (a : Option Go.Addr) (n c : Nat) (k : Int) (hk : ((n : Int) == k) = false) (w : World) (hg : Gr w) :
    Calls Tryz.prog 277 #[.slice a n c, .int .i64 k] w fun e w' => e = thrown 3 ∧ Below w.heap.size w w' := by
  have hM := must_err (.iface 30 (.int .i64 3)) 3 w (Or.inl rfl) hg
  unfold thrown at hM ⊢
  go_enter Tryz.func277, Tryz.ntmps277
  go_wp2_with fail
  with_reducible refine hM.mono ?_
  rintro e w1 ⟨rfl, b1⟩
  go_wp2_with fail
  exact ⟨rfl, rfl, b1⟩
theorem atoiAll_bd {l : Bs} {v : Int} (h : Lib.atoiAll l = .ok v) : -9223372036854775808 ≤ v ∧ v ≤ 9223372036854775807 := by
  unfold Lib.atoiAll at h
  cases l with
  | nil => cases h
  | cons c r =>
    simp only at h
    generalize Lib.parseMag _ = x at h
    rcases x with u | _ | _
    · simp only at h
      split at h
      · cases h
      · split at h
        · cases h
        · cases h
          split <;> omega
    · cases h
    · cases h
set_option maxHeartbeats 8000000 in
set_option maxRecDepth 100000 in
theorem number_any (s : Bs) (w : World) (hs : s.length ≤ 1000000000000) (hg : Gz w) :
    Calls Tryz.prog 279 #[.string ⟨s.toArray⟩] w fun e w' => (match numN s with | none => e = thrown 3 | some n => e = .returned (.int .i64 n)) ∧ Below w.heap.size w w' := by
  have hM := fun W hW => must_err (.iface 30 (.int .i64 3)) 3 W (Or.inl rfl) hW
  unfold thrown at hM ⊢
  rcases ha : Lib.atoiAll s with v | _ | _
  · have hA := (Tryz.strconv_Atoi_ok ⟨s.toArray⟩ (by simp [ByteArray.size]; omega) v ha w).mono (R' := fun e w' => e = .returned (.tuple #[.int .i64 v, .nilIface]) ∧ Below w.heap.size w w') (by
      rintro e w' ⟨rfl, rfl | ⟨t, rfl⟩⟩
      · exact ⟨rfl, Below.refl _ _⟩
      · exact ⟨rfl, Lib.bytesWorld_below _ _ _⟩)
    have hbd := atoiAll_bd ha
    have hI := fun W hW => itoa_any v hbd.1 hbd.2 W hW
    have HN := Lib.hid (show numN s = if Lib.itoa v = s then some v else none from by unfold numN; rw [ha])
    generalize Lib.itoa v = iv at hI HN
    clear ha
    by_cases he : iv = s
    · have HN := Lib.hid (show numN s = some v from by rw [HN.out, if_pos he])
      have he2 : (iv == s) = true := by rw [beq_iff_eq]; exact he
      rw [HN.out]
      clear he
      go_enter Tryz.func279, Tryz.ntmps279
      go_wp2_with fail
      with_reducible refine hA.mono ?_
      rintro e w1 ⟨rfl, b1⟩
      go_wp2_with fail
      with_reducible refine (hI _ (hg.next b1)).mono ?_
      rintro e w2 ⟨rfl, b2⟩
      go_wp2_with fail
      go_ret
      exact ⟨rfl, b1.trans (b2.mono b1.size)⟩
    · have HN := Lib.hid (show numN s = none from by rw [HN.out, if_neg he])
      have he2 : (iv == s) = false := by rw [beq_eq_false_iff_ne]; exact he
      rw [HN.out]
      clear he
      go_enter Tryz.func279, Tryz.ntmps279
      go_wp2_with fail
      with_reducible refine hA.mono ?_
      rintro e w1 ⟨rfl, b1⟩
      go_wp2_with fail
      with_reducible refine (hI _ (hg.next b1)).mono ?_
      rintro e w2 ⟨rfl, b2⟩
      have b12 := b1.trans (b2.mono b1.size)
      go_wp2_with fail
      with_reducible refine (hM _ (hg.next b12).r).mono ?_
      rintro e w3 ⟨rfl, b3⟩
      go_wp2_with fail
      exact ⟨rfl, rfl, b12.trans (b3.mono b12.size)⟩
  · have HN := Lib.hid (show numN s = none from by unfold numN; rw [ha])
    obtain ⟨ev, h1, h2⟩ := hg.syn
    have hA := Tryz.strconv_Atoi_syntax ⟨s.toArray⟩ (by simp [ByteArray.size]; omega) ha ev w h1 h2
    rw [HN.out]
    clear h2
    go_enter Tryz.func279, Tryz.ntmps279
    go_wp2_with fail
    with_reducible refine hA.mono ?_
    rintro e w1 ⟨N, rfl, _, _, b1⟩
    go_wp2_with fail
    with_reducible refine (hM _ (hg.next b1).r).mono ?_
    rintro e w2 ⟨rfl, b2⟩
    go_wp2_with fail
    exact ⟨rfl, rfl, b1.trans (b2.mono b1.size)⟩
  · have HN := Lib.hid (show numN s = none from by unfold numN; rw [ha])
    obtain ⟨ev, h1, h2⟩ := hg.rng
    have hA := Tryz.strconv_Atoi_range ⟨s.toArray⟩ (by simp [ByteArray.size]; omega) ha ev w h1 h2
    rw [HN.out]
    clear h2
    go_enter Tryz.func279, Tryz.ntmps279
    go_wp2_with fail
    with_reducible refine hA.mono ?_
    rintro e w1 ⟨N, rfl, _, _, b1⟩
    go_wp2_with fail
    with_reducible refine (hM _ (hg.next b1).r).mono ?_
    rintro e w2 ⟨rfl, b2⟩
    go_wp2_with fail
    exact ⟨rfl, rfl, b1.trans (b2.mono b1.size)⟩
set_option maxHeartbeats 8000000 in
set_option maxRecDepth 100000 in
theorem dread_any (s : Bs) (w : World) (hs : s.length ≤ 1000000000) (hg : Gz w) :
    Calls Tryz.prog 281 #[.string ⟨s.toArray⟩] w fun e w' => (match readA s with | none => e = thrown 3 | some a => e = .returned a.val) ∧ Below w.heap.size w w' := by
  have hM := fun W hW => must_err (.iface 30 (.int .i64 3)) 3 W (Or.inl rfl) hW
  have hM0 := fun W => must_nil W
  unfold thrown at hM ⊢
  have BA := (Below.refl w.heap.size w).alloc (Nat.le_refl _) (.cells Addr.zero.cells 36)
  have k2 := Blk.new w Addr.zero.cells 36
  have hR := fun W hW => addrRead_any s W (by omega) hW
  unfold ReadPost at hR
  generalize readA s = ra at hR
  have hg1 := hg.next BA
  simp only [Addr.zero] at BA k2 hg1
  go_enter Tryz.func281, Tryz.ntmps281
  go_upto_region 1 with fail
  generalize World.alloc _ _ = w1 at BA k2 hg1 ⊢
  go_wp2_with fail
  with_reducible refine (hR _ hg1.r.g).mono ?_
  rintro e w2 ⟨rfl, b2⟩
  have k2 := k2.next b2 k2.lt
  have B2 := BA.trans (b2.mono BA.size)
  have hg2 := hg1.next b2
  have hs2 := B2.size
  clear hR b2 BA
  cases ra with
  | none =>
    have BC := (Below.refl w2.heap.size w2).alloc (Nat.le_refl _) (.cells Addr.zero.cells 36)
    have hg3 := hg2.next BC
    have B3 := B2.trans (BC.mono hs2)
    simp only [Addr.zero] at BC hg3 B3 ⊢
    go_wp2_with fail
    generalize World.alloc _ _ = w3 at BC hg3 B3 ⊢
    with_reducible refine (hM _ hg3.r).mono ?_
    rintro e w4 ⟨rfl, b4⟩
    go_wp2_with fail
    exact ⟨rfl, rfl, B3.trans (b4.mono B3.size)⟩
  | some a =>
    have hne : w.heap.size ≠ w2.heap.size := by have := k2.lt; omega
    have BC := (Below.refl w2.heap.size w2).alloc (Nat.le_refl _) (.cells a.cells 36)
    have k3 := Blk.new w2 a.cells 36
    have k2 := k2.next BC k2.lt
    have B3 := B2.trans (BC.mono hs2)
    go_wp2_with fail
    generalize World.alloc _ _ = w3 at BC k3 k2 B3 ⊢
    with_reducible refine (hM0 _).mono ?_
    rintro e w4 ⟨rfl, rfl⟩
    have k3c := k3.cell
    have k2f := k2.free
    have k2s := Blk.setA k2 a
    have B4 := below_setA B3 (Nat.le_refl _) a
    have k2c := k2.cell
    go_wp2_with fail
    have ks := k2s.cell
    refine bodyPost_ret (v := a.val) (by simp [results, Tryz.results281, go_sem, ks, Addr.val, Addr.cells]) rfl ⟨rfl, B4⟩
theorem RdPrt.hd {P : Nat → Prop} {n : Nat} {w : World} {r : PRaw} {p : Prt} (h : RdPrt P (n + 1) w r p) : RdB 2 fldC P w (slv r.1) p.head := by
  obtain ⟨a, b, c, d⟩ := p
  exact h.2.2.1
theorem RdPrt.mn {P : Nat → Prop} {n : Nat} {w : World} {r : PRaw} {p : Prt} (h : RdPrt P (n + 1) w r p) : r.2.2.1 = p.many := by
  obtain ⟨a, b, c, d⟩ := p
  exact h.2.1
set_option maxHeartbeats 4000000 in
set_option maxRecDepth 100000 in
theorem idxFldC (g cb : Nat) (eg : ∀ args w, (callFunc g args).run Tryz.prog w = .ok (.enter g args) w) (p : Fld → Bool) (v : Value) (l : List Fld) (w : World) (hr : RdF w v l) (hlen : l.length ≤ 1000000000000)
    (hp : ∀ x ∈ l, ∀ W, Below w.heap.size w W → Calls Tryz.prog g #[.agg #[.string ⟨x.1.toArray⟩, .string ⟨x.2.toArray⟩], .pointer (some ⟨cb, 0, none⟩)] W fun e w' => e = .returned (.bool (p x)) ∧ Below W.heap.size W w') :
    Calls Tryz.prog 180 #[v, .func (.func g) #[] #[.pointer (some ⟨cb, 0, none⟩)]] w fun e w' => e = .returned (.int .i64 (idxQ p l 0)) ∧ Below w.heap.size w w' := by
  obtain ⟨a, cap, rfl, hc⟩ := hr.open
  have HC := Lib.hid hc
  have HP := Lib.hid hp
  clear hc hr hp
  go_enter Tryz.func180, Tryz.ntmps180
  go_wp2_with fail
  go_loopw [8] (fun i wr => ∃ k : Nat, i = .int .i64 k ∧ k ≤ l.length ∧ Hid (idxQ p l 0 = idxQ p (l.drop k) k) ∧ Below w.heap.size w wr) (fun i _ => l.length - (intOf i).toNat)
  case atStart => exact ⟨0, rfl, by omega, Lib.hid (by simp), Below.refl _ _⟩
  case round =>
    obtain ⟨k, rfl, hk, Hall, B⟩ := hrel
    by_cases hlt : k < l.length
    · obtain ⟨b, rfl, hb0, h1, h2⟩ := HC.out k hlt
      have HD := Lib.hid (show idxQ p (l.drop k) k = if p l[k] then (k : Int) else idxQ p (l.drop (k + 1)) (k + 1) from by rw [List.drop_eq_getElem_cons hlt]; rfl)
      have c1 := (B.cell (p := ⟨b, k * 2, none⟩) hb0).trans h1
      have c2 := (B.cell (p := ⟨b, k * 2 + 1, none⟩) hb0).trans h2
      have hG := HP.out _ (List.getElem_mem hlt) wr B
      clear h1 h2
      generalize l[k] = f at HD c1 c2 hG
      obtain ⟨x, y⟩ := f
      simp only at HD c1 c2 hG
      generalize p (x, y) = bx at hG HD
      go_wp2_with fail
      with_reducible refine hG.mono ?_
      rintro e w2 ⟨rfl, hb2⟩
      have B := B.trans (hb2.mono B.size)
      clear hb2 hG
      cases bx with
      | true =>
        have HG := Lib.hid (show idxQ p l 0 = (k : Int) from by rw [Hall.out, HD.out]; rfl)
        go_wp2_with fail
        go_ret
        exact ⟨ret_int (by rw [HG.out]), B⟩
      | false =>
        have HG := Lib.hid (show idxQ p l 0 = idxQ p (l.drop (k + 1)) (k + 1) from by rw [Hall.out, HD.out]; rfl)
        go_wp2_with fail
        go_roundw
        case rel => exact ⟨k + 1, by go_num, by omega, HG, B⟩
        case measure => simp [intOf]; omega
    · obtain rfl : k = l.length := by omega
      have HG := Lib.hid (show idxQ p l 0 = -1 from by rw [Hall.out, List.drop_length]; rfl)
      go_wp2_with fail
      go_ret
      exact ⟨ret_int (by rw [HG.out]), B⟩
set_option maxHeartbeats 4000000 in
set_option maxRecDepth 100000 in
theorem anyFldC (g cb : Nat) (eg : ∀ args w, (callFunc g args).run Tryz.prog w = .ok (.enter g args) w) (p : Fld → Bool) (v : Value) (l : List Fld) (w : World) (hr : RdF w v l) (hlen : l.length ≤ 1000000000000)
    (hp : ∀ x ∈ l, ∀ W, Below w.heap.size w W → Calls Tryz.prog g #[.agg #[.string ⟨x.1.toArray⟩, .string ⟨x.2.toArray⟩], .pointer (some ⟨cb, 0, none⟩)] W fun e w' => e = .returned (.bool (p x)) ∧ Below W.heap.size W w') :
    Calls Tryz.prog 95 #[v, .func (.func g) #[] #[.pointer (some ⟨cb, 0, none⟩)]] w fun e w' => e = .returned (.bool (l.any p)) ∧ Below w.heap.size w w' := by
  have hI := idxFldC g cb eg p v l w hr hlen hp
  have HN := Lib.hid (idxQ_any p l 0)
  generalize idxQ p l 0 = k at hI HN
  clear hp eg hr
  go_enter Tryz.func95, Tryz.ntmps95
  go_wp2_with fail
  with_reducible refine hI.mono ?_
  rintro e w1 ⟨rfl, b1⟩
  go_wp2_with fail
  go_ret
  exact ⟨ret_bool (by rw [← HN.out]), b1⟩
abbrev RP := PRaw × Prt
def rpC (x : RP) : List Value := prtC x.1
theorem rpC_len (x : RP) : (rpC x).length = 4 := rfl
set_option maxHeartbeats 4000000 in
set_option maxRecDepth 100000 in
theorem idxPrtC (g cb : Nat) (eg : ∀ args w, (callFunc g args).run Tryz.prog w = .ok (.enter g args) w) (p : RP → Bool) (v : Value) (l : List RP) (w : World) (hr : RdG 4 rpC w v l) (hlen : l.length ≤ 1000000000000)
    (hp : ∀ x ∈ l, ∀ W, Below w.heap.size w W → Calls Tryz.prog g #[prtV x.1, .pointer (some ⟨cb, 0, none⟩)] W fun e w' => e = .returned (.bool (p x)) ∧ Below W.heap.size W w') :
    Calls Tryz.prog 181 #[v, .func (.func g) #[] #[.pointer (some ⟨cb, 0, none⟩)]] w fun e w' => e = .returned (.int .i64 (idxQ p l 0)) ∧ Below w.heap.size w w' := by
  obtain ⟨a, cap, rfl, hc⟩ := hr.opens rpC_len
  have HC := Lib.hid hc
  have HP := Lib.hid hp
  clear hc hr hp
  go_enter Tryz.func181, Tryz.ntmps181
  go_wp2_with fail
  go_loopw [8] (fun i wr => ∃ k : Nat, i = .int .i64 k ∧ k ≤ l.length ∧ Hid (idxQ p l 0 = idxQ p (l.drop k) k) ∧ Below w.heap.size w wr) (fun i _ => l.length - (intOf i).toNat)
  case atStart => exact ⟨0, rfl, by omega, Lib.hid (by simp), Below.refl _ _⟩
  case round =>
    obtain ⟨k, rfl, hk, Hall, B⟩ := hrel
    by_cases hlt : k < l.length
    · obtain ⟨b, rfl, hb0, h1⟩ := HC.out k hlt
      have HD := Lib.hid (show idxQ p (l.drop k) k = if p l[k] then (k : Int) else idxQ p (l.drop (k + 1)) (k + 1) from by rw [List.drop_eq_getElem_cons hlt]; rfl)
      have c0 := (B.cell (p := ⟨b, k * 4 + 0, none⟩) hb0).trans (h1 0 (by decide))
      have c1 := (B.cell (p := ⟨b, k * 4 + 1, none⟩) hb0).trans (h1 1 (by decide))
      have c2 := (B.cell (p := ⟨b, k * 4 + 2, none⟩) hb0).trans (h1 2 (by decide))
      have c3 := (B.cell (p := ⟨b, k * 4 + 3, none⟩) hb0).trans (h1 3 (by decide))
      have hG := HP.out _ (List.getElem_mem hlt) wr B
      clear h1
      generalize l[k] = f at HD c0 c1 c2 c3 hG
      obtain ⟨⟨⟨ra, rn, rc⟩, rb, rm, ⟨ra', rn', rc'⟩⟩, q⟩ := f
      simp only [rpC, prtC, prtV, slv, Nat.add_zero, List.getElem?_cons_zero, List.getElem?_cons_succ] at c0 c1 c2 c3 hG
      generalize p _ = bx at hG HD
      go_wp2_with fail
      with_reducible refine hG.mono ?_
      rintro e w2 ⟨rfl, hb2⟩
      have B := B.trans (hb2.mono B.size)
      clear hb2 hG
      cases bx with
      | true =>
        have HG := Lib.hid (show idxQ p l 0 = (k : Int) from by rw [Hall.out, HD.out]; rfl)
        go_wp2_with fail
        go_ret
        exact ⟨ret_int (by rw [HG.out]), B⟩
      | false =>
        have HG := Lib.hid (show idxQ p l 0 = idxQ p (l.drop (k + 1)) (k + 1) from by rw [Hall.out, HD.out]; rfl)
        go_wp2_with fail
        go_roundw
        case rel => exact ⟨k + 1, by go_num, by omega, HG, B⟩
        case measure => simp [intOf]; omega
    · obtain rfl : k = l.length := by omega
      have HG := Lib.hid (show idxQ p l 0 = -1 from by rw [Hall.out, List.drop_length]; rfl)
      go_wp2_with fail
      go_ret
      exact ⟨ret_int (by rw [HG.out]), B⟩
set_option maxHeartbeats 4000000 in
set_option maxRecDepth 100000 in
theorem anyPrtC (g cb : Nat) (eg : ∀ args w, (callFunc g args).run Tryz.prog w = .ok (.enter g args) w) (p : RP → Bool) (v : Value) (l : List RP) (w : World) (hr : RdG 4 rpC w v l) (hlen : l.length ≤ 1000000000000)
    (hp : ∀ x ∈ l, ∀ W, Below w.heap.size w W → Calls Tryz.prog g #[prtV x.1, .pointer (some ⟨cb, 0, none⟩)] W fun e w' => e = .returned (.bool (p x)) ∧ Below W.heap.size W w') :
    Calls Tryz.prog 97 #[v, .func (.func g) #[] #[.pointer (some ⟨cb, 0, none⟩)]] w fun e w' => e = .returned (.bool (l.any p)) ∧ Below w.heap.size w w' := by
  have hI := idxPrtC g cb eg p v l w hr hlen hp
  have HN := Lib.hid (idxQ_any p l 0)
  generalize idxQ p l 0 = k at hI HN
  clear hp eg hr
  go_enter Tryz.func97, Tryz.ntmps97
  go_wp2_with fail
  with_reducible refine hI.mono ?_
  rintro e w1 ⟨rfl, b1⟩
  go_wp2_with fail
  go_ret
  exact ⟨ret_bool (by rw [← HN.out]), b1⟩
set_option maxHeartbeats 4000000 in
set_option maxRecDepth 100000 in
theorem sign11_any (x y s : Bs) (cb : Nat) (w : World) (hy : y.length < 4294967281) (hc : w.cell? ⟨cb, 0, none⟩ = some (.string ⟨s.toArray⟩)) (hg : Gr w) :
    Calls Tryz.prog 96 #[.agg #[.string ⟨x.toArray⟩, .string ⟨y.toArray⟩], .pointer (some ⟨cb, 0, none⟩)] w fun e w' => e = .returned (.bool (Lib.contains y s)) ∧ Below w.heap.size w w' := by
  have hcb : cb < w.heap.size := World.block_lt_of_cell? w _ hc
  have kt := Blk.new w #[.string ⟨x.toArray⟩, .string ⟨y.toArray⟩] 92
  have BA := (Below.refl w.heap.size w).alloc (Nat.le_refl _) (.cells #[.string ⟨x.toArray⟩, .string ⟨y.toArray⟩] 92)
  have hC := containsS y s (w.alloc (.cells #[.string ⟨x.toArray⟩, .string ⟨y.toArray⟩] 92)) hy (hg.next BA).g
  have hc1 := (BA.cell (p := ⟨cb, 0, none⟩) hcb).trans hc
  have ktc := kt.cell
  generalize Lib.contains y s = q at hC
  clear kt hc
  go_enter Tryz.func96, Tryz.ntmps96
  go_wp2_with fail
  with_reducible refine hC.mono ?_
  rintro e w1 ⟨rfl, rfl⟩
  go_wp2_with fail
  go_ret
  exact ⟨rfl, BA⟩
def standsIn (s : Bs) (p : Prt) : Bool := Lib.contains p.body s || p.head.any fun f => Lib.contains f.2 s
set_option maxHeartbeats 8000000 in
set_option maxRecDepth 100000 in
theorem sign1_any (n : Nat) (raw : PRaw) (p : Prt) (s : Bs) (cb : Nat) (w : World) (hr : RdPrt (fun _ => True) (n + 1) w raw p) (hb : p.body.length < 4294967281) (hl : p.head.length ≤ 1000000000000) (hh : ∀ f ∈ p.head, f.2.length < 4294967281)
    (hc : w.cell? ⟨cb, 0, none⟩ = some (.string ⟨s.toArray⟩)) (hg : Gr w) :
    Calls Tryz.prog 94 #[prtV raw, .pointer (some ⟨cb, 0, none⟩)] w fun e w' => e = .returned (.bool (standsIn s p)) ∧ Below w.heap.size w w' := by
  have hcb : cb < w.heap.size := World.block_lt_of_cell? w _ hc
  have hrd := hr.hd.rd
  have hbd := hr.body
  clear hr
  obtain ⟨⟨ra, rn, rc⟩, rb, rm, ⟨ra', rn', rc'⟩⟩ := raw
  simp only at hbd
  subst hbd
  simp only [prtV, slv] at hrd ⊢
  have HN := Lib.hid (show standsIn s p = (Lib.contains p.body s || p.head.any fun f => Lib.contains f.2 s) from rfl)
  generalize p.body = rb at hb HN
  generalize p.head = hd at hrd hl hh HN
  have kt := Blk.new w #[.slice ra rn rc, .string ⟨rb.toArray⟩, .bool rm, .slice ra' rn' rc'] 44
  have BA := (Below.refl w.heap.size w).alloc (Nat.le_refl _) (.cells #[.slice ra rn rc, .string ⟨rb.toArray⟩, .bool rm, .slice ra' rn' rc'] 44)
  have hC := containsS rb s (w.alloc (.cells #[.slice ra rn rc, .string ⟨rb.toArray⟩, .bool rm, .slice ra' rn' rc'] 44)) hb (hg.next BA).g
  have hc1 := (BA.cell (p := ⟨cb, 0, none⟩) hcb).trans hc
  have hA := anyFldC 96 cb (enters_of Tryz.func96 (by kernel_rfl) rfl) (fun f => Lib.contains f.2 s) (.slice ra rn rc) hd _ (hrd.next BA) hl (fun x hx W hW => sign11_any x.1 x.2 s cb W (hh x hx) ((hW.cell (p := ⟨cb, 0, none⟩) (Nat.lt_of_lt_of_le hcb BA.size)).trans hc1) ((hg.next BA).next hW))
  have ktc := kt.cell
  generalize Lib.contains rb s = q at hC HN
  generalize (hd.any fun f => Lib.contains f.2 s) = qa at hA HN
  clear kt hc hh hrd
  go_enter Tryz.func94, Tryz.ntmps94
  go_wp2_with fail
  with_reducible refine hC.mono ?_
  rintro e w1 ⟨rfl, rfl⟩
  cases q with
  | true =>
    go_wp2_with fail
    go_ret
    exact ⟨ret_bool (by rw [HN.out]; rfl), BA⟩
  | false =>
    go_wp2_with fail
    with_reducible refine hA.mono ?_
    rintro e w2 ⟨rfl, b2⟩
    go_wp2_with fail
    go_ret
    exact ⟨ret_bool (by rw [HN.out]; rfl), BA.trans (b2.mono BA.size)⟩
theorem appGs {α : Type} {e size : Nat} {cs : α → List Value} {t bytes : Nat} {z : Value} (hcs : ∀ x, (cs x).length = size) (hone : ∀ x, ∀ u ∈ cs x, u.oneCell' = true)
    (hinfo : (Tryz.prog.info? e).map (fun i => (i.zero, i.size, i.bytes)) = some (some z, size, bytes)) (hzs : z.cells.size = size) (hsz : 0 < size) (ht : Tryz.prog.underlying t = some (.slice e))
    {Q : Exit → Act → World → Prop} {ops : Array Oper} {rest : List Oper} {o : Oper} {a : Act} {w : World} (hgd : o.guard = none) (s x : Operand)
    (ho : o.op = .call { callee := .builtin .append, args := #[s, x], argTypes := #[t, t] }) (B : Nat) (v : Value) (xs ys : List α) (sa : Option Go.Addr) (n c : Nat)
    (hs : a.eval s = v) (hown : OwnG e size cs w B v xs) (hx : a.eval x = .slice sa n c) (hr : RdG size cs w (.slice sa n c) ys) (hn : (xs.length + ys.length) * bytes ≤ 140737488355328) (hn2 : xs.length + ys.length ≤ maxLen) (hbase : B ≤ w.heap.size)
    (h : ∀ v' w', OwnG e size cs w' B v' (xs ++ ys) → w.grownBy w' v.ownBlock → Below B w w' → (v'.ownBlock = v.ownBlock ∨ v'.ownBlock = some w.heap.size) → wpList Tryz.prog ops Q rest (a.put o.dst v') w') : wpList Tryz.prog ops Q (o :: rest) a w := by
  obtain ⟨a', cap', hv, hc⟩ := hr
  injection hv with e1 e2 e3
  subst e1 e2 e3
  cases sa with
  | none =>
    have h0 : ys = [] := by
      rcases Nat.eq_zero_or_pos ys.length with h | h
      · exact List.length_eq_zero_iff.1 h
      · obtain ⟨b, h, _⟩ := hc h; cases h
    subst h0
    obtain ⟨i0, hi, _⟩ := info_parts hinfo
    exact wpList_append_none hgd s x t ho B e i0 size c ht hi v xs.length _ hs hown hx (by rw [List.append_nil] at h; exact h v w hown ⟨rfl, rfl, rfl, Nat.le_refl _, fun _ _ _ => rfl⟩ (Below.refl _ _) (Or.inl rfl))
  | some ad =>
    refine appG2 hcs hone hinfo hzs hsz ht hgd s x ho B v xs ys ad ys.length c rfl hs hown hx (fun j u hj => ?_) hn hn2 hbase h
    have hlt := (List.getElem?_eq_some_iff.1 hj).1
    rw [flat_len hcs] at hlt
    have hpos : 0 < ys.length := by
      rcases Nat.eq_zero_or_pos ys.length with h0 | h0
      · rw [h0] at hlt; simp at hlt
      · exact h0
    obtain ⟨b, hb, _, hcell⟩ := hc hpos
    have hb := Option.some.inj hb
    subst hb
    rw [addr_add0, hcell j hlt]; exact hj
theorem ownPr_one (w : World) (ra ra' : Option Go.Addr) (rn rc rn' rc' : Nat) (rb : Bs) (rm : Bool) :
    OwnPr (w.alloc (.cells #[.slice ra rn rc, .string ⟨rb.toArray⟩, .bool rm, .slice ra' rn' rc'] 44)) w.heap.size (.slice (some ⟨w.heap.size, 0, none⟩) 1 1) [((ra, rn, rc), rb, rm, (ra', rn', rc'))] :=
  ⟨rfl, Or.inr ⟨w.heap.size, 1, #[.slice ra rn rc, .string ⟨rb.toArray⟩, .bool rm, .slice ra' rn' rc'], rfl, Nat.le_refl _, heap_alloc_new w _, Nat.le_refl _, by decide, rfl, rfl⟩⟩
theorem standsIn_any (w : Prt) (n : Nat) : hasAny [64, 98] (textsOf w) n = (w :: w.parts).any (standsIn (64 :: 98 :: Lib.itoa n)) := by
  show (textsOf w).any (fun s => Lib.contains s (64 :: 98 :: Lib.itoa n)) = _
  unfold textsOf
  rw [List.any_flatMap]
  generalize (64 :: 98 :: Lib.itoa (n : Int) : Bs) = t
  have h : (fun p : Prt => (p.body :: p.head.map (·.2)).any fun s => Lib.contains s t) = standsIn t := by
    funext p
    rw [List.any_cons, List.any_map]
    rfl
  rw [h]
theorem flatMap_count {α : Type} {f : α → List Bs} {M : Nat} : ∀ {l : List α}, (∀ x ∈ l, (f x).length ≤ M) → (l.flatMap f).length ≤ l.length * M
  | [], _ => by simp
  | x :: l, h => by
    have h1 := h x (by simp)
    have h2 := flatMap_count (l := l) fun y hy => h y (by simp [hy])
    rw [List.flatMap_cons, List.length_append, List.length_cons, Nat.succ_mul]; omega
theorem PrtSm.fl {n : Nat} {p : Prt} (h : PrtSm n p) : FldsN 20000 p.head ∧ p.body.length ≤ 60002 := by
  cases n with
  | zero => exact h.elim
  | succ n => exact ⟨weight_n h.head.1, h.head.2.1⟩
theorem textsOf_of {n : Nat} {p : Prt} (h : PrtSm (n + 1) p) : ∀ q ∈ p :: p.parts, FldsN 20000 q.head ∧ q.body.length ≤ 60002 := fun q hq => by
  rcases List.mem_cons.1 hq with rfl | hq
  · exact h.fl
  · exact (h.part hq).fl
theorem textsOf_len {n : Nat} {p : Prt} (h : PrtSm (n + 1) p) : (textsOf p).length ≤ 400080003 ∧ sumLen (textsOf p) ≤ 30000000000000 := by
  have hq := textsOf_of h
  have h1 : (textsOf p).length ≤ (p :: p.parts).length * 20001 := by
    unfold textsOf
    refine flatMap_count fun q hm => ?_
    have := (hq q hm).1.1
    simp only [List.length_cons, List.length_map]; omega
  have h2 : sumLen (textsOf p) ≤ (textsOf p).length * 60002 := by
    refine sumLen_le fun x hx => ?_
    unfold textsOf at hx
    obtain ⟨q, hm, hx⟩ := List.mem_flatMap.1 hx
    rcases List.mem_cons.1 hx with rfl | hx
    · exact (hq q hm).2
    · obtain ⟨f, hf, rfl⟩ := List.mem_map.1 hx
      have := ((hq q hm).1.2 f hf).2
      omega
  have h3 := h.head.2.2
  simp only [List.length_cons] at h1
  refine ⟨by omega, by omega⟩
theorem rdG_fst {w : World} {v : Value} {raws : List PRaw} {ps : List Prt} (h : RdG 4 prtC w v raws) (hl : raws.length = ps.length) : RdG 4 rpC w v (raws.zip ps) := by
  obtain ⟨a, cap, hv, hc⟩ := h
  have e1 : (raws.zip ps).length = raws.length := by rw [List.length_zip]; omega
  have e2 : (raws.zip ps).flatMap rpC = raws.flatMap prtC := by
    have : (raws.zip ps).flatMap rpC = ((raws.zip ps).map Prod.fst).flatMap prtC := by rw [List.flatMap_map]; rfl
    rw [this, List.map_fst_zip (by omega)]
  refine ⟨a, cap, by rw [hv, e1], fun h0 => ?_⟩
  rw [e1] at h0
  obtain ⟨b, h1, h2, h3⟩ := hc h0
  exact ⟨b, h1, h2, fun j hj => by rw [e2]; exact h3 j (by rw [e1] at hj; exact hj)⟩
theorem any_snd (s : Bs) {raws : List PRaw} {ps : List Prt} (hl : raws.length = ps.length) : ((raws.zip ps).any fun x : RP => standsIn s x.2) = ps.any (standsIn s) := by
  have : ((raws.zip ps).any fun x : RP => standsIn s x.2) = ((raws.zip ps).map Prod.snd).any (standsIn s) := by rw [List.any_map]; rfl
  rw [this, List.map_snd_zip (by omega)]
set_option maxHeartbeats 16000000 in
set_option maxRecDepth 100000 in
theorem sign_any (raw : PRaw) (p : Prt) (w : World) (hr : RdPrt (fun _ => True) 4 w raw p) (hsm : PrtSm 4 p) (hg : Gz w) :
    Calls Tryz.prog 39 #[prtV raw] w fun e w' => e = .returned (.string ⟨(signT p).toArray⟩) ∧ Below w.heap.size w w' := by
  have hlen := textsOf_len hsm
  have htx := Lib.hid (textsOf_of hsm)
  obtain ⟨raws, hrp, hrl, hch⟩ := hr.parts
  have hp3 := hsm.head.2.2
  have HZ := Lib.hid (show ∀ x ∈ (raw :: raws).zip (p :: p.parts), RdPrt (fun _ => True) 4 w x.1 x.2 ∧ x.2 ∈ p :: p.parts from fun x hx => by
    rw [List.zip_cons_cons] at hx
    rcases List.mem_cons.1 hx with rfl | hx
    · exact ⟨hr, by simp⟩
    · obtain ⟨k, hk, rfl⟩ := List.mem_iff_getElem.1 hx
      rw [List.length_zip] at hk
      rw [List.getElem_zip]
      exact ⟨(hch k (by omega) (by omega)).up, List.mem_cons_of_mem _ (List.getElem_mem _)⟩)
  have HT := Lib.hid (show chooseN [64, 98] (textsOf p) = firstN (fun n => !hasAny [64, 98] (textsOf p) n) (20 * (sumLen (textsOf p) + (textsOf p).length + 1)) 0 from rfl)
  have HTT := Lib.hid (show signT p = 64 :: 98 :: Lib.itoa (chooseN [64, 98] (textsOf p)) from rfl)
  have HST := Lib.hid (standsIn_any p)
  have HSN := Lib.hid (fun s => any_snd s (raws := raw :: raws) (ps := p :: p.parts) (by simp [hrl]))
  have hzl : ((raw :: raws).zip (p :: p.parts)).length = raws.length + 1 := by rw [List.length_zip]; simp [hrl]
  have HF := Lib.hid (fun (W : World) (v : Value) (h : RdG 4 prtC W v (raw :: raws)) => rdG_fst h (ps := p :: p.parts) (by simp [hrl]))
  generalize (raw :: raws).zip (p :: p.parts) = L at HZ HSN hzl HF
  have hrl2 : raws.length ≤ 20002 := by omega
  generalize hT : textsOf p = T at hlen HT HTT HST
  clear hr hch hT hsm hrl hp3
  obtain ⟨⟨ra, rn, rc⟩, rb, rm, ⟨ra', rn', rc'⟩⟩ := raw
  simp only [prtV, slv] at hrp ⊢
  have BA := (Below.refl w.heap.size w).alloc (Nat.le_refl _) (.cells #[.slice ra rn rc, .string ⟨rb.toArray⟩, .bool rm, .slice ra' rn' rc'] 44)
  have hk1 := Blk.new w #[.slice ra rn rc, .string ⟨rb.toArray⟩, .bool rm, .slice ra' rn' rc'] 44
  go_enter Tryz.func39, Tryz.ntmps39
  go_upto_region 1 with fail
  generalize World.alloc _ _ = W1 at BA hk1 ⊢
  have B1 := BA
  have hrd := hrp.rd.next BA
  have k1 := hk1.cell
  have hone := ownPr_one W1 ra ra' rn rc rn' rc' rb rm
  have BB := (Below.refl W1.heap.size W1).alloc (Nat.le_refl _) (.cells #[.slice ra rn rc, .string ⟨rb.toArray⟩, .bool rm, .slice ra' rn' rc'] 44)
  have hrd2 := hrd.next BB
  have k1b := (hk1.next BB hk1.lt).cell
  clear BA hrp hrd
  go_wp2_with (at_builtin; refine appGs (α := PRaw) (cs := prtC) (size := 4) (z := .agg #[.slice none 0 0, .string ByteArray.empty, .bool false, .slice none 0 0]) prtC_len prtC_one infoPrt rfl (by decide) Tryz.underlying33 rfl _ _ rfl W1.heap.size _ _ raws ra' rn' rc' rfl hone rfl hrd2 (by simp; omega) (by unfold maxLen; simp; omega) (by simp) ?_; intro v3 w3 hown3 hg3 hb3 hob3)
  obtain ⟨sa, sc, hve, _⟩ := OwnG.rd (by decide) prtC_len hown3
  rw [List.singleton_append, List.length_cons] at hve
  subst hve
  have B3 := B1.trans ((BB.trans hb3).mono B1.size)
  have hrd3 := Lib.hid (HF.out _ _ (OwnG.rd (by decide) prtC_len hown3))
  have hs3 := B3.size
  have hgz3 := hg.next B3
  have HZ3 := Lib.hid (fun x hx => ((HZ.out x hx).1.next B3))
  clear hone hk1 k1 k1b hrd2 hb3 hg3 hob3 BB B1 hown3 HF
  go_wp2_with fail
  go_loopw [4] (fun i wr => ∃ k f : Nat, i = .int .i64 k ∧ k + f = 20 * (sumLen T + T.length + 1) ∧ Hid (chooseN [64, 98] T = firstN (fun n => !hasAny [64, 98] T n) f k) ∧ Hid (∀ j, j < k → hasAny [64, 98] T j = true) ∧ Below w3.heap.size w3 wr) (fun i _ => 20 * (sumLen T + T.length + 1) - (intOf i).toNat)
  case atStart => exact ⟨0, _, rfl, by omega, HT, Lib.hid (fun j h => by omega), Below.refl _ _⟩
  case round =>
    clear HT
    obtain ⟨k, f, rfl, hkf, HF, HA, B⟩ := hrel
    have hk := hasAny_small _ _ k HA.out
    obtain ⟨f, rfl⟩ : ∃ n, f = n + 1 := ⟨f - 1, by omega⟩
    have hI := itoa_any (k : Int) (by omega) (by omega) wr (hgz3.next B)
    have hil := Lib.itoa_length_le (k : Int) (by omega) (by omega)
    have HH := Lib.hid ((HST.out k).trans (HSN.out _).symm)
    have HO := Lib.hid (show hasAny [64, 98] T k = false → signT p = 64 :: 98 :: Lib.itoa (k : Int) from fun h => by
      rw [HTT.out, HF.out, firstN_hit (by rw [h]; rfl)])
    generalize Lib.itoa (k : Int) = ib at hI hil HH HO
    go_wp2_with fail
    with_reducible refine hI.mono ?_
    rintro e w4 ⟨rfl, b4⟩
    have B4 := B.trans (b4.mono B.size)
    have kb := Blk.new w4 #[.string ⟨(64 :: 98 :: ib).toArray⟩] 9
    have BA := (Below.refl w4.heap.size w4).alloc (Nat.le_refl _) (.cells #[.string ⟨(64 :: 98 :: ib).toArray⟩] 9)
    have B5 := B4.trans (BA.mono B4.size)
    have hg5 := hgz3.next B5
    have hC := anyPrtC 94 w4.heap.size (enters_of Tryz.func94 (by kernel_rfl) rfl) (fun x => standsIn (64 :: 98 :: ib) x.2) (.slice sa (raws.length + 1) sc) L (w4.alloc (.cells #[.string ⟨(64 :: 98 :: ib).toArray⟩] 9)) (hrd3.out.next B5) (by omega) (fun x hx W hW => by
      have h1 := htx.out _ (HZ.out x hx).2
      exact sign1_any 3 x.1 x.2 (64 :: 98 :: ib) w4.heap.size W (((HZ3.out x hx).next B5).next hW) (by omega) (by have := h1.1.1; omega) (fun f hf => by have := (h1.1.2 f hf).2; omega) ((kb.next hW kb.lt).cell 0) ((hg5.next hW).r))
    rw [← HH.out] at hC
    generalize hb : hasAny [64, 98] T k = q at hC HO
    have Hb := Lib.hid hb
    have kbc := kb.cell
    clear hb HH hI b4 BA
    go_wp2_with fail
    with_reducible refine hC.mono ?_
    rintro e w6 ⟨rfl, b6⟩
    have kb6 := kb.next b6 kb.lt
    have B6 := B5.trans (b6.mono B5.size)
    have kbc6 := kb6.cell
    clear hC b6 kbc
    cases q with
    | true =>
      have HN := Lib.hid (show chooseN [64, 98] T = firstN (fun n => !hasAny [64, 98] T n) f (k + 1) from by rw [HF.out, firstN_go (by rw [Hb.out]; rfl)])
      have HA2 := Lib.hid (show ∀ j, j < k + 1 → hasAny [64, 98] T j = true from fun j h => by
        rcases Nat.lt_or_ge j k with h' | h'
        · exact HA.out j h'
        · obtain rfl : j = k := by omega
          exact Hb.out)
      clear HF HA HO Hb
      go_wp2_with fail
      go_roundw
      case rel => exact ⟨k + 1, f, by go_num, by omega, HN, HA2, B6⟩
      case measure => simp [intOf]; omega
    | false =>
      have HN := Lib.hid (HO.out rfl)
      clear HF HA HO Hb
      go_wp2_with fail
      go_ret
      exact ⟨by rw [HN.out]; rfl, B3.trans (B6.mono hs3)⟩
set_option maxHeartbeats 8000000 in
set_option maxRecDepth 100000 in
theorem bname_any (i : Int) (e : Bs) (cb : Nat) (w : World) (h0 : -9223372036854775808 ≤ i) (h1 : i ≤ 9223372036854775807) (hc : w.cell? ⟨cb, 0, none⟩ = some (.string ⟨e.toArray⟩)) (he : e.length ≤ 1000000000000) (hg : Gz w) :
    Calls Tryz.prog 40 #[.int .i64 i, .pointer (some ⟨cb, 0, none⟩)] w fun r w' => r = .returned (.string ⟨(nameT e i).toArray⟩) ∧ Below w.heap.size w w' := by
  have hcb : cb < w.heap.size := World.block_lt_of_cell? w _ hc
  have hI := fun W hW => itoa_any i h0 h1 W hW
  have hil := Lib.itoa_length_le i h0 h1
  have HN := Lib.hid (show nameT e i = 112 :: 97 :: 114 :: 116 :: (Lib.itoa i ++ e) from rfl)
  generalize Lib.itoa i = ib at hI hil HN
  have hgd := hg.next ((Below.refl w.heap.size w).drew)
  have hcb2 := Lib.hid (show cb < w.drew.heap.size from hcb)
  have z1 : ¬ 9223372036854775807 < 4 + ib.length := by omega
  have z2 : ¬ 9223372036854775807 < ib.length + 1 + 1 + 1 + 1 + e.length := by omega
  have hcd : w.drew.cell? ⟨cb, 0, none⟩ = some (.string ⟨e.toArray⟩) := hc
  go_enter Tryz.func40, Tryz.ntmps40
  go_upto_region 1 with fail
  go_region_law ((go_simp; with_reducible refine (hI _ hgd).mono ?_; rintro r w1 ⟨rfl, hb⟩; have K := Lib.hid (belowStep hb (w0 := w) ((Below.refl w.heap.size w).drew)); have hc1 := (hb.cell (p := ⟨cb, 0, none⟩) hcb2.out).trans hcd))
  all_goals
    go_wp2_with fail
    go_ret
    exact ⟨ret_str HN.out.symm, K.out⟩
end Go.Proofs.YtignjjnflcpiiaaGreatDoor
