/- part.plain, part.shortest: how a body is written. Condition: at most 4 * 10^9 bytes; what the variables hold; part.choose: the first boundary that stands in none of some texts; part.rename. Condition: at most 10^6 texts of at most 4 * 10^9 bytes; what the variables hold; part.rename: a value with an. -/
import Derived.Test.YtignjjnflcpiiaaGreatDoorR23
namespace Go.Proofs.YtignjjnflcpiiaaGreatDoor
open Go Go.RowKit
def badPl (r : Nat) : Bool := r != 9 && (decide (r < 32) || decide (126 < r))
theorem badPl_hi (r : Nat) (h : 128 ≤ r) : badPl r = true := by
  unfold badPl
  rw [decide_eq_true (show 126 < r by omega)]
  have : (r != 9) = true := by rw [bne_iff_ne]; omega
  rw [this]; simp
theorem plainC_all : ((List.range 256).all fun n => plainC n.toUInt8 == !(badPl n.toUInt8.toNat)) = true := by kernel_rfl
theorem plainC_bad (c : UInt8) : plainC c = !(badPl c.toNat) := by
  have := List.all_eq_true.1 plainC_all c.toNat (List.mem_range.2 c.toNat_lt)
  rw [u8_nat'] at this
  exact beq_iff_eq.1 this
theorem plainB_any (s : Bs) : plainB s = !((Lib.replaceAll s [13, 10] []).any fun c => badPl c.toNat) := by
  unfold plainB
  rw [List.not_any_eq_all_not]
  congr 1
  funext c
  exact plainC_bad c
set_option maxHeartbeats 2000000 in
set_option maxRecDepth 100000 in
theorem plain1_any (r : Nat) (hr : r ≤ 1114111) (w : World) :
    Calls Tryz.prog 305 #[.int .i32 (r : Int)] w fun e w' => e = .returned (.bool (badPl r)) ∧ w = w' := by
  by_cases h0 : r = 9
  · subst h0
    go_enter Tryz.func305, Tryz.ntmps305
    go_wp2_with fail
    go_ret
    exact ⟨ret_bool rfl, rfl⟩
  have hb : (r != 9) = true := by rw [bne_iff_ne]; exact h0
  have e0 : ((r : Int) != 9) = true := by rw [bne_iff_ne]; omega
  by_cases h1 : r < 32
  · have HB := Lib.hid (show badPl r = true from by unfold badPl; rw [decide_eq_true h1, hb]; rfl)
    have h1 : (r : Int) < 32 := by omega
    clear h0 hb
    go_enter Tryz.func305, Tryz.ntmps305
    go_wp2_with fail
    go_ret
    exact ⟨ret_bool HB.out.symm, rfl⟩
  · by_cases h2 : 126 < r
    · have HB := Lib.hid (show badPl r = true from by unfold badPl; rw [decide_eq_true h2, hb]; simp)
      have h1 : ¬ (r : Int) < 32 := by omega
      have h2 : (126 : Int) < r := by omega
      clear h0 hb
      go_enter Tryz.func305, Tryz.ntmps305
      go_wp2_with fail
      go_ret
      exact ⟨ret_bool HB.out.symm, rfl⟩
    · have HB := Lib.hid (show badPl r = false from by unfold badPl; rw [decide_eq_false h2, decide_eq_false h1, hb]; rfl)
      have h1 : ¬ (r : Int) < 32 := by omega
      have h2 : ¬ (126 : Int) < r := by omega
      clear h0 hb
      go_enter Tryz.func305, Tryz.ntmps305
      go_wp2_with fail
      go_ret
      exact ⟨ret_bool HB.out.symm, rfl⟩
theorem plain1_grows (w : World) : PredGrows Tryz.prog 305 #[] badPl w := fun W x hx _ =>
  (plain1_any x hx W).mono fun _ _ ⟨h1, h2⟩ => ⟨h1, h2 ▸ Below.refl _ _⟩
set_option maxHeartbeats 2000000 in
set_option maxRecDepth 100000 in
theorem pplain_any (s : Bs) (w : World) (hs : s.length ≤ 4000000000) (hg : Gr w) :
    Calls Tryz.prog 267 #[.string ⟨s.toArray⟩] w fun e w' => e = .returned (.bool (plainB s)) ∧ Below w.heap.size w w' := by
  obtain ⟨m, hm⟩ := hg.g.maxLen
  have hR := Tryz.strings_ReplaceAll ⟨s.toArray⟩ ⟨#[13, 10]⟩ ⟨#[]⟩ m w (by show s.length < _; omega) hm (by decide) (by show s.length + _ * 0 ≤ _; omega)
  have HN := Lib.hid (plainB_any s)
  have hR : Calls Tryz.prog 304 #[.string ⟨s.toArray⟩, .string ⟨#[13, 10]⟩, .string ⟨#[]⟩] w fun e w' => e = .returned (.string ⟨(Lib.replaceAll s [13, 10] []).toArray⟩) ∧ Below w.heap.size w w' := hR
  generalize Lib.replaceAll s [13, 10] [] = t at hR HN
  have hC := fun W => containsF 305 (enters_of Tryz.func305 (by kernel_rfl) rfl) badPl badPl_hi t #[] W (plain1_grows W)
  generalize (t.any fun c => badPl c.toNat) = q at hC HN
  clear hm hg
  go_enter Tryz.func267, Tryz.ntmps267
  go_wp2_with fail
  with_reducible refine hR.mono ?_
  rintro e w1 ⟨rfl, b1⟩
  go_wp2_with fail
  with_reducible refine (hC _).mono ?_
  rintro e w2 ⟨rfl, b2⟩
  go_wp2_with fail
  go_ret
  exact ⟨ret_bool (by rw [HN.out]), b1.trans (b2.mono b1.size)⟩
theorem shortestF_plain {s : Bs} (h : plainB s = true) : shortestF s = (w7bit, s) := by unfold shortestF; rw [if_pos h]
theorem shortestF_quote {s : Bs} (h : plainB s = false) (h2 : (quoteT s).length ≤ (packT s).length) : shortestF s = (wQuoted, quoteT s) := by unfold shortestF; rw [if_neg (by rw [h]; decide), if_pos h2]
theorem shortestF_pack {s : Bs} (h : plainB s = false) (h2 : ¬ (quoteT s).length ≤ (packT s).length) : shortestF s = (wBase64, packT s) := by unfold shortestF; rw [if_neg (by rw [h]; decide), if_neg h2]
theorem shortestF_len (s : Bs) : (shortestF s).1.length ≤ 16 ∧ (shortestF s).2.length ≤ 6 * s.length := by
  unfold shortestF
  have h1 := quoteT_length s
  have h2 := packT_length s
  split
  · exact ⟨show w7bit.length ≤ 16 by decide, by simp only; omega⟩
  · split
    · exact ⟨show wQuoted.length ≤ 16 by decide, h1⟩
    · exact ⟨show wBase64.length ≤ 16 by decide, h2⟩
set_option maxHeartbeats 2000000 in
set_option maxRecDepth 100000 in
theorem shortest_any (s : Bs) (w : World) (hs : s.length ≤ 4000000000) (hg : Gr w) :
    Calls Tryz.prog 196 #[.string ⟨s.toArray⟩] w fun e w' => e = .returned (.tuple #[.string ⟨(shortestF s).1.toArray⟩, .string ⟨(shortestF s).2.toArray⟩]) ∧ Below w.heap.size w w' := by
  have hP := pplain_any s w hs hg
  have HS1 := Lib.hid (fun h => shortestF_plain (s := s) h)
  have HS2 := Lib.hid (fun h h2 => shortestF_quote (s := s) h h2)
  have HS3 := Lib.hid (fun h h2 => shortestF_pack (s := s) h h2)
  have hQ := fun W => quote_any s W (by omega)
  have hK := fun W => pack_any s W (by omega)
  have hql := quoteT_length s
  have hkl := packT_length s
  generalize plainB s = b at hP HS1 HS2 HS3
  generalize shortestF s = z at HS1 HS2 HS3 ⊢
  generalize quoteT s = q at hQ hql HS2 HS3
  generalize packT s = k at hK hkl HS2 HS3
  go_enter Tryz.func196, Tryz.ntmps196
  go_wp2_with fail
  with_reducible refine hP.mono ?_
  rintro e w1 ⟨rfl, b1⟩
  cases b with
  | true =>
    have HN := Lib.hid (HS1.out rfl)
    go_wp2_with fail
    go_ret2
    exact ⟨by rw [HN.out]; rfl, b1⟩
  | false =>
    have HT2 := Lib.hid (HS2.out rfl)
    have HT3 := Lib.hid (HS3.out rfl)
    clear HS1 HS2 HS3
    go_wp2_with fail
    with_reducible refine (hQ _).mono ?_
    rintro e w2 ⟨rfl, b2⟩
    have B2 := b1.trans (b2.mono b1.size)
    go_wp2_with fail
    with_reducible refine (hK _).mono ?_
    rintro e w3 ⟨rfl, b3⟩
    have B3 := B2.trans (b3.mono B2.size)
    by_cases hle : q.length ≤ k.length
    · have HN := Lib.hid (HT2.out hle)
      have hle2 : (q.length : Int) ≤ k.length := by omega
      go_wp2_with fail
      go_ret2
      exact ⟨by rw [HN.out]; rfl, B3⟩
    · have HN := Lib.hid (HT3.out hle)
      have hle2 : ¬ (q.length : Int) ≤ k.length := by omega
      go_wp2_with fail
      go_ret2
      exact ⟨by rw [HN.out]; rfl, B3⟩
def idxQ {α : Type} (p : α → Bool) : List α → Nat → Int
  | [], _ => -1
  | f :: l, k => if p f then k else idxQ p l (k + 1)
theorem idxQ_any {α : Type} (p : α → Bool) : ∀ (l : List α) (k : Nat), decide (0 ≤ idxQ p l k) = l.any p
  | [], _ => rfl
  | f :: l, k => by
    unfold idxQ
    cases hp : p f with
    | true => simp [hp]
    | false =>
      have := idxQ_any p l (k + 1)
      simp only [Bool.false_eq_true, if_false, List.any_cons, hp, Bool.false_or]
      exact this
set_option maxHeartbeats 4000000 in
set_option maxRecDepth 100000 in
theorem idxStrF (g cb : Nat) (eg : ∀ args w, (callFunc g args).run Tryz.prog w = .ok (.enter g args) w) (p : Bs → Bool) (v : Value) (l : List Bs) (w : World) (hr : RdG 1 strC w v l) (hlen : l.length ≤ 1000000000000)
    (hp : ∀ x ∈ l, ∀ W, Below w.heap.size w W → Calls Tryz.prog g #[.string ⟨x.toArray⟩, .pointer (some ⟨cb, 0, none⟩)] W fun e w' => e = .returned (.bool (p x)) ∧ Below W.heap.size W w') :
    Calls Tryz.prog 306 #[v, .func (.func g) #[] #[.pointer (some ⟨cb, 0, none⟩)]] w fun e w' => e = .returned (.int .i64 (idxQ p l 0)) ∧ Below w.heap.size w w' := by
  obtain ⟨a, cap, rfl, hc⟩ := hr.opens strC_len
  have HC := Lib.hid hc
  have HP := Lib.hid hp
  clear hc hr hp
  go_enter Tryz.func306, Tryz.ntmps306
  go_wp2_with fail
  go_loopw [8] (fun i wr => ∃ k : Nat, i = .int .i64 k ∧ k ≤ l.length ∧ Hid (idxQ p l 0 = idxQ p (l.drop k) k) ∧ Below w.heap.size w wr) (fun i _ => l.length - (intOf i).toNat)
  case atStart => exact ⟨0, rfl, by omega, Lib.hid (by simp), Below.refl _ _⟩
  case round =>
    obtain ⟨k, rfl, hk, Hall, B⟩ := hrel
    by_cases hlt : k < l.length
    · obtain ⟨b, rfl, hb0, h1⟩ := HC.out k hlt
      have HD := Lib.hid (show idxQ p (l.drop k) k = if p l[k] then (k : Int) else idxQ p (l.drop (k + 1)) (k + 1) from by rw [List.drop_eq_getElem_cons hlt]; rfl)
      have c1 : wr.cell? ⟨b, k, none⟩ = some (.string ⟨(l[k]).toArray⟩) := by
        have := (B.cell (p := ⟨b, k * 1 + 0, none⟩) hb0).trans (h1 0 (by decide))
        simpa [strC] using this
      have hG := HP.out _ (List.getElem_mem hlt) wr B
      clear h1
      generalize l[k] = x at HD c1 hG
      generalize p x = bx at hG HD
      go_wp2_with fail
      with_reducible refine hG.mono ?_
      rintro e w2 ⟨rfl, hb2⟩
      have B := B.trans (hb2.mono B.size)
      clear hb2 hG
      cases bx with
      | true =>
        have HG := Lib.hid (show idxQ p l 0 = (k : Int) from by rw [Hall.out, HD.out]; rfl)
        go_wp2_with fail
        go_ret
        exact ⟨ret_int (by rw [HG.out]), B⟩
      | false =>
        have HG := Lib.hid (show idxQ p l 0 = idxQ p (l.drop (k + 1)) (k + 1) from by rw [Hall.out, HD.out]; rfl)
        go_wp2_with fail
        go_roundw
        case rel => exact ⟨k + 1, by go_num, by omega, HG, B⟩
        case measure => simp [intOf]; omega
    · obtain rfl : k = l.length := by omega
      have HG := Lib.hid (show idxQ p l 0 = -1 from by rw [Hall.out, List.drop_length]; rfl)
      go_wp2_with fail
      go_ret
      exact ⟨ret_int (by rw [HG.out]), B⟩
set_option maxHeartbeats 4000000 in
set_option maxRecDepth 100000 in
theorem anyStrF (g cb : Nat) (eg : ∀ args w, (callFunc g args).run Tryz.prog w = .ok (.enter g args) w) (p : Bs → Bool) (v : Value) (l : List Bs) (w : World) (hr : RdG 1 strC w v l) (hlen : l.length ≤ 1000000000000)
    (hp : ∀ x ∈ l, ∀ W, Below w.heap.size w W → Calls Tryz.prog g #[.string ⟨x.toArray⟩, .pointer (some ⟨cb, 0, none⟩)] W fun e w' => e = .returned (.bool (p x)) ∧ Below W.heap.size W w') :
    Calls Tryz.prog 270 #[v, .func (.func g) #[] #[.pointer (some ⟨cb, 0, none⟩)]] w fun e w' => e = .returned (.bool (l.any p)) ∧ Below w.heap.size w w' := by
  have hI := idxStrF g cb eg p v l w hr hlen hp
  have HN := Lib.hid (idxQ_any p l 0)
  generalize idxQ p l 0 = k at hI HN
  clear hp eg hr
  go_enter Tryz.func270, Tryz.ntmps270
  go_wp2_with fail
  with_reducible refine hI.mono ?_
  rintro e w1 ⟨rfl, b1⟩
  go_wp2_with fail
  go_ret
  exact ⟨ret_bool (by rw [← HN.out]), b1⟩
set_option maxHeartbeats 4000000 in
set_option maxRecDepth 100000 in
theorem choose1_any (x b : Bs) (cb : Nat) (w : World) (hx : x.length < 4294967281) (hb : b.length ≤ 1000000) (hc : w.cell? ⟨cb, 0, none⟩ = some (.string ⟨b.toArray⟩)) (hg : Gr w) :
    Calls Tryz.prog 271 #[.string ⟨x.toArray⟩, .pointer (some ⟨cb, 0, none⟩)] w fun e w' => e = .returned (.bool (Lib.contains x (45 :: 45 :: b))) ∧ Below w.heap.size w w' := by
  have hC := containsS x (45 :: 45 :: b) w hx hg.g
  generalize Lib.contains x (45 :: 45 :: b) = q at hC
  go_enter Tryz.func271, Tryz.ntmps271
  go_wp2_with fail
  with_reducible refine hC.mono ?_
  rintro e w1 ⟨rfl, rfl⟩
  go_wp2_with fail
  go_ret
  exact ⟨rfl, Below.refl _ _⟩
theorem sumLen_le {n : Nat} : ∀ {l : List Bs}, (∀ x ∈ l, x.length ≤ n) → sumLen l ≤ l.length * n
  | [], _ => by simp [sumLen]
  | x :: l, h => by
    have h1 := h x (by simp)
    have h2 := sumLen_le (l := l) fun y hy => h y (by simp [hy])
    have e : sumLen (x :: l) = x.length + sumLen l := by simp [sumLen]
    rw [e, List.length_cons, Nat.succ_mul]; omega
set_option maxHeartbeats 4000000 in
set_option maxRecDepth 100000 in
theorem choose_any (v : Value) (l : List Bs) (w : World) (hr : RdG 1 strC w v l) (hlen : l.length ≤ 1000000) (hx : ∀ x ∈ l, x.length ≤ 4000000000) (hg : Gz w) :
    Calls Tryz.prog 197 #[v] w fun e w' => e = .returned (.string ⟨(chooseT l).toArray⟩) ∧ Below w.heap.size w w' := by
  have hsum := sumLen_le hx
  have hsum2 : sumLen l ≤ 4000000000000000 := Nat.le_trans hsum (by have := Nat.mul_le_mul_right 4000000000 hlen; omega)
  have HX := Lib.hid hx
  have HR := Lib.hid hr
  have HT := Lib.hid (show chooseN [45, 45, 98] l = firstN (fun n => !hasAny [45, 45, 98] l n) (20 * (sumLen l + l.length + 1)) 0 from rfl)
  have HTT := Lib.hid (show chooseT l = 98 :: Lib.itoa (chooseN [45, 45, 98] l) from rfl)
  clear hx hr hsum
  go_enter Tryz.func197, Tryz.ntmps197
  go_wp2_with fail
  go_loopw [3] (fun i wr => ∃ k f : Nat, i = .int .i64 k ∧ k + f = 20 * (sumLen l + l.length + 1) ∧ Hid (chooseN [45, 45, 98] l = firstN (fun n => !hasAny [45, 45, 98] l n) f k) ∧ Hid (∀ j, j < k → hasAny [45, 45, 98] l j = true) ∧ Below w.heap.size w wr) (fun i _ => 20 * (sumLen l + l.length + 1) - (intOf i).toNat)
  case atStart => exact ⟨0, _, rfl, by omega, HT, Lib.hid (fun j h => by omega), Below.refl _ _⟩
  case round =>
    clear HT
    obtain ⟨k, f, rfl, hkf, HF, HA, B⟩ := hrel
    have hk := hasAny_small _ _ k HA.out
    obtain ⟨f, rfl⟩ : ∃ n, f = n + 1 := ⟨f - 1, by omega⟩
    have hI := itoa_any (k : Int) (by omega) (by omega) wr (hg.next B)
    have hil := Lib.itoa_length_le (k : Int) (by omega) (by omega)
    have HH := Lib.hid (show hasAny [45, 45, 98] l k = l.any (fun s => Lib.contains s (45 :: 45 :: (98 :: Lib.itoa (k : Int)))) from rfl)
    have HO := Lib.hid (show hasAny [45, 45, 98] l k = false → chooseT l = 98 :: Lib.itoa (k : Int) from fun h => by
      rw [HTT.out, HF.out, firstN_hit (by rw [h]; rfl)])
    generalize Lib.itoa (k : Int) = ib at hI hil HH HO
    go_wp2_with fail
    with_reducible refine hI.mono ?_
    rintro e w2 ⟨rfl, b2⟩
    have B2 := B.trans (b2.mono B.size)
    have kb := Blk.new w2 #[.string ⟨(98 :: ib).toArray⟩] 9
    have BA := (Below.refl w2.heap.size w2).alloc (Nat.le_refl _) (.cells #[.string ⟨(98 :: ib).toArray⟩] 9)
    have B3 := B2.trans (BA.mono B2.size)
    have hg3 := hg.next B3
    have hC := anyStrF 271 w2.heap.size (enters_of Tryz.func271 (by kernel_rfl) rfl) (fun s => Lib.contains s (45 :: 45 :: (98 :: ib))) v l (w2.alloc (.cells #[.string ⟨(98 :: ib).toArray⟩] 9)) (HR.out.next B3) (by omega) (fun x hx W hW => choose1_any x (98 :: ib) w2.heap.size W (by have := HX.out x hx; omega) (by simp; omega) ((kb.next hW kb.lt).cell 0) (hg3.next hW).r)
    rw [← HH.out] at hC
    generalize hb : hasAny [45, 45, 98] l k = q at hC HO
    have Hb := Lib.hid hb
    have kbc := kb.cell
    clear hb HH hI b2 BA
    go_wp2_with fail
    with_reducible refine hC.mono ?_
    rintro e w4 ⟨rfl, b4⟩
    have kb4 := kb.next b4 kb.lt
    have B4 := B3.trans (b4.mono B3.size)
    have kbc4 := kb4.cell
    clear hC b4 kbc
    cases q with
    | true =>
      have HN := Lib.hid (show chooseN [45, 45, 98] l = firstN (fun n => !hasAny [45, 45, 98] l n) f (k + 1) from by rw [HF.out, firstN_go (by rw [Hb.out]; rfl)])
      have HA2 := Lib.hid (show ∀ j, j < k + 1 → hasAny [45, 45, 98] l j = true from fun j h => by
        rcases Nat.lt_or_ge j k with h' | h'
        · exact HA.out j h'
        · obtain rfl : j = k := by omega
          exact Hb.out)
      clear HF HA HO Hb
      go_wp2_with fail
      go_roundw
      case rel => exact ⟨k + 1, f, by go_num, by omega, HN, HA2, B4⟩
      case measure => simp [intOf]; omega
    | false =>
      have HN := Lib.hid (HO.out rfl)
      clear HF HA HO Hb
      go_wp2_with fail
      go_ret
      exact ⟨by rw [HN.out]; rfl, B4⟩
theorem KindOr.get {B : Nat} {s : Bs} {e : Ending} {w' : World} (h : KindOr B (readK s) e w') : ∃ m ps kv err, e = .returned (.tuple #[.string ⟨m.toArray⟩, kv, err]) ∧ OwnP w' B kv ps ∧ (readK s).getD ([], []) = (m, ps) ∧ m.length ≤ s.length ∧ FldsN s.length ps ∧ (readK s = none ∧ err = .iface 30 (.int .i64 3) ∨ readK s = some (m, ps) ∧ err = .nilIface) := by
  rcases h with ⟨m, l, v, h1, h2, h3⟩ | ⟨h1, h2⟩
  · have hn := readK_n h1
    exact ⟨m, l, v, _, h2, h3, by rw [h1]; rfl, hn.1, hn.2, Or.inr ⟨h1, rfl⟩⟩
  · exact ⟨[], [], _, _, h2, OwnG.nil _ _ _ _ _, by rw [h1]; rfl, by simp, ⟨by simp, fun f hf => by cases hf⟩, Or.inl ⟨h1, rfl⟩⟩
theorem flat_set1 : ∀ (ys : List Fld) (i : Nat) (y : Bs) (h : i < ys.length), (ys.flatMap fldC).set (i * 2 + 1) (.string ⟨y.toArray⟩) = (ys.set i ((ys[i]).1, y)).flatMap fldC
  | [], i, _, h => by simp at h
  | f :: ys, 0, y, _ => rfl
  | f :: ys, i + 1, y, h => by
    have ih := flat_set1 ys i y (by simpa using h)
    rw [List.set_cons_succ, List.flatMap_cons, List.flatMap_cons, List.getElem_cons_succ, ← ih, List.set_append_right _ _ (by show 2 ≤ _; omega)]
    have e2 : (i + 1) * 2 + 1 - (fldC f).length = i * 2 + 1 := by show (i + 1) * 2 + 1 - 2 = _; omega
    rw [e2]
theorem OwnG.setV {e : TypeId} {w : World} {B g n cap : Nat} {ys : List Fld} (h : OwnG e 2 fldC w B (.slice (some ⟨g, 0, none⟩) n cap) ys) (i : Nat) (hi : i < ys.length) (y : Bs) :
    OwnG e 2 fldC (w.setCell ⟨g, i * 2 + 1, none⟩ (.string ⟨y.toArray⟩)) B (.slice (some ⟨g, 0, none⟩) n cap) (ys.set i ((ys[i]).1, y)) := by
  obtain ⟨_, _, hn, _⟩ := h.row
  subst hn
  unfold OwnG at h ⊢
  have h1 := (World.ownsRow.stored h (i * 2 + 1) (.string ⟨y.toArray⟩)).1
  rw [flat_set1 ys i y hi] at h1
  rw [List.length_set]
  exact h1
theorem setP_go {ps : List Fld} {n b : Bs} {k : Nat} (hk : k < ps.length) (h : ps[k].1 ≠ n) (hs : setP ps n b = ps.take k ++ setP (ps.drop k) n b) : setP ps n b = ps.take (k + 1) ++ setP (ps.drop (k + 1)) n b := by
  rw [hs, List.drop_eq_getElem_cons hk]
  conv => lhs; rw [setP, if_neg h]
  rw [List.take_succ_eq_append_getElem hk, List.append_assoc]
  rfl
theorem setP_hit {ps : List Fld} {n b : Bs} {k : Nat} (hk : k < ps.length) (h : ps[k].1 = n) (hs : setP ps n b = ps.take k ++ setP (ps.drop k) n b) : setP ps n b = ps.set k ((ps[k]).1, b) := by
  rw [hs, List.drop_eq_getElem_cons hk]
  conv => lhs; rw [setP, if_pos h]
  rw [List.set_eq_take_append_cons_drop, if_pos hk]
theorem setP_len (n b : Bs) : ∀ ps : List Fld, (setP ps n b).length = ps.length
  | [] => rfl
  | f :: ps => by unfold setP; split <;> simp [setP_len n b ps]
theorem setP_mem {n b : Bs} {N : Nat} (hb : b.length ≤ N) : ∀ {ps : List Fld}, FldsN N ps → FldsN N (setP ps n b) := fun {ps} h => by
  refine ⟨by rw [setP_len]; exact h.1, ?_⟩
  have h2 := h.2
  clear h
  induction ps with
  | nil => intro f hf; cases hf
  | cons g ps ih =>
    intro f hf
    unfold setP at hf
    split at hf
    · rcases List.mem_cons.1 hf with rfl | hf
      · exact ⟨(h2 g (by simp)).1, hb⟩
      · exact h2 f (by simp [hf])
    · rcases List.mem_cons.1 hf with rfl | hf
      · exact h2 _ (by simp)
      · exact ih (fun f hf => h2 f (by simp [hf])) f hf
set_option maxHeartbeats 8000000 in
set_option maxRecDepth 100000 in
theorem rename_any (v b : Bs) (w : World) (hv : v.length ≤ 1000000) (hb : b.length ≤ 1000000) (hg : Gr w) :
    Calls Tryz.prog 198 #[.string ⟨v.toArray⟩, .string ⟨b.toArray⟩] w fun e w' => e = .returned (.string ⟨(renameF v b).toArray⟩) ∧ Below w.heap.size w w' := by
  have hK := readKind_any v w (by omega) hg.g
  have HN := Lib.hid (show renameF v b = (writeK ((readK v).getD ([], [])).1 (setP ((readK v).getD ([], [])).2 boundN b)).getD [] from rfl)
  go_enter Tryz.func198, Tryz.ntmps198
  go_wp2_with fail
  refine hK.mono ?_
  rintro e w1 ⟨hh, b1⟩
  obtain ⟨m, ps, kv, err, rfl, hown, hk, hml, hpn, _⟩ := hh.get
  clear hh hK
  rw [hk] at HN
  have hg1 := hg.next b1
  have hpn := hpn.mono hv
  have hW := fun W kv2 (ps2 : List Fld) (h1 : RdF W kv2 ps2) (h2 : FldsN 1000000 ps2) (h3 : Ground W) => writeKind_any m kv2 ps2 W h1 (by omega) h2.1 h2.2 h3
  have HS0 := Lib.hid (show setP ps boundN b = ps.take 0 ++ setP (ps.drop 0) boundN b from by simp)
  clear hk
  obtain ⟨ka, kn, kcap, rfl⟩ : ∃ a n c, kv = .slice a n c := by
    obtain ⟨a, c, h, _⟩ := OwnG.rd (by decide) fldC_len hown
    exact ⟨a, _, c, h⟩
  have hkn : kn = ps.length := by
    obtain ⟨a, c, h, _⟩ := OwnG.rd (by decide) fldC_len hown
    injection h
  subst hkn
  have hlen := hpn.1
  go_wp2_with fail
  go_loopw [19] (fun i wr => ∃ k : Nat, i = .int .i64 k ∧ k ≤ ps.length ∧ OwnP wr w.heap.size (.slice ka ps.length kcap) ps ∧ Hid (setP ps boundN b = ps.take k ++ setP (ps.drop k) boundN b) ∧ Gr wr ∧ Below w.heap.size w wr) (fun i _ => ps.length - (intOf i).toNat)
  case atStart => exact ⟨0, rfl, by omega, hown, HS0, hg1, b1⟩
  case round =>
    clear hown HS0 hg1 b1
    obtain ⟨k, rfl, hk, hown, HS, hgr, B⟩ := hrel
    by_cases hlt : k < ps.length
    · obtain ⟨g, hka⟩ : ∃ g, ka = some ⟨g, 0, none⟩ := by
        obtain ⟨a, c, h, h2⟩ := RdF.open (OwnG.rd (by decide) fldC_len hown)
        injection h with h _ _
        obtain ⟨b, h3, _⟩ := h2 k hlt
        exact ⟨b, h.trans h3⟩
      subst hka
      have c1 := OwnG.cellAt fldC_len hown k hlt 0 (by decide)
      have c2 := OwnG.cellAt fldC_len hown k hlt 1 (by decide)
      have hfr := OwnG.free hown
      have hge := OwnG.own_ge hown g rfl
      have hset := hown.setV k hlt b
      have HG := Lib.hid (fun h => setP_go (n := boundN) (b := b) hlt h HS.out)
      have HH := Lib.hid (fun h => setP_hit (n := boundN) (b := b) hlt h HS.out)
      simp only [fldC, Nat.add_zero, List.getElem?_cons_zero, List.getElem?_cons_succ] at c1 c2
      generalize ps[k] = f at c1 c2 hset HG HH
      obtain ⟨x, y⟩ := f
      simp only at c1 c2 hset HG HH
      by_cases he : x = boundN
      · have HH := Lib.hid (HH.out he)
        have he2 : (x == [98, 111, 117, 110, 100, 97, 114, 121]) = true := by rw [beq_iff_eq]; exact he
        have hgs : Gr (wr.setCell ⟨g, k * 2 + 1, none⟩ (.string ⟨b.toArray⟩)) := hgr.keep fun c hc => heap_set _ _ _ c (by have := hg.size; simp only; omega)
        have B2 := B.setCell (p := ⟨g, k * 2 + 1, none⟩) hge (.string ⟨b.toArray⟩)
        have hrd := OwnG.rd (by decide) fldC_len hset
        rw [← HH.out] at hrd
        have hWW := hW _ _ _ hrd (setP_mem hb hpn) hgs.g
        clear HG HH HS he hW hset hown hrd
        go_wp2_with fail
        with_reducible refine hWW.mono ?_
        rintro e w3 ⟨hh, b3⟩
        rcases hh with ⟨o, ho, rfl⟩ | ⟨ev, ho, rfl, _⟩
        · have HN := Lib.hid (show renameF v b = o from by rw [HN.out, ho]; rfl)
          clear ho
          go_wp2_with fail
          go_ret
          exact ⟨ret_str HN.out.symm, B2.trans (b3.mono B2.size)⟩
        · have HN := Lib.hid (show renameF v b = [] from by rw [HN.out, ho]; rfl)
          clear ho
          go_wp2_with fail
          go_ret
          exact ⟨ret_str HN.out.symm, B2.trans (b3.mono B2.size)⟩
      · have HG := Lib.hid (HG.out he)
        have he2 : (x == [98, 111, 117, 110, 100, 97, 114, 121]) = false := by rw [beq_eq_false_iff_ne]; exact he
        clear HH he HS hset
        go_wp2_with fail
        go_roundw
        case rel => exact ⟨k + 1, by go_num, by omega, hown, HG, hgr, B⟩
        case measure => simp [intOf]; omega
    · obtain rfl : k = ps.length := by omega
      have HH := Lib.hid (show setP ps boundN b = ps from by rw [HS.out, List.take_length, List.drop_length]; simp [setP])
      have hrd := OwnG.rd (by decide) fldC_len hown
      have hWW := hW _ _ _ hrd hpn hgr.g
      rw [HH.out] at HN
      clear HH HS hW hown hrd
      go_wp2_with fail
      with_reducible refine hWW.mono ?_
      rintro e w3 ⟨hh, b3⟩
      rcases hh with ⟨o, ho, rfl⟩ | ⟨ev, ho, rfl, _⟩
      · have HN := Lib.hid (show renameF v b = o from by rw [HN.out, ho]; rfl)
        clear ho
        go_wp2_with fail
        go_ret
        exact ⟨ret_str HN.out.symm, B.trans (b3.mono B.size)⟩
      · have HN := Lib.hid (show renameF v b = [] from by rw [HN.out, ho]; rfl)
        clear ho
        go_wp2_with fail
        go_ret
        exact ⟨ret_str HN.out.symm, B.trans (b3.mono B.size)⟩
theorem packL_len2 : ∀ (b : Bs) (n : Nat), (packL b n).length ≤ 2 * b.length + 6
  | [], _ => by simp [packL]
  | [a], _ => by simp [packL, quad_length]
  | [a, b], _ => by simp [packL, quad_length]
  | a :: b :: c :: l, n => by
    unfold packL
    split
    · have := packL_len2 l 0; simp [quad_length]; omega
    · have := packL_len2 l (n + 4); simp [quad_length]; omega
theorem shortestF_len2 (s : Bs) : (shortestF s).2.length ≤ 2 * s.length + 6 := by
  unfold shortestF
  have h2 := packL_len2 s 0
  have h3 : packT s = packL s 0 := rfl
  split
  · simp only; omega
  · split
    · rename_i h; rw [h3] at h; exact Nat.le_trans h h2
    · rw [h3]; exact h2
theorem writeHF_len : ∀ (l : List Fld) (o : Bs), writeHF l = some o → o.length ≤ 7 * weight l
  | [], o, h => by cases h; simp
  | f :: l, o, h => by
    unfold writeHF at h
    split at h
    · cases hw : writeHF l with
      | none => rw [hw] at h; cases h
      | some o2 =>
        rw [hw] at h
        simp only [Option.map_some, Option.some.injEq] at h
        subst h
        have h1 := lineT_len (f.1 ++ 58 :: 32 :: firstOf f) (f.2.drop (firstOf f).length)
        have h2 := writeHF_len l o2 hw
        have h3 : (firstOf f).length ≤ f.2.length := by have := cut_le f.2 [32]; unfold firstOf; omega
        rw [List.length_append, weight_cons]
        simp at h1
        omega
    · cases h
theorem writeH_len {l : List Fld} {o : Bs} (h : writeH l = some o) : o.length ≤ 7 * weight l + 2 := by
  unfold writeH at h
  simp only [Option.map_eq_some_iff] at h
  obtain ⟨o2, h1, rfl⟩ := h
  have := writeHF_len _ _ h1
  simp; omega
theorem weight_filter (p : Fld → Bool) : ∀ l : List Fld, weight (l.filter p) ≤ weight l
  | [] => Nat.le_refl _
  | f :: l => by
    have := weight_filter p l
    rw [List.filter_cons, weight_cons]
    split
    · rw [weight_cons]; omega
    · omega
theorem paramsF_weight : ∀ (k : Nat) (rest : Bs) (l : List Fld), paramsF k rest = some l → weight l ≤ rest.length
  | 0, _, _, h => by cases h
  | k + 1, rest, l, h => by
    unfold paramsF at h
    cases hp : paramOf rest with
    | none => rw [hp] at h; cases h
    | some x =>
      obtain ⟨f, r⟩ := x
      rw [hp] at h
      have hle := paramOf_le hp
      cases r with
      | nil => simp only at h; cases h; rw [weight_cons]; simp [weight]; omega
      | cons c r' =>
        simp only at h
        split at h
        · simp only [Option.map_eq_some_iff] at h
          obtain ⟨l2, h1, rfl⟩ := h
          have := paramsF_weight k r' l2 h1
          rw [weight_cons]
          simp at hle; omega
        · cases h
theorem readK_weight {s m : Bs} {l : List Fld} (h : readK s = some (m, l)) : weight l ≤ s.length := by
  unfold readK at h
  simp only at h
  split at h
  · simp only [Option.map_eq_some_iff] at h
    obtain ⟨l2, h1, h2⟩ := h
    cases h2
    split at h1
    · have := paramsF_weight _ _ _ h1
      have := cut_le s [59]
      omega
    · cases h1; simp [weight]
  · cases h
theorem getK_weight (s : Bs) : ((readK s).getD ([], [])).1.length ≤ s.length ∧ weight ((readK s).getD ([], [])).2 ≤ s.length := by
  cases h : readK s with
  | none => simp [weight]
  | some x =>
    obtain ⟨m, l⟩ := x
    exact ⟨(readK_n h).1, readK_weight h⟩
theorem flatMap_escV (v : Bs) : (v.flatMap escV).length ≤ 2 * v.length := by
  induction v with
  | nil => simp
  | cons c v ih =>
    have : (escV c).length ≤ 2 := by unfold escV; split <;> (try split) <;> simp
    rw [List.flatMap_cons, List.length_append, List.length_cons]; omega
theorem quoV_len2 (v : Bs) : (quoV v).length ≤ 2 * v.length + 2 := by
  have := flatMap_escV v
  unfold quoV
  split
  · omega
  · rw [List.length_cons, List.length_append]
    show _ + 1 + 1 ≤ _
    omega
theorem paramsW_len : ∀ (l : List Fld) (o : Bs), paramsW l = some o → o.length ≤ 5 * weight l
  | [], o, h => by cases h; simp
  | p :: l, o, h => by
    unfold paramsW at h
    cases hp : paramW p with
    | none => rw [hp] at h; cases h
    | some x =>
      rw [hp] at h
      simp only [Option.map_eq_some_iff] at h
      obtain ⟨o2, h1, rfl⟩ := h
      have h2 := paramsW_len l _ h1
      have h3 : x.length ≤ 5 * (p.1.length + p.2.length + 1) := by
        unfold paramW at hp
        split at hp
        · cases hp
          have := quoV_len2 p.2
          simp; omega
        · cases hp
      rw [List.length_append, weight_cons]; omega
theorem writeK_len {m o : Bs} {l : List Fld} (h : writeK m l = some o) : o.length ≤ m.length + 5 * weight l := by
  unfold writeK at h
  simp only at h
  split at h
  · simp only [Option.map_eq_some_iff] at h
    obtain ⟨o2, h1, rfl⟩ := h
    have := paramsW_len _ _ h1
    simp; omega
  · cases h
theorem setP_weight (n b : Bs) : ∀ l : List Fld, weight (setP l n b) ≤ weight l + b.length
  | [] => by simp [setP, weight]
  | f :: l => by
    unfold setP
    have := setP_weight n b l
    split <;> (simp only [weight_cons]; omega)
theorem renameF_len (v b : Bs) : (renameF v b).length ≤ 6 * v.length + 5 * b.length := by
  unfold renameF
  have h1 := getK_weight v
  have h2 := setP_weight boundN b ((readK v).getD ([], [])).2
  simp only
  cases hw : writeK ((readK v).getD ([], [])).1 (setP ((readK v).getD ([], [])).2 boundN b) with
  | none => simp
  | some o => have := writeK_len hw; simp only [Option.getD_some]; omega
theorem renF_weight (b : Bs) : ∀ l : List Fld, weight (renF l b) ≤ 6 * weight l + 5 * b.length
  | [] => by simp [renF, weight]
  | f :: l => by
    unfold renF
    have h1 := renameF_len f.2 b
    have h2 := renF_weight b l
    split
    · simp only [weight_cons]; omega
    · simp only [weight_cons]; omega
theorem delF_weight (l : List Fld) : weight (delF l) ≤ weight l := weight_filter _ l
def PrtIn : Nat → Prt → Prop
  | 0, _ => False
  | n + 1, .mk h b _ ps => weight h ≤ 120000 ∧ b.length ≤ 40000000 ∧ ps.length ≤ 1000000 ∧ ∀ p ∈ ps, PrtIn n p
theorem chooseT_len (l : List Bs) (hlen : l.length ≤ 1000000) (hx : ∀ x ∈ l, x.length ≤ 4000000000) : (chooseT l).length ≤ 22 := by
  have h1 := chooseN_lt [45, 45, 98] l
  have h2 := sumLen_le hx
  have h3 : l.length * 4000000000 ≤ 4000000000000000 := by omega
  have := Lib.itoa_length_le (chooseN [45, 45, 98] l : Nat) (by omega) (by omega)
  unfold chooseT
  simp; omega
theorem piecesT_len (b : Bs) : ∀ l : List Bs, (piecesT b l).length = sumLen l + l.length * (b.length + 6)
  | [] => by simp [piecesT, sumLen]
  | s :: l => by
    have ih := piecesT_len b l
    have e : sumLen (s :: l) = s.length + sumLen l := by simp [sumLen]
    have e2 : piecesT b (s :: l) = (45 :: 45 :: (b ++ 13 :: 10 :: (s ++ [13, 10]))) ++ piecesT b l := rfl
    rw [e, e2, List.length_append, ih, show (s :: l).length * (b.length + 6) = l.length * (b.length + 6) + (b.length + 6) from Nat.succ_mul _ _]
    simp; omega
def WriteOr (wb left : Nat) (r : Except Int (Bs × Nat)) (e : Ending) (w' : World) : Prop :=
  (∃ s n, r = .ok (s, n) ∧ n < left ∧ s.length ≤ (left - n) * 100000000 ∧ e = .returned (.tuple #[.string ⟨s.toArray⟩, .nilIface]) ∧ Blk w' wb #[.int .i64 n] 172) ∨ (∃ c s v, r = .error c ∧ e = .returned (.tuple #[.string s, v]) ∧ ErrN w' v c)
theorem delete_any2 (v : Value) (l : List Fld) (B : Nat) (w : World) (hown : OwnF w B v l) (hok : FldsOk l) (hg : Gr w) (hgB : 3 < B) (hB : B ≤ w.heap.size) :
    Calls Tryz.prog 193 #[v, .func (.func 195) #[] #[]] w fun e w' => ∃ v', e = .returned v' ∧ OwnF w' B v' (delF l) ∧ Below B w w' :=
  (delete_any v l B w hown hok hg hgB).mono fun _ _ ⟨v', h1, h2, h3⟩ => ⟨v', h1, h2, by
    rcases h3 with h | ⟨g, hg, h⟩
    · exact h.mono hB
    · exact (h.mono hB).shut hg⟩
set_option maxHeartbeats 8000000 in
set_option maxRecDepth 100000 in
theorem pwrite_low (ha pa : Option Go.Addr) (hn hc pn pc : Nat) (body : Bs) (m : Bool) (wb : Nat) (dp li : Int) (w : World) (hb : Blk w wb #[.int .i64 li] 172) (hl : 0 ≤ li ∧ li ≤ 40) (hd : 1 ≤ dp ∧ dp ≤ 5) (h : dp = 5 ∨ li = 0) :
    Calls Tryz.prog 106 #[.pointer (some ⟨wb, 0, none⟩), .agg #[.slice ha hn hc, .string ⟨body.toArray⟩, .bool m, .slice pa pn pc], .int .i64 dp] w fun e w' => e = .returned (.tuple #[.string ⟨#[]⟩, .iface 30 (.int .i64 4)]) ∧ BelowO wb w.heap.size w w' := by
  have kc := hb.cell 0
  have kf := hb.free 0
  have kcs : (w.setCell ⟨wb, 0, none⟩ (.int .i64 (li - 1))).cell? ⟨wb, 0, none⟩ = some (.int .i64 (li - 1)) := (hb.set 0 _).cell 0
  have hlb := hb.lt
  have hne : w.heap.size ≠ wb := by omega
  have BO : BelowO wb w.heap.size w (w.setCell ⟨wb, 0, none⟩ (.int .i64 (li - 1))) := (BelowO.refl _ _ _).set _
  by_cases h0 : li - 1 < 0
  · go_enter Tryz.func106, Tryz.ntmps106
    go_wp2_with fail
    go_ret2
    exact ⟨rfl, BO.trans (BelowO.of ((Below.refl _ _).alloc (by simp) _))⟩
  · have h4 : dp > 4 := by omega
    clear h
    go_enter Tryz.func106, Tryz.ntmps106
    go_wp2_with fail
    go_ret2
    exact ⟨rfl, BO.trans (BelowO.of ((Below.refl _ _).alloc (by simp) _))⟩
end Go.Proofs.YtignjjnflcpiiaaGreatDoor
