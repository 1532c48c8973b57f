/- part.plain, part.shortest: how a body is written. Condition: at most 4 * 10^9 bytes; what the variables hold; What the variables of the library hold that numerals need besides. No condition; part.choose: the first boundary that stands in none of some texts; part.rename. Condition: at most 10^6 texts. -/
import Derived.Lib.AppendIntMem
import Derived.Test.YtignjjnflcpiiaaGreatDoorQ18
namespace Go.Proofs.YtignjjnflcpiiaaGreatDoor
open Go Go.RowKit
def badPl (r : Nat) : Bool := r != 9 && (decide (r < 32) || decide (126 < r))
theorem badPl_hi (r : Nat) (h : 128 ≤ r) : badPl r = true := by
  unfold badPl
  rw [decide_eq_true (show 126 < r by omega)]
  have : (r != 9) = true := by rw [bne_iff_ne]; omega
  rw [this]; simp
theorem plainC_all : ((List.range 256).all fun n => plainC n.toUInt8 == !(badPl n.toUInt8.toNat)) = true := by kernel_rfl
theorem plainC_bad (c : UInt8) : plainC c = !(badPl c.toNat) := by
  have := List.all_eq_true.1 plainC_all c.toNat (List.mem_range.2 c.toNat_lt)
  rw [u8_nat'] at this
  exact beq_iff_eq.1 this
theorem plainB_any (s : Bs) : plainB s = !((Lib.replaceAll s [13, 10] []).any fun c => badPl c.toNat) := by
  unfold plainB
  rw [List.not_any_eq_all_not]
  congr 1
  funext c
  exact plainC_bad c
set_option maxHeartbeats 2000000 in
set_option maxRecDepth 100000 in
theorem plain1_any (r : Nat) (hr : r ≤ 1114111) (w : World) :
    Calls Tryz.prog 305 #[.int .i32 (r : Int)] w fun e w' => e = .returned (.bool (badPl r)) ∧ w = w' := by
  by_cases h0 : r = 9
  · subst h0
    go_enter Tryz.func305, Tryz.ntmps305
    go_wp2_with fail
    go_ret
    exact ⟨ret_bool rfl, rfl⟩
  have hb : (r != 9) = true := by rw [bne_iff_ne]; exact h0
  have e0 : ((r : Int) != 9) = true := by rw [bne_iff_ne]; omega
  by_cases h1 : r < 32
  · have HB := Lib.hid (show badPl r = true from by unfold badPl; rw [decide_eq_true h1, hb]; rfl)
    have h1 : (r : Int) < 32 := by omega
    clear h0 hb
    go_enter Tryz.func305, Tryz.ntmps305
    go_wp2_with fail
    go_ret
    exact ⟨ret_bool HB.out.symm, rfl⟩
  · by_cases h2 : 126 < r
    · have HB := Lib.hid (show badPl r = true from by unfold badPl; rw [decide_eq_true h2, hb]; simp)
      have h1 : ¬ (r : Int) < 32 := by omega
      have h2 : (126 : Int) < r := by omega
      clear h0 hb
      go_enter Tryz.func305, Tryz.ntmps305
      go_wp2_with fail
      go_ret
      exact ⟨ret_bool HB.out.symm, rfl⟩
    · have HB := Lib.hid (show badPl r = false from by unfold badPl; rw [decide_eq_false h2, decide_eq_false h1, hb]; rfl)
      have h1 : ¬ (r : Int) < 32 := by omega
      have h2 : ¬ (126 : Int) < r := by omega
      clear h0 hb
      go_enter Tryz.func305, Tryz.ntmps305
      go_wp2_with fail
      go_ret
      exact ⟨ret_bool HB.out.symm, rfl⟩
theorem plain1_grows (w : World) : PredGrows Tryz.prog 305 #[] badPl w := fun W x hx _ =>
  (plain1_any x hx W).mono fun _ _ ⟨h1, h2⟩ => ⟨h1, h2 ▸ Below.refl _ _⟩
set_option maxHeartbeats 2000000 in
set_option maxRecDepth 100000 in
theorem pplain_any (s : Bs) (w : World) (hs : s.length ≤ 4000000000) (hg : Gr w) :
    Calls Tryz.prog 267 #[.string ⟨s.toArray⟩] w fun e w' => e = .returned (.bool (plainB s)) ∧ Below w.heap.size w w' := by
  obtain ⟨m, hm⟩ := hg.g.maxLen
  have hR := Tryz.strings_ReplaceAll ⟨s.toArray⟩ ⟨#[13, 10]⟩ ⟨#[]⟩ m w (by show s.length < _; omega) hm (by decide) (by show s.length + _ * 0 ≤ _; omega)
  have HN := Lib.hid (plainB_any s)
  have hR : Calls Tryz.prog 304 #[.string ⟨s.toArray⟩, .string ⟨#[13, 10]⟩, .string ⟨#[]⟩] w fun e w' => e = .returned (.string ⟨(Lib.replaceAll s [13, 10] []).toArray⟩) ∧ Below w.heap.size w w' := hR
  generalize Lib.replaceAll s [13, 10] [] = t at hR HN
  have hC := fun W => containsF 305 (enters_of Tryz.func305 (by kernel_rfl) rfl) badPl badPl_hi t #[] W (plain1_grows W)
  generalize (t.any fun c => badPl c.toNat) = q at hC HN
  clear hm hg
  go_enter Tryz.func267, Tryz.ntmps267
  go_wp2_with fail
  with_reducible refine hR.mono ?_
  rintro e w1 ⟨rfl, b1⟩
  go_wp2_with fail
  with_reducible refine (hC _).mono ?_
  rintro e w2 ⟨rfl, b2⟩
  go_wp2_with fail
  go_ret
  exact ⟨ret_bool (by rw [HN.out]), b1.trans (b2.mono b1.size)⟩
theorem shortestF_plain {s : Bs} (h : plainB s = true) : shortestF s = (w7bit, s) := by unfold shortestF; rw [if_pos h]
theorem shortestF_quote {s : Bs} (h : plainB s = false) (h2 : (quoteT s).length ≤ (packT s).length) : shortestF s = (wQuoted, quoteT s) := by unfold shortestF; rw [if_neg (by rw [h]; decide), if_pos h2]
theorem shortestF_pack {s : Bs} (h : plainB s = false) (h2 : ¬ (quoteT s).length ≤ (packT s).length) : shortestF s = (wBase64, packT s) := by unfold shortestF; rw [if_neg (by rw [h]; decide), if_neg h2]
theorem shortestF_len (s : Bs) : (shortestF s).1.length ≤ 16 ∧ (shortestF s).2.length ≤ 6 * s.length := by
  unfold shortestF
  have h1 := quoteT_length s
  have h2 := packT_length s
  split
  · exact ⟨show w7bit.length ≤ 16 by decide, by simp only; omega⟩
  · split
    · exact ⟨show wQuoted.length ≤ 16 by decide, h1⟩
    · exact ⟨show wBase64.length ≤ 16 by decide, h2⟩
set_option maxHeartbeats 2000000 in
set_option maxRecDepth 100000 in
theorem shortest_any (s : Bs) (w : World) (hs : s.length ≤ 4000000000) (hg : Gr w) :
    Calls Tryz.prog 196 #[.string ⟨s.toArray⟩] w fun e w' => e = .returned (.tuple #[.string ⟨(shortestF s).1.toArray⟩, .string ⟨(shortestF s).2.toArray⟩]) ∧ Below w.heap.size w w' := by
  have hP := pplain_any s w hs hg
  have HS1 := Lib.hid (fun h => shortestF_plain (s := s) h)
  have HS2 := Lib.hid (fun h h2 => shortestF_quote (s := s) h h2)
  have HS3 := Lib.hid (fun h h2 => shortestF_pack (s := s) h h2)
  have hQ := fun W => quote_any s W (by omega)
  have hK := fun W => pack_any s W (by omega)
  have hql := quoteT_length s
  have hkl := packT_length s
  generalize plainB s = b at hP HS1 HS2 HS3
  generalize shortestF s = z at HS1 HS2 HS3 ⊢
  generalize quoteT s = q at hQ hql HS2 HS3
  generalize packT s = k at hK hkl HS2 HS3
  go_enter Tryz.func196, Tryz.ntmps196
  go_wp2_with fail
  with_reducible refine hP.mono ?_
  rintro e w1 ⟨rfl, b1⟩
  cases b with
  | true =>
    have HN := Lib.hid (HS1.out rfl)
    go_wp2_with fail
    go_ret2
    exact ⟨by rw [HN.out]; rfl, b1⟩
  | false =>
    have HT2 := Lib.hid (HS2.out rfl)
    have HT3 := Lib.hid (HS3.out rfl)
    clear HS1 HS2 HS3
    go_wp2_with fail
    with_reducible refine (hQ _).mono ?_
    rintro e w2 ⟨rfl, b2⟩
    have B2 := b1.trans (b2.mono b1.size)
    go_wp2_with fail
    with_reducible refine (hK _).mono ?_
    rintro e w3 ⟨rfl, b3⟩
    have B3 := B2.trans (b3.mono B2.size)
    by_cases hle : q.length ≤ k.length
    · have HN := Lib.hid (HT2.out hle)
      have hle2 : (q.length : Int) ≤ k.length := by omega
      go_wp2_with fail
      go_ret2
      exact ⟨by rw [HN.out]; rfl, B3⟩
    · have HN := Lib.hid (HT3.out hle)
      have hle2 : ¬ (q.length : Int) ≤ k.length := by omega
      go_wp2_with fail
      go_ret2
      exact ⟨by rw [HN.out]; rfl, B3⟩
structure Gz (w : World) : Prop where
  r : Gr w
  tab : Lib.TabIs Tryz.prog w "internal/strconv.uint64pow10" .u64 Lib.pow10Tab
  syn : ∃ ev, w.cell? ⟨7, 0, none⟩ = some ev ∧ (ev = .nilIface ∨ ∃ te pe, ev = .iface te pe)
  rng : ∃ ev, w.cell? ⟨8, 0, none⟩ = some ev ∧ (ev = .nilIface ∨ ∃ te pe, ev = .iface te pe)
theorem tabName : Tryz.prog.globalNamed "internal/strconv.uint64pow10" = some 4 := by kernel_rfl
theorem Gz.size {w : World} (h : Gz w) : 8 < w.heap.size := by
  obtain ⟨ev, h1, _⟩ := h.rng
  exact World.block_lt_of_cell? w _ h1
theorem Gz.keep {w w' : World} (h : Gz w) (hk : ∀ b, b ≤ 8 → w'.heap[b]? = w.heap[b]?) : Gz w' := by
  have go : ∀ b k, b ≤ 8 → w'.cell? ⟨b, k, none⟩ = w.cell? ⟨b, k, none⟩ := fun b k hb => by simp only [World.cell?]; rw [hk b hb]
  refine ⟨h.r.keep fun b hb => hk b (Nat.le_trans hb (by decide)), ?_, ?_, ?_⟩
  · have ht := h.tab
    unfold Lib.TabIs World.var? at ht ⊢
    rw [tabName] at ht ⊢
    simp only [Option.bind_some] at ht ⊢
    rw [hk _ (by decide)]; exact ht
  · obtain ⟨ev, h1, h2⟩ := h.syn
    exact ⟨ev, (go _ _ (by decide)).trans h1, h2⟩
  · obtain ⟨ev, h1, h2⟩ := h.rng
    exact ⟨ev, (go _ _ (by decide)).trans h1, h2⟩
theorem Gz.next {w w' : World} (h : Gz w) (hb : Below w.heap.size w w') : Gz w' := h.keep fun b hle => hb.block b (by have := h.size; omega)
theorem Gz.nextO {lb : Nat} {w w' : World} (h : Gz w) (hb : BelowO lb w.heap.size w w') (hl : 8 < lb) : Gz w' := h.keep fun b hle => hb.block b (by have := h.size; omega) (by omega)
theorem itoa_any (n : Int) (h0 : -9223372036854775808 ≤ n) (h1 : n ≤ 9223372036854775807) (w : World) (hg : Gz w) :
    Calls Tryz.prog 41 #[.int .i64 n] w fun e w' => e = .returned (.string ⟨(Lib.itoa n).toArray⟩) ∧ Below w.heap.size w w' := by
  refine (Tryz.strconv_Itoa n h0 h1 w hg.tab).mono ?_
  rintro e w' ⟨rfl, k, os, rfl⟩
  exact ⟨rfl, Lib.below_grow _ w (Nat.le_refl _) k os⟩
def idxQ {α : Type} (p : α → Bool) : List α → Nat → Int
  | [], _ => -1
  | f :: l, k => if p f then k else idxQ p l (k + 1)
theorem idxQ_any {α : Type} (p : α → Bool) : ∀ (l : List α) (k : Nat), decide (0 ≤ idxQ p l k) = l.any p
  | [], _ => rfl
  | f :: l, k => by
    unfold idxQ
    cases hp : p f with
    | true => simp [hp]
    | false =>
      have := idxQ_any p l (k + 1)
      simp only [Bool.false_eq_true, if_false, List.any_cons, hp, Bool.false_or]
      exact this
set_option maxHeartbeats 4000000 in
set_option maxRecDepth 100000 in
theorem idxStrF (g cb : Nat) (eg : ∀ args w, (callFunc g args).run Tryz.prog w = .ok (.enter g args) w) (p : Bs → Bool) (v : Value) (l : List Bs) (w : World) (hr : RdG 1 strC w v l) (hlen : l.length ≤ 1000000000000)
    (hp : ∀ x ∈ l, ∀ W, Below w.heap.size w W → Calls Tryz.prog g #[.string ⟨x.toArray⟩, .pointer (some ⟨cb, 0, none⟩)] W fun e w' => e = .returned (.bool (p x)) ∧ Below W.heap.size W w') :
    Calls Tryz.prog 306 #[v, .func (.func g) #[] #[.pointer (some ⟨cb, 0, none⟩)]] w fun e w' => e = .returned (.int .i64 (idxQ p l 0)) ∧ Below w.heap.size w w' := by
  obtain ⟨a, cap, rfl, hc⟩ := hr.opens strC_len
  have HC := Lib.hid hc
  have HP := Lib.hid hp
  clear hc hr hp
  go_enter Tryz.func306, Tryz.ntmps306
  go_wp2_with fail
  go_loopw [8] (fun i wr => ∃ k : Nat, i = .int .i64 k ∧ k ≤ l.length ∧ Hid (idxQ p l 0 = idxQ p (l.drop k) k) ∧ Below w.heap.size w wr) (fun i _ => l.length - (intOf i).toNat)
  case atStart => exact ⟨0, rfl, by omega, Lib.hid (by simp), Below.refl _ _⟩
  case round =>
    obtain ⟨k, rfl, hk, Hall, B⟩ := hrel
    by_cases hlt : k < l.length
    · obtain ⟨b, rfl, hb0, h1⟩ := HC.out k hlt
      have HD := Lib.hid (show idxQ p (l.drop k) k = if p l[k] then (k : Int) else idxQ p (l.drop (k + 1)) (k + 1) from by rw [List.drop_eq_getElem_cons hlt]; rfl)
      have c1 : wr.cell? ⟨b, k, none⟩ = some (.string ⟨(l[k]).toArray⟩) := by
        have := (B.cell (p := ⟨b, k * 1 + 0, none⟩) hb0).trans (h1 0 (by decide))
        simpa [strC] using this
      have hG := HP.out _ (List.getElem_mem hlt) wr B
      clear h1
      generalize l[k] = x at HD c1 hG
      generalize p x = bx at hG HD
      go_wp2_with fail
      with_reducible refine hG.mono ?_
      rintro e w2 ⟨rfl, hb2⟩
      have B := B.trans (hb2.mono B.size)
      clear hb2 hG
      cases bx with
      | true =>
        have HG := Lib.hid (show idxQ p l 0 = (k : Int) from by rw [Hall.out, HD.out]; rfl)
        go_wp2_with fail
        go_ret
        exact ⟨ret_int (by rw [HG.out]), B⟩
      | false =>
        have HG := Lib.hid (show idxQ p l 0 = idxQ p (l.drop (k + 1)) (k + 1) from by rw [Hall.out, HD.out]; rfl)
        go_wp2_with fail
        go_roundw
        case rel => exact ⟨k + 1, by go_num, by omega, HG, B⟩
        case measure => simp [intOf]; omega
    · obtain rfl : k = l.length := by omega
      have HG := Lib.hid (show idxQ p l 0 = -1 from by rw [Hall.out, List.drop_length]; rfl)
      go_wp2_with fail
      go_ret
      exact ⟨ret_int (by rw [HG.out]), B⟩
set_option maxHeartbeats 4000000 in
set_option maxRecDepth 100000 in
theorem anyStrF (g cb : Nat) (eg : ∀ args w, (callFunc g args).run Tryz.prog w = .ok (.enter g args) w) (p : Bs → Bool) (v : Value) (l : List Bs) (w : World) (hr : RdG 1 strC w v l) (hlen : l.length ≤ 1000000000000)
    (hp : ∀ x ∈ l, ∀ W, Below w.heap.size w W → Calls Tryz.prog g #[.string ⟨x.toArray⟩, .pointer (some ⟨cb, 0, none⟩)] W fun e w' => e = .returned (.bool (p x)) ∧ Below W.heap.size W w') :
    Calls Tryz.prog 270 #[v, .func (.func g) #[] #[.pointer (some ⟨cb, 0, none⟩)]] w fun e w' => e = .returned (.bool (l.any p)) ∧ Below w.heap.size w w' := by
  have hI := idxStrF g cb eg p v l w hr hlen hp
  have HN := Lib.hid (idxQ_any p l 0)
  generalize idxQ p l 0 = k at hI HN
  clear hp eg hr
  go_enter Tryz.func270, Tryz.ntmps270
  go_wp2_with fail
  with_reducible refine hI.mono ?_
  rintro e w1 ⟨rfl, b1⟩
  go_wp2_with fail
  go_ret
  exact ⟨ret_bool (by rw [← HN.out]), b1⟩
set_option maxHeartbeats 4000000 in
set_option maxRecDepth 100000 in
theorem choose1_any (x b : Bs) (cb : Nat) (w : World) (hx : x.length < 4294967281) (hb : b.length ≤ 1000000) (hc : w.cell? ⟨cb, 0, none⟩ = some (.string ⟨b.toArray⟩)) (hg : Gr w) :
    Calls Tryz.prog 271 #[.string ⟨x.toArray⟩, .pointer (some ⟨cb, 0, none⟩)] w fun e w' => e = .returned (.bool (Lib.contains x (45 :: 45 :: b))) ∧ Below w.heap.size w w' := by
  have hC := containsS x (45 :: 45 :: b) w hx hg.g
  generalize Lib.contains x (45 :: 45 :: b) = q at hC
  go_enter Tryz.func271, Tryz.ntmps271
  go_wp2_with fail
  with_reducible refine hC.mono ?_
  rintro e w1 ⟨rfl, rfl⟩
  go_wp2_with fail
  go_ret
  exact ⟨rfl, Below.refl _ _⟩
theorem sumLen_le {n : Nat} : ∀ {l : List Bs}, (∀ x ∈ l, x.length ≤ n) → sumLen l ≤ l.length * n
  | [], _ => by simp [sumLen]
  | x :: l, h => by
    have h1 := h x (by simp)
    have h2 := sumLen_le (l := l) fun y hy => h y (by simp [hy])
    have e : sumLen (x :: l) = x.length + sumLen l := by simp [sumLen]
    rw [e, List.length_cons, Nat.succ_mul]; omega
set_option maxHeartbeats 4000000 in
set_option maxRecDepth 100000 in
theorem choose_any (v : Value) (l : List Bs) (w : World) (hr : RdG 1 strC w v l) (hlen : l.length ≤ 1000000) (hx : ∀ x ∈ l, x.length ≤ 4000000000) (hg : Gz w) :
    Calls Tryz.prog 197 #[v] w fun e w' => e = .returned (.string ⟨(chooseT l).toArray⟩) ∧ Below w.heap.size w w' := by
  have hsum := sumLen_le hx
  have hsum2 : sumLen l ≤ 4000000000000000 := Nat.le_trans hsum (by have := Nat.mul_le_mul_right 4000000000 hlen; omega)
  have HX := Lib.hid hx
  have HR := Lib.hid hr
  have HT := Lib.hid (show chooseN [45, 45, 98] l = firstN (fun n => !hasAny [45, 45, 98] l n) (20 * (sumLen l + l.length + 1)) 0 from rfl)
  have HTT := Lib.hid (show chooseT l = 98 :: Lib.itoa (chooseN [45, 45, 98] l) from rfl)
  clear hx hr hsum
  go_enter Tryz.func197, Tryz.ntmps197
  go_wp2_with fail
  go_loopw [3] (fun i wr => ∃ k f : Nat, i = .int .i64 k ∧ k + f = 20 * (sumLen l + l.length + 1) ∧ Hid (chooseN [45, 45, 98] l = firstN (fun n => !hasAny [45, 45, 98] l n) f k) ∧ Hid (∀ j, j < k → hasAny [45, 45, 98] l j = true) ∧ Below w.heap.size w wr) (fun i _ => 20 * (sumLen l + l.length + 1) - (intOf i).toNat)
  case atStart => exact ⟨0, _, rfl, by omega, HT, Lib.hid (fun j h => by omega), Below.refl _ _⟩
  case round =>
    clear HT
    obtain ⟨k, f, rfl, hkf, HF, HA, B⟩ := hrel
    have hk := hasAny_small _ _ k HA.out
    obtain ⟨f, rfl⟩ : ∃ n, f = n + 1 := ⟨f - 1, by omega⟩
    have hI := itoa_any (k : Int) (by omega) (by omega) wr (hg.next B)
    have hil := Lib.itoa_length_le (k : Int) (by omega) (by omega)
    have HH := Lib.hid (show hasAny [45, 45, 98] l k = l.any (fun s => Lib.contains s (45 :: 45 :: (98 :: Lib.itoa (k : Int)))) from rfl)
    have HO := Lib.hid (show hasAny [45, 45, 98] l k = false → chooseT l = 98 :: Lib.itoa (k : Int) from fun h => by
      rw [HTT.out, HF.out, firstN_hit (by rw [h]; rfl)])
    generalize Lib.itoa (k : Int) = ib at hI hil HH HO
    go_wp2_with fail
    with_reducible refine hI.mono ?_
    rintro e w2 ⟨rfl, b2⟩
    have B2 := B.trans (b2.mono B.size)
    have kb := Blk.new w2 #[.string ⟨(98 :: ib).toArray⟩] 9
    have BA := (Below.refl w2.heap.size w2).alloc (Nat.le_refl _) (.cells #[.string ⟨(98 :: ib).toArray⟩] 9)
    have B3 := B2.trans (BA.mono B2.size)
    have hg3 := hg.next B3
    have hC := anyStrF 271 w2.heap.size (enters_of Tryz.func271 (by kernel_rfl) rfl) (fun s => Lib.contains s (45 :: 45 :: (98 :: ib))) v l (w2.alloc (.cells #[.string ⟨(98 :: ib).toArray⟩] 9)) (HR.out.next B3) (by omega) (fun x hx W hW => choose1_any x (98 :: ib) w2.heap.size W (by have := HX.out x hx; omega) (by simp; omega) ((kb.next hW kb.lt).cell 0) (hg3.next hW).r)
    rw [← HH.out] at hC
    generalize hb : hasAny [45, 45, 98] l k = q at hC HO
    have Hb := Lib.hid hb
    have kbc := kb.cell
    clear hb HH hI b2 BA
    go_wp2_with fail
    with_reducible refine hC.mono ?_
    rintro e w4 ⟨rfl, b4⟩
    have kb4 := kb.next b4 kb.lt
    have B4 := B3.trans (b4.mono B3.size)
    have kbc4 := kb4.cell
    clear hC b4 kbc
    cases q with
    | true =>
      have HN := Lib.hid (show chooseN [45, 45, 98] l = firstN (fun n => !hasAny [45, 45, 98] l n) f (k + 1) from by rw [HF.out, firstN_go (by rw [Hb.out]; rfl)])
      have HA2 := Lib.hid (show ∀ j, j < k + 1 → hasAny [45, 45, 98] l j = true from fun j h => by
        rcases Nat.lt_or_ge j k with h' | h'
        · exact HA.out j h'
        · obtain rfl : j = k := by omega
          exact Hb.out)
      clear HF HA HO Hb
      go_wp2_with fail
      go_roundw
      case rel => exact ⟨k + 1, f, by go_num, by omega, HN, HA2, B4⟩
      case measure => simp [intOf]; omega
    | false =>
      have HN := Lib.hid (HO.out rfl)
      clear HF HA HO Hb
      go_wp2_with fail
      go_ret
      exact ⟨by rw [HN.out]; rfl, B4⟩
def ReadPost (l : Bs) (w : World) (e : Ending) (w' : World) : Prop :=
  e = .returned (match readA l with | some a => .tuple #[a.val, .nilIface] | none => .tuple #[Addr.zero.val, .iface 30 (.int .i64 3)]) ∧ Below w.heap.size w w'
set_option maxHeartbeats 1000000 in
set_option maxRecDepth 100000 in
theorem addrRead_any (l : Bs) (w : World) (hl : l.length < 4294967281) (hg : Ground w) :
    Calls Tryz.prog 44 #[.string ⟨l.toArray⟩] w (ReadPost l w) := by
  go_enter Tryz.func44, Tryz.ntmps44
  go_wp2_with fail
  go_loop [12] (fun i => ∃ k : Nat, k ≤ l.length ∧ i = .int .i64 k ∧ (l.take k).all okB = true) (fun i => l.length - (intOf i).toNat)
  case atStart => exact ⟨0, Nat.zero_le _, rfl, by simp⟩
  case round =>
    obtain ⟨k, hk, rfl, hall⟩ := hrel
    by_cases hlt : k < l.length
    · by_cases ho : (33 : Int) ≤ l[k].toNat ∧ (l[k].toNat : Int) ≤ 126
      · obtain ⟨h1, h2⟩ := ho
        go_wp2_with fail
        go_round
        case rel => exact ⟨k + 1, by omega, by go_num, all_take_succ okB hlt hall (okB_yes h1 h2)⟩
        case measure => simp [intOf]; omega
      · have hf := all_at_false okB hlt (okB_no ho)
        go_wp2_with fail
        all_goals
          refine bodyPost_ret (v := .tuple #[Addr.zero.val, .iface 30 (.int .i64 3)]) (by simp [results, Tryz.results44, go_sem, Addr.zero]) rfl ⟨by rw [readA, hf]; rfl, by go_grown⟩
    · obtain rfl : k = l.length := by omega
      rw [List.take_length] at hall
      have le1 := cut_le2 l [35]
      generalize hc1 : Lib.cut l [35] = c1 at le1
      obtain ⟨s1, f, hf⟩ := c1
      have hC1 := Lib.hid hc1; clear hc1
      simp only at le1
      go_wp2_with fail
      refine (cutS l [35] _ hl (hg.next (by go_grown))).mono ?_
      rintro e w1 ⟨rfl, hb1⟩
      rw [hC1.out]
      have r1 : Blk w1 w.heap.size zCells 36 := ((Blk.new w _ _).alloc _).next hb1 (by go_size)
      have a1 := (Blk.new (w.alloc (.cells zCells 36)) zCells 36).next hb1 (by go_size)
      rw [World.size_alloc] at a1
      have B1 : Below w.heap.size w w1 := (((Below.refl _ w).alloc (Nat.le_refl _) _).alloc (by go_size) _).trans (hb1.mono (by go_size))
      have le2 := cut_le2 s1 [63]
      generalize hc2 : Lib.cut s1 [63] = c2 at le2
      obtain ⟨s2, q, hq⟩ := c2
      have hC2 := Lib.hid hc2; clear hc2
      simp only at le2
      clear hb1
      have az := a1.free
      have ac := a1.cell
      go_wp2_with fail
      have B1' := (B1.setCell (p := ⟨w.heap.size + 1, 7, none⟩) (by simp) (.string ⟨f.toArray⟩)).setCell (p := ⟨w.heap.size + 1, 6, none⟩) (by simp) (.bool hf)
      refine (cutS s1 [63] _ (by omega) (hg.next B1')).mono ?_
      rintro e w2 ⟨rfl, hb2⟩
      rw [hC2.out]
      have r2 := ((r1.setO (a := ⟨w.heap.size + 1, 7, none⟩) (by simp) (.string ⟨f.toArray⟩)).setO (a := ⟨w.heap.size + 1, 6, none⟩) (by simp) (.bool hf)).next hb2 (by have := r1.lt; go_size)
      have a2 : Blk w2 (w.heap.size + 1) #[.string ⟨#[]⟩, .bool false, .string ⟨#[]⟩, .string ⟨#[]⟩, .bool false, .string ⟨#[]⟩, .bool hf, .string ⟨f.toArray⟩] _ := ((a1.set 7 (.string ⟨f.toArray⟩)).set 6 (.bool hf)).next hb2 (by have := a1.lt; go_size)
      have B2 : Below w.heap.size w w2 := B1'.trans (hb2.mono (by have := r1.lt; go_size))
      clear hb2 ac az a1 r1 B1 B1'
      have az := a2.free
      have ac := a2.cell
      have hI := idxByte s2 58 58 rfl
      have hK : HasAt s2 58 (Lib.indexByte s2 58) := hasAt_index s2 58
      generalize Lib.indexByte s2 58 = k at hI hK
      go_upto_region 11 with (go_at_call 100; refine (hI _).mono ?_; rintro e w' ⟨rfl, rfl⟩)
      go_cut [53] (fun s53 wx => s53 = .bool (hasScheme s2) ∧ Blk wx w.heap.size zCells 36 ∧ Blk wx (w.heap.size + 1) #[.string ⟨#[]⟩, .bool false, .string ⟨#[]⟩, .string ⟨#[]⟩, .bool hq, .string ⟨q.toArray⟩, .bool hf, .string ⟨f.toArray⟩] 36 ∧ Below w.heap.size w wx)
      case first =>
        have r3 := (r2.setO (a := ⟨w.heap.size + 1, 5, none⟩) (by simp) (.string ⟨q.toArray⟩)).setO (a := ⟨w.heap.size + 1, 4, none⟩) (by simp) (.bool hq)
        have a3 : Blk _ (w.heap.size + 1) #[.string ⟨#[]⟩, .bool false, .string ⟨#[]⟩, .string ⟨#[]⟩, .bool hq, .string ⟨q.toArray⟩, .bool hf, .string ⟨f.toArray⟩] _ := (a2.set 5 (.string ⟨q.toArray⟩)).set 4 (.bool hq)
        have B3 := (B2.setCell (p := ⟨w.heap.size + 1, 5, none⟩) (by simp) (.string ⟨q.toArray⟩)).setCell (p := ⟨w.heap.size + 1, 4, none⟩) (by simp) (.bool hq)
        clear ac az
        rcases Int.lt_or_le 0 k with hk0 | hk0
        · have hkl := hK.le hk0
          go_wp2_with fail
          refine (scheme_any _ _ (by simp; omega)).mono ?_
          rintro e w4 ⟨rfl, hb4⟩
          go_wp2_with fail
          go_meet
          exact ⟨by rw [hK.yes hk0], r3.next hb4 r3.lt, a3.next hb4 a3.lt, B3.trans (hb4.mono (by have := r3.lt; omega))⟩
        · go_wp2_with fail
          go_meet
          exact ⟨by rw [hK.no hk0], r3, a3, B3⟩
      case rest =>
        obtain ⟨rfl, r4, a4, B4⟩ := hcut
        go_upto_if 53 with fail
        go_cut [0] (fun s0 wx => s0 = .string ⟨(parseScheme s2).2.toArray⟩ ∧ Blk wx w.heap.size zCells 36 ∧ Blk wx (w.heap.size + 1) #[.string ⟨(parseScheme s2).1.toArray⟩, .bool false, .string ⟨#[]⟩, .string ⟨#[]⟩, .bool hq, .string ⟨q.toArray⟩, .bool hf, .string ⟨f.toArray⟩] 36 ∧ Below w.heap.size w wx)
        case first =>
          have az := a4.free
          have ac := a4.cell
          cases hb : hasScheme s2 with
          | false =>
            go_wp2_with fail
            go_meet
            have h := parseScheme_no hb
            exact ⟨by rw [h], r4, by rw [h]; exact a4, B4⟩
          | true =>
            have h := hK.parse hb
            have hk0 := hK.pos hb
            have hkl := hK.le hk0
            go_wp2_with fail
            go_region
            all_goals go_wp2_with fail
            all_goals go_meet
            all_goals exact ⟨by rw [h], r4.setO (by simp) _, by rw [h]; exact a4.set 0 _, (B4.setCell (p := ⟨w.heap.size + 1, 0, none⟩) (by simp) _).drew⟩
        case rest =>
          obtain ⟨rfl, r5, a5, B5⟩ := hcut
          clear r4 a4 B4 r2 a2 B2
          generalize hs3 : parseScheme s2 = s3 at r5 a5 B5 ⊢
          obtain ⟨sch, s3⟩ := s3
          have HS3 := Lib.hid hs3; clear hs3
          simp only at a5 ⊢
          have az := a5.free
          have ac := a5.cell
          have rz := r5.free
          have rc := r5.cell
          have hlt5 := a5.lt
          by_cases hp : Lib.hasPrefix s3 [47, 47] = true
          · have hq2 := cutPre s3 [47, 47] wc
            have HA := Lib.hid (parseAuth_yes hp)
            have HL := Lib.hid (Lib.trimPrefix_le s3 [47, 47])
            rw [hp] at hq2
            generalize Lib.trimPrefix s3 [47, 47] = rest at hq2 HA HL
            have hI2 := idxByte rest 47 47 rfl
            have hK2 : HasAt rest 47 (Lib.indexByte rest 47) := hasAt_index rest 47
            generalize Lib.indexByte rest 47 = k2 at hI2 hK2
            go_wp2_with fail
            refine hq2.mono ?_
            rintro e w' ⟨rfl, rfl⟩
            go_wp2_with fail
            refine (hI2 _).mono ?_
            rintro e w' ⟨rfl, rfl⟩
            rcases Int.lt_or_le k2 0 with hk2 | hk2
            · have hA := hK2.auth_no hk2
              go_wp2_with fail
              go_region
              all_goals go_wp2_with fail
              all_goals
                refine bodyPost_ret (v := .tuple #[(parseA l).val, .nilIface]) (by rw [parseA_eq hC1.out hC2.out HS3.out (HA.out.trans hA)]; simp [results, Tryz.results44, go_sem, rc] <;> rfl) rfl ⟨by rw [readA, hall]; rfl, by go_grown⟩
            · have hA := hK2.auth_yes hk2
              have hkl2 := hK2.le' hk2
              go_wp2_with fail
              go_region
              all_goals go_wp2_with fail
              all_goals
                refine bodyPost_ret (v := .tuple #[(parseA l).val, .nilIface]) (by rw [parseA_eq hC1.out hC2.out HS3.out (HA.out.trans hA)]; simp [results, Tryz.results44, go_sem, rc] <;> rfl) rfl ⟨by rw [readA, hall]; rfl, by go_grown⟩
          · have hq2 := cutPre s3 [47, 47] wc
            have hA := parseAuth_no hp
            rw [Bool.eq_false_iff.2 hp] at hq2
            go_wp2_with fail
            refine hq2.mono ?_
            rintro e w' ⟨rfl, rfl⟩
            go_wp2_with fail
            refine bodyPost_ret (v := .tuple #[(parseA l).val, .nilIface]) (by rw [parseA_eq hC1.out hC2.out HS3.out hA]; simp [results, Tryz.results44, go_sem, rc] <;> rfl) rfl ⟨by rw [readA, hall]; rfl, by go_grown⟩
theorem hexD_get (n : Nat) (h : n < 16) : (⟨#[48, 49, 50, 51, 52, 53, 54, 55, 56, 57, 97, 98, 99, 100, 101, 102]⟩ : ByteArray)[n]'(by exact h) = hexD n := by
  show _ = ([48, 49, 50, 51, 52, 53, 54, 55, 56, 57, 97, 98, 99, 100, 101, 102] : Bs).getD n 0
  rw [List.getD_eq_getElem?_getD, List.getElem?_eq_getElem (show n < ([48, 49, 50, 51, 52, 53, 54, 55, 56, 57, 97, 98, 99, 100, 101, 102] : Bs).length from h)]
  rfl
theorem showB_all : ((List.range 256).all fun n => showB n.toUInt8 == (decide ((n.toUInt8.toNat : Int) < 33) || decide (126 < (n.toUInt8.toNat : Int)) || ((n.toUInt8.toNat : Int) == 37))) = true := by kernel_rfl
theorem showB_int (c : UInt8) : showB c = (decide ((c.toNat : Int) < 33) || decide (126 < (c.toNat : Int)) || ((c.toNat : Int) == 37)) := by
  have := List.all_eq_true.1 showB_all c.toNat (List.mem_range.2 c.toNat_lt)
  rw [u8_nat'] at this
  exact beq_iff_eq.1 this
theorem showC_len (c : UInt8) : (showC c).length ≤ 3 := by unfold showC; split <;> simp
theorem showF_len (s : Bs) : (s.flatMap showC).length ≤ 3 * s.length := by
  induction s with
  | nil => simp
  | cons c s ih => have := showC_len c; rw [List.flatMap_cons, List.length_append, List.length_cons]; omega
theorem showT_len (s : Bs) : (showT s).length ≤ 3 * s.length + 2 := by
  have := showF_len s
  unfold showT
  simp only [List.length_cons, List.length_append, List.length_nil]
  omega
set_option maxHeartbeats 8000000 in
set_option maxRecDepth 100000 in
theorem show_any (s : Bs) (w : World) (hl : s.length ≤ 1000000000000) :
    Calls Tryz.prog 280 #[.string ⟨s.toArray⟩] w fun e w' => e = .returned (.string ⟨(showT s).toArray⟩) ∧ Below w.heap.size w w' := by
  have hT := showF_len s
  have b0 := bldNew w
  have HT := Lib.hid (show showT s = 34 :: (s.flatMap showC ++ [34]) from rfl)
  have BA := (Below.refl w.heap.size w).alloc (Nat.le_refl _) (.cells #[.pointer none, .slice none 0 0] 128)
  go_enter Tryz.func280, Tryz.ntmps280
  go_upto_region 2 with fail
  generalize World.alloc _ _ = w1 at b0 BA ⊢
  go_wp2_with fail
  with_reducible refine (wrByte w.heap.size w.heap.size [] 34 34 rfl w1 b0 (by simp) BA.size).mono ?_
  rintro e w2 ⟨rfl, b2, hb2⟩
  have B2 := BA.trans hb2
  clear b0 BA hb2
  go_wp2_with fail
  go_loopw [9] (fun i wr => ∃ (k : Nat) (out : Bs), i = .int .i64 k ∧ k ≤ s.length ∧ Hid (out ++ (s.drop k).flatMap showC = 34 :: s.flatMap showC) ∧ Bld w.heap.size w.heap.size out wr ∧ Below w.heap.size w wr) (fun i _ => s.length - (intOf i).toNat)
  case atStart => exact ⟨0, [34], rfl, by omega, Lib.hid (by simp), b2, B2⟩
  case round =>
    clear b2 B2
    obtain ⟨k, out, rfl, hk, Htot, hb, B⟩ := hrel
    have hlen : out.length + ((s.drop k).flatMap showC).length = (s.flatMap showC).length + 1 := by
      have := congrArg List.length Htot.out
      simpa using this
    by_cases hlt : k < s.length
    · have HL := Lib.hid (drop_cons hlt)
      have HT2 := Lib.hid (show (out ++ showC s[k]) ++ (s.drop (k + 1)).flatMap showC = 34 :: s.flatMap showC from by
        rw [← Htot.out, HL.out, List.flatMap_cons]; simp)
      have hc : (s[k].toNat : Int) < 256 := by have := s[k].toNat_lt; omega
      have hc2 := s[k].toNat_lt
      clear HL Htot
      go_upto_region 7 with fail
      generalize s[k] = c at hc hc2 HT2 ⊢
      have HS := Lib.hid (showB_int c)
      have HSC := Lib.hid (show showC c = if showB c then [37, hexD (c.toNat / 16), hexD (c.toNat % 16)] else [c] from rfl)
      go_cut [24] (fun t wx => t = .bool (showB c) ∧ wx = wr)
      case first =>
        clear HT2 hlen hb B HSC
        have hc0 : (0 : Int) ≤ c.toNat := by omega
        by_cases h1 : (c.toNat : Int) < 33
        · go_wp2_with fail
          go_meet
          exact ⟨by rw [HS.out]; simp [h1], rfl⟩
        · by_cases h2 : (126 : Int) < c.toNat
          · go_wp2_with fail
            go_meet
            exact ⟨by rw [HS.out]; simp [h2], rfl⟩
          · by_cases h3 : (c.toNat : Int) = 37
            · have h4 : ((c.toNat : Int) == 37) = true := by rw [beq_iff_eq]; exact h3
              have HH := Lib.hid (show showB c = true from by rw [HS.out, h4]; simp)
              clear h3
              go_wp2_with fail
              go_meet
              exact ⟨by rw [HH.out], rfl⟩
            · have h4 : ((c.toNat : Int) == 37) = false := by rw [beq_eq_false_iff_ne]; exact h3
              have HH := Lib.hid (show showB c = false from by rw [HS.out, h4]; simp [h1, h2])
              clear h3
              go_wp2_with fail
              go_meet
              exact ⟨by rw [HH.out], rfl⟩
      case rest =>
      obtain ⟨rfl, rfl⟩ := hcut
      obtain ⟨w1, rfl⟩ : ∃ x : World, x = wc := ⟨_, rfl⟩
      generalize showB c = sb at HSC ⊢
      have hsl := showC_len c
      cases sb with
      | false =>
        have HSC := Lib.hid (show showC c = [c] from HSC.out)
        go_wp2_with fail
        with_reducible refine (wrByte w.heap.size w.heap.size out (c.toNat : Int) c rfl w1 hb (by omega) B.size).mono ?_
        rintro e w2 ⟨rfl, hb, hb2⟩
        go_wp2_with fail
        go_roundw
        case rel => exact ⟨k + 1, out ++ [c], by go_num, by omega, Lib.hid (by rw [← HT2.out, HSC.out]), hb, B.trans hb2⟩
        case measure => simp [intOf]; omega
      | true =>
        have HSC := Lib.hid (show showC c = [37, hexD (c.toNat / 16), hexD (c.toNat % 16)] from HSC.out)
        have hn1 : c.toNat / 16 < 16 := by omega
        have hn2 : c.toNat % 16 < 16 := by omega
        have q1 : (c.toNat : Int) / 16 = ((c.toNat / 16 : Nat) : Int) := by omega
        have q2 : bits .and .u8 (c.toNat : Int) 15 = ((c.toNat % 16 : Nat) : Int) := (u8_and15 _ (by omega) hc).trans (by omega)
        have g1 := Lib.hid (hexD_get (c.toNat / 16) hn1)
        have g2 := Lib.hid (hexD_get (c.toNat % 16) hn2)
        have hi1 : ((c.toNat / 16 : Nat) : Int) < 16 := by omega
        have hi2 : ((c.toNat % 16 : Nat) : Int) < 16 := by omega
        generalize c.toNat / 16 = n1 at hn1 q1 g1 HSC hi1
        generalize c.toNat % 16 = n2 at hn2 q2 g2 HSC hi2
        go_upto_region 8 with fail
        have BA := ((Below.refl w.heap.size w1).alloc B.size (.cells #[.int .u8 ((⟨#[48, 49, 50, 51, 52, 53, 54, 55, 56, 57, 97, 98, 99, 100, 101, 102]⟩ : ByteArray)[n1]'(by exact hn1)).toNat, .int .u8 ((⟨#[48, 49, 50, 51, 52, 53, 54, 55, 56, 57, 97, 98, 99, 100, 101, 102]⟩ : ByteArray)[n2]'(by exact hn2)).toNat] 5)).drew
        have hbA := (hb.next (((Below.refl w1.heap.size w1).alloc (Nat.le_refl _) (.cells #[.int .u8 ((⟨#[48, 49, 50, 51, 52, 53, 54, 55, 56, 57, 97, 98, 99, 100, 101, 102]⟩ : ByteArray)[n1]'(by exact hn1)).toNat, .int .u8 ((⟨#[48, 49, 50, 51, 52, 53, 54, 55, 56, 57, 97, 98, 99, 100, 101, 102]⟩ : ByteArray)[n2]'(by exact hn2)).toNat] 5)).drew))
        have hW := wrStr w.heap.size w.heap.size out [37, (⟨#[48, 49, 50, 51, 52, 53, 54, 55, 56, 57, 97, 98, 99, 100, 101, 102]⟩ : ByteArray)[n1]'(by exact hn1), (⟨#[48, 49, 50, 51, 52, 53, 54, 55, 56, 57, 97, 98, 99, 100, 101, 102]⟩ : ByteArray)[n2]'(by exact hn2)] _ hbA (by simp; omega) (Nat.le_trans B.size BA.size)
        go_region_law ((go_simp; refine hW.mono ?_; rintro e w9 ⟨rfl, hb9, hbb9⟩))
        all_goals
          go_wp2_with fail
          go_roundw
          case rel => exact ⟨k + 1, _, by go_num, by omega, Lib.hid (by rw [← HT2.out, HSC.out, ← g1.out, ← g2.out]), hb9, (B.trans BA).trans hbb9⟩
          case measure => simp [intOf]; omega
    · obtain rfl : k = s.length := by omega
      have hd : out = 34 :: s.flatMap showC := by have := Htot.out; rw [List.drop_length] at this; simpa using this
      have HD := Lib.hid (show showT s = out ++ [34] from by rw [HT.out, hd]; rfl)
      have hol : out.length ≤ 3 * s.length + 1 := by rw [hd]; simp only [List.length_cons]; omega
      clear Htot hd HT
      go_wp2_with fail
      with_reducible refine (wrByte w.heap.size w.heap.size out 34 34 rfl wr hb (by omega) B.size).mono ?_
      rintro e w2 ⟨rfl, hb, hb2⟩
      go_wp2_with fail
      with_reducible refine (bldStr _ _ _ _ hb (B.trans hb2).size).mono ?_
      rintro e w3 ⟨rfl, hb3⟩
      go_wp2_with fail
      go_ret
      exact ⟨ret_str HD.out.symm, (B.trans hb2).trans hb3⟩
end Go.Proofs.YtignjjnflcpiiaaGreatDoor
