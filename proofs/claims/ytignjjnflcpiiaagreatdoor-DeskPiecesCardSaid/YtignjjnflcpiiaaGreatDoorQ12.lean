/- page's tag: behind a tag. Condition: the page takes at most 10^9 bytes; page.Links: the links of a page. Condition: the page takes at most 10^9 bytes; page.Replace, as plain data, and its laws. No program, no condition; address.scheme says whether a text may be a scheme. Condition: the text takes at. -/
import Derived.Lib.Join
import Derived.Test.YtignjjnflcpiiaaGreatDoorQ11
namespace Go.Proofs.YtignjjnflcpiiaaGreatDoor
open Go Go.RowKit
set_option maxHeartbeats 8000000 in
set_option maxRecDepth 100000 in
theorem tag_any (B b : Nat) (s : Bs) (i : Nat) (out : List Lnk) (w : World) (hg : Gr w) (hgB : 3 < B) (h : Sc B b s i out w) (hi : i ≤ s.length) (hs : s.length ≤ 1000000000) (hol : out.length ≤ i) :
    Calls Tryz.prog 101 #[.pointer (some ⟨b, 0, none⟩)] w fun e w' => e = .returned (.tuple #[]) ∧ Sc B b s (tagN s i).1 (out ++ (tagN s i).2) w' ∧ Below B w w' := by
  have hBb : B ≤ b := h.hB
  obtain ⟨n, hn⟩ : ∃ n, n = runN (s.drop i) alnum := ⟨_, rfl⟩
  have hrn := runN_le (s.drop i) alnum
  rw [← hn, List.length_drop] at hrn
  have HN := Lib.hid hn
  have HT := Lib.hid (tagN_eq s i)
  rw [← hn] at HT
  clear hn
  go_enter Tryz.func101, Tryz.ntmps101
  go_upto_region 0 with fail
  go_cut [2] (fun t wx => t = .int .i64 (n : Int) ∧ Sc B b s i out wx ∧ Below B w wx)
  case first =>
    have H' := Lib.hid h
    obtain ⟨v, hk, _, _⟩ := h
    have kcd := (Blk.drew hk).cell
    have hn : n = runN (s.drop i) [65, 66, 67, 68, 69, 70, 71, 72, 73, 74, 75, 76, 77, 78, 79, 80, 81, 82, 83, 84, 85, 86, 87, 88, 89, 90, 97, 98, 99, 100, 101, 102, 103, 104, 105, 106, 107, 108, 109, 110, 111, 112, 113, 114, 115, 116, 117, 118, 119, 120, 121, 122, 48, 49, 50, 51, 52, 53, 54, 55, 56, 57] := HN.out
    have hRun := fun W => run_any (s.drop i) [65, 66, 67, 68, 69, 70, 71, 72, 73, 74, 75, 76, 77, 78, 79, 80, 81, 82, 83, 84, 85, 86, 87, 88, 89, 90, 97, 98, 99, 100, 101, 102, 103, 104, 105, 106, 107, 108, 109, 110, 111, 112, 113, 114, 115, 116, 117, 118, 119, 120, 121, 122, 48, 49, 50, 51, 52, 53, 54, 55, 56, 57] W (by simp; omega) (by decide) (by decide)
    rw [← hn] at hRun
    clear hn
    have K0 := (Below.refl w.heap.size w).drew
    have i1 : (i : Int) ≤ s.length := by omega
    have i2 : (0 : Int) ≤ i := by omega
    go_region_held3 (fun W => (∀ k, W.cell? ⟨b, k, none⟩ = (#[.string ⟨s.toArray⟩, .int .i64 (i : Int), v])[k]?) ∧ Below w.heap.size w W)
      (first
        | with_reducible exact ⟨kcd, K0⟩
        | with_reducible exact ⟨(hk.next K hk.lt).cell, K⟩)
      ((first | (go_at_call 184; go_split_ands; with_reducible refine (hRun _).mono ?_; rintro e w10 ⟨rfl, hb⟩; have K := belowStep hb (w0 := w) (by assumption))))
    all_goals go_split_ands
    all_goals
      go_wp2_with fail
      go_meet
      exact ⟨rfl, H'.out.next (by assumption), Below.mono (B := w.heap.size) (by assumption) H'.out.base⟩
  case rest =>
  obtain ⟨rfl, H1, B1⟩ := hcut
  obtain ⟨w1, rfl⟩ : ∃ x : World, x = wc := ⟨_, rfl⟩
  clear h
  obtain ⟨nm, hnm⟩ : ∃ x, x = (s.drop i).take n := ⟨_, rfl⟩
  have hnl : nm.length ≤ 1000000000 := by rw [hnm]; simp; omega
  have HNM := Lib.hid hnm
  go_upto_region 1 with fail
  go_cut [3] (fun t wx => t = .string ⟨(lowS nm).toArray⟩ ∧ Sc B b s i out wx ∧ Below B w wx)
  case first =>
    have H' := Lib.hid H1
    obtain ⟨v, hk, _, _⟩ := H1
    have kcd := (Blk.drew hk).cell
    have hSm := fun W => small_any nm W (by omega)
    subst hnm
    have K0 := (Below.refl w1.heap.size w1).drew
    have z2 : IntKind.i64.wrap ((i : Int) + (n : Int)) = (i : Int) + (n : Int) := IntWalk.i64_in _ (by omega)
    have z3 : ((i : Int) + (n : Int)).toNat = i + n := by omega
    have z4 : (0 : Int) ≤ i := by omega
    have z5 : (i : Int) ≤ (i : Int) + (n : Int) := by omega
    have z6 : (i : Int) + (n : Int) ≤ (s.length : Int) := by omega
    have z7 : i + n - i = n := by omega
    go_region_held3 (fun W => (∀ k, W.cell? ⟨b, k, none⟩ = (#[.string ⟨s.toArray⟩, .int .i64 (i : Int), v])[k]?) ∧ Below w1.heap.size w1 W)
      (first
        | with_reducible exact ⟨kcd, K0⟩
        | with_reducible exact ⟨(hk.next K hk.lt).cell, K⟩)
      ((first | (go_at_call 42; go_split_ands; with_reducible refine (hSm _).mono ?_; rintro e w10 ⟨rfl, hb⟩; have K := belowStep hb (w0 := w1) (by assumption))))
    all_goals go_split_ands
    all_goals
      go_wp2_with fail
      go_meet
      exact ⟨rfl, H'.out.next (by assumption), B1.trans (Below.mono (B := w1.heap.size) (by assumption) H'.out.base)⟩
  case rest =>
  obtain ⟨rfl, H2, B2⟩ := hcut
  obtain ⟨w2, rfl⟩ : ∃ x : World, x = wc := ⟨_, rfl⟩
  clear H1 B1 hnm
  go_upto_region 2 with fail
  go_cut [] (fun wx => Sc B b s (i + n) out wx ∧ Below B w wx)
  case first =>
    have H' := Lib.hid H2
    obtain ⟨v, hk, _, _⟩ := H2
    have kc := hk.cell
    have kf := hk.free
    have HV := Lib.hid (show (i : Int) + (n : Int) = ((i + n : Nat) : Int) from by omega)
    have z2 : IntKind.i64.wrap ((i : Int) + (n : Int)) = (i : Int) + (n : Int) := IntWalk.i64_in _ (by omega)
    go_wp2_with fail
    go_meet
    exact ⟨by rw [HV.out]; exact H'.out.at (i + n), B2.setCell hBb _⟩
  case rest =>
  obtain ⟨H3, B3⟩ := hcut
  obtain ⟨w3, rfl⟩ : ∃ x : World, x = wc := ⟨_, rfl⟩
  clear H2 B2
  have hinl : i + n ≤ s.length := by omega
  have hoi : out.length ≤ i + n := by omega
  generalize i + n = i1 at H3 HT hinl hoi
  go_wp2_with fail
  go_loopg [] s.length (fun g wr => ∃ (j : Nat) (L : List Lnk), s.length - j ≤ g ∧ j ≤ s.length ∧ (out ++ L).length ≤ j ∧ Sc B b s j (out ++ L) wr ∧ Hid (attrsT s i1 = ((attrsT s j).1, L ++ (attrsT s j).2)) ∧ Below B w wr)
  case atStart => exact ⟨i1, [], by omega, hinl, by simp; omega, by rw [List.append_nil]; exact H3, Lib.hid rfl, B3⟩
  case round =>
    obtain ⟨j, L, hm, hj, hoj, HS, HA, BS⟩ := hrel
    clear H3 B3
    have hC := attr_any B b s j (out ++ L) wr (hg.below hgB BS) hgB HS hj hs (by omega)
    have hl := attrN_lies hj
    go_wp2_with fail
    refine hC.mono ?_
    rintro e w4 ⟨rfl, H4, b4⟩
    clear hC
    have B4 := BS.trans b4
    clear BS HS b4
    cases hb : (attrN s j).1 with
    | true =>
      have hlt := hl.2.2.2 hb
      have hgo := attrsT_go hj hb
      have hle := hl.2.1
      have h1 := hl.2.2.1
      have HA2 := Lib.hid (show attrsT s i1 = ((attrsT s (attrN s j).2.1).1, (L ++ (attrN s j).2.2) ++ (attrsT s (attrN s j).2.1).2) from by rw [HA.out, hgo, List.append_assoc])
      clear hgo HA hl hb
      rw [List.append_assoc] at H4
      generalize attrN s j = r at *
      go_wp2_with fail
      go_roundg (s.length - r.2.1)
      case measure => omega
      case rel => exact ⟨r.2.1, L ++ r.2.2, Nat.le_refl _, hle, by rw [← List.append_assoc, List.length_append]; omega, H4, HA2, B4⟩
    | false =>
      have hen := attrsT_end hb
      have HA2 := Lib.hid (show attrsT s i1 = ((attrN s j).2.1, L ++ (attrN s j).2.2) from by rw [HA.out, hen])
      have hle := hl.2.1
      clear hen HA hl hb
      rw [List.append_assoc] at H4
      generalize attrN s j = r at *
      obtain ⟨_, J, l⟩ := r
      simp only at H4 HA2 hle
      generalize L ++ l = M at H4 HA2
      rw [HA2.out] at HT
      clear HA2 hoj hm hj
      rw [← HNM.out] at HT
      go_wp2_with fail
      refine (raws_any _).mono ?_
      rintro e w5 ⟨rfl, b5⟩
      have H6 := (H4.next b5).next ((Below.refl w5.heap.size w5).alloc (Nat.le_refl _) (.cells #[.string ⟨#[115, 99, 114, 105, 112, 116]⟩, .string ⟨#[115, 116, 121, 108, 101]⟩, .string ⟨#[116, 101, 120, 116, 97, 114, 101, 97]⟩, .string ⟨#[116, 105, 116, 108, 101]⟩] 246))
      have B6 := (B4.trans (b5.mono H4.base)).alloc (Nat.le_trans H4.base b5.size) (.cells #[.string ⟨#[115, 99, 114, 105, 112, 116]⟩, .string ⟨#[115, 116, 121, 108, 101]⟩, .string ⟨#[116, 101, 120, 116, 97, 114, 101, 97]⟩, .string ⟨#[116, 105, 116, 108, 101]⟩] 246)
      have hCL := containsL w5.heap.size 4 4 rawsT (lowS nm) (w5.alloc (.cells #[.string ⟨#[115, 99, 114, 105, 112, 116]⟩, .string ⟨#[115, 116, 121, 108, 101]⟩, .string ⟨#[116, 101, 120, 116, 97, 114, 101, 97]⟩, .string ⟨#[116, 105, 116, 108, 101]⟩] 246)) rfl (fun k hk => by
        rw [(Blk.new w5 _ _).cell]
        match k, hk with
        | 0, _ => rfl
        | 1, _ => rfl
        | 2, _ => rfl
        | 3, _ => rfl) (by decide)
      clear b5 H4 B4
      go_wp2_with fail
      refine hCL.mono ?_
      rintro e w' ⟨rfl, rfl⟩
      clear hCL
      generalize (w5.alloc (.cells #[.string ⟨#[115, 99, 114, 105, 112, 116]⟩, .string ⟨#[115, 116, 121, 108, 101]⟩, .string ⟨#[116, 101, 120, 116, 97, 114, 101, 97]⟩, .string ⟨#[116, 105, 116, 108, 101]⟩] 246)) = w6 at H6 B6 ⊢
      generalize rawsT.contains (lowS nm) = isR at HT ⊢
      cases isR with
      | false =>
        have HT2 := Lib.hid (show tagN s i = (J, M) from by rw [HT.out]; rfl)
        clear HT
        go_wp2_with fail
        go_end0
        exact ⟨rfl, by rw [HT2.out]; exact H6, B6⟩
      | true =>
        obtain ⟨kz, hkz⟩ : ∃ x, x = Lib.index (lowS (s.drop J)) ([60, 47] ++ lowS nm) := ⟨_, rfl⟩
        have HT2 := Lib.hid (show tagN s i = (if kz < 0 then s.length else J + kz.toNat, M) from by rw [HT.out, hkz]; rfl)
        have hk2 : kz < 0 ∨ (0 ≤ kz ∧ kz.toNat + J ≤ s.length) := by
          have := index_le (lowS (s.drop J)) ([60, 47] ++ lowS nm)
          rw [← hkz] at this
          simp [lowS] at this
          omega
        have HKZ := Lib.hid hkz
        clear HT hkz
        have hlnl : (lowS nm).length ≤ 1000000000 := by simp [lowS]; omega
        generalize lowS nm = ln at HKZ hlnl ⊢
        have hg6 := hg.below hgB B6
        have hsz6 := H6.base
        go_upto_region 6 with fail
        go_cut [5] (fun t wx => t = .int .i64 kz ∧ Sc B b s J (out ++ M) wx ∧ Below B w wx)
        case first =>
          have H' := Lib.hid H6
          obtain ⟨v, hk, _, _⟩ := H6
          have kcd := (Blk.drew hk).cell
          have hSm := fun W => small_any (s.drop J) W (by simp; omega)
          have hIx := fun W (h : Gr W) => idxStr' (lowS (s.drop J)) (60 :: 47 :: ln) W (by simp [lowS]; omega) h.g
          have hkz : kz = Lib.index (lowS (s.drop J)) (60 :: 47 :: ln) := HKZ.out
          rw [← hkz] at hIx
          clear hkz HKZ HT2
          have g1 : ¬ 9223372036854775807 < ln.length + 2 := by omega
          have g2 : ¬ 9223372036854775807 < ln.length + 1 + 1 := by omega
          have g3 : ¬ 9223372036854775807 < 2 + ln.length := by omega
          have K0 := (Below.refl w6.heap.size w6).drew
          have i1 : (J : Int) ≤ s.length := by omega
          have i2 : (0 : Int) ≤ J := by omega
          go_region_held3 (fun W => (∀ k, W.cell? ⟨b, k, none⟩ = (#[.string ⟨s.toArray⟩, .int .i64 (J : Int), v])[k]?) ∧ Below w6.heap.size w6 W)
            (first
              | with_reducible exact ⟨kcd, K0⟩
              | with_reducible exact ⟨(hk.next K hk.lt).cell, K⟩
              | with_reducible assumption)
            ((first
              | (go_at_call 42; go_split_ands; with_reducible refine (hSm _).mono ?_; rintro e w10 ⟨rfl, hb⟩; have K := belowStep hb (w0 := w6) (by assumption))
              | (go_at_call 66; go_split_ands; with_reducible refine (hIx _ (hg6.next (by assumption))).mono ?_; rintro e w10 ⟨rfl, hw⟩; obtain rfl := hw.symm)))
          all_goals go_split_ands
          all_goals
            go_wp2_with fail
            go_meet
            exact ⟨rfl, H'.out.next (by assumption), B6.trans (Below.mono (B := w6.heap.size) (by assumption) H'.out.base)⟩
        case rest =>
        obtain ⟨rfl, H7, B7⟩ := hcut
        obtain ⟨w7, rfl⟩ : ∃ x : World, x = wc := ⟨_, rfl⟩
        clear H6 B6 hg6 HKZ
        by_cases hz : kz < 0
        · have HT3 := Lib.hid (show tagN s i = (s.length, M) from by rw [HT2.out, if_pos hz])
          clear HT2
          have H' := Lib.hid H7
          obtain ⟨v, hk, _, _⟩ := H7
          have kc := hk.cell
          go_wp2_with fail
          go_quiet (fail)
          have hB := Go.below_drewN (Below.refl w7.heap.size w7) nq
          have hk8 := hk.next hB hk.lt
          have H8 := Lib.hid (H'.out.next hB)
          have B8 := B7.trans (hB.mono H'.out.base)
          generalize w7.drewN nq = w8 at hB hk8 H8 B8 ⊢
          clear kc hk hB
          have kc := hk8.cell
          have kf := hk8.free
          have HV := Lib.hid (show (J : Int) + ((s.length : Int) - (J : Int)) = ((s.length : Nat) : Int) from by omega)
          go_wp2_with fail
          go_end0
          exact ⟨rfl, by rw [HT3.out]; first | (rw [HV.out]; exact H8.out.at s.length) | exact H8.out.at s.length, B8.setCell hBb _⟩
        · obtain ⟨n2, rfl⟩ : ∃ n2 : Nat, kz = (n2 : Int) := ⟨kz.toNat, by omega⟩
          have HT3 := Lib.hid (show tagN s i = (J + n2, M) from by rw [HT2.out, if_neg hz]; rfl)
          have hn2 : n2 + J ≤ s.length := by omega
          clear HT2 hk2 hz
          have H' := Lib.hid H7
          obtain ⟨v, hk, _, _⟩ := H7
          have kc := hk.cell
          have kf := hk.free
          have HV := Lib.hid (show (J : Int) + (n2 : Int) = ((J + n2 : Nat) : Int) from by omega)
          go_wp2_with fail
          go_end0
          exact ⟨rfl, by rw [HT3.out, HV.out]; exact H'.out.at (J + n2), B7.setCell hBb _⟩
theorem linkN_com {s : Bs} {a : Nat} {c : UInt8} (h : Lib.hasPrefix (s.drop a) [33, 45, 45] = true) : linkN s a c = (skipN s [45, 45, 62] (a + 3), []) := by
  unfold linkN; rw [if_pos h]
theorem linkN_end {s : Bs} {a : Nat} {c : UInt8} (h : Lib.hasPrefix (s.drop a) [33, 45, 45] = false) (h2 : c = 47 ∨ c = 33 ∨ c = 63) : linkN s a c = (skipN s [62] a, []) := by
  unfold linkN; rw [h, if_neg (by decide), if_pos h2]
theorem linkN_tag {s : Bs} {a : Nat} {c : UInt8} (h : Lib.hasPrefix (s.drop a) [33, 45, 45] = false) (h2 : ¬ (c = 47 ∨ c = 33 ∨ c = 63)) (h3 : (alnum.take 52).contains c = true) : linkN s a c = tagN s a := by
  unfold linkN; rw [h, if_neg (by decide), if_neg h2, if_pos h3]
theorem linkN_no {s : Bs} {a : Nat} {c : UInt8} (h : Lib.hasPrefix (s.drop a) [33, 45, 45] = false) (h2 : ¬ (c = 47 ∨ c = 33 ∨ c = 63)) (h3 : (alnum.take 52).contains c = false) : linkN s a c = (a, []) := by
  unfold linkN; rw [h, if_neg (by decide), if_neg h2, h3]; rfl
def endB (c : UInt8) : Bool := c == 47 || c == 33 || c == 63
theorem endB_iff (c : UInt8) : endB c = true ↔ (c = 47 ∨ c = 33 ∨ c = 63) := by simp [endB, or_assoc]
theorem endB_int (c : UInt8) : endB c = ((((c.toNat : Int) == 47) || ((c.toNat : Int) == 33)) || ((c.toNat : Int) == 63)) := by
  have h : ∀ d : UInt8, (c == d) = ((c.toNat : Int) == (d.toNat : Int)) := fun d => by
    by_cases e : c = d
    · subst e; simp
    · rw [beq_eq_false_iff_ne.2 e, u8_ne e]
  unfold endB
  rw [h 47, h 33, h 63]; rfl
theorem idxB_ge (l : Bs) (c : UInt8) : decide (0 ≤ Lib.indexByte l c) = l.contains c := by
  have hge := Lib.indexByte_ge l c
  by_cases h : 0 ≤ Lib.indexByte l c
  · obtain ⟨o, ho⟩ : ∃ o : Nat, Lib.indexByte l c = o := ⟨(Lib.indexByte l c).toNat, by omega⟩
    rw [decide_eq_true h]
    exact (List.contains_iff_mem.2 (List.mem_of_getElem? (Lib.indexByte_some ho).1)).symm
  · rw [decide_eq_false h]
    refine (Bool.eq_false_iff.2 fun hc => ?_).symm
    obtain ⟨k, hk⟩ := List.getElem?_of_mem (List.contains_iff_mem.1 hc)
    exact Lib.indexByte_none (by omega) k hk
set_option maxHeartbeats 8000000 in
set_option maxRecDepth 100000 in
theorem links_any (s : Bs) (w : World) (hg : Gr w) (hs : s.length ≤ 1000000000) :
    Calls Tryz.prog 43 #[.string ⟨s.toArray⟩] w fun e w' => ∃ v, e = .returned v ∧ OwnL w' w.heap.size v (linksT s) ∧ Below w.heap.size w w' := by
  have hgB := hg.size
  have H0 : Sc w.heap.size w.heap.size s 0 [] (w.alloc (.cells #[.string ⟨s.toArray⟩, .int .i64 0, .slice none 0 0] 165)) := ⟨.slice none 0 0, Blk.new w _ _, OwnG.nil _ _ _ _ _, Nat.le_refl _⟩
  have B0 : Below w.heap.size w (w.alloc (.cells #[.string ⟨s.toArray⟩, .int .i64 0, .slice none 0 0] 165)) := (Below.refl _ _).alloc (Nat.le_refl _) _
  have HL := Lib.hid (show linksT s = linksA s 0 from rfl)
  go_enter Tryz.func43, Tryz.ntmps43
  go_wp2_with fail
  generalize (w.alloc (.cells #[.string ⟨s.toArray⟩, .int .i64 0, .slice none 0 0] 165)) = w0 at H0 B0 ⊢
  go_loopg [] s.length (fun g wr => ∃ (j : Nat) (L : List Lnk), s.length - j ≤ g ∧ j ≤ s.length ∧ L.length ≤ j ∧ Sc w.heap.size w.heap.size s j L wr ∧ Hid (linksT s = L ++ linksA s j) ∧ Below w.heap.size w wr)
  case atStart => exact ⟨0, [], by omega, Nat.zero_le _, Nat.le_refl _, H0, HL, B0⟩
  case round =>
    obtain ⟨j, L, hm, hj, hoj, HS, HA, BS⟩ := hrel
    clear H0 B0 HL
    obtain ⟨a, ha⟩ : ∃ a, a = skipN s [60] j := ⟨_, rfl⟩
    have hsk := skipN_le s [60] j hj
    have hC := skips_any w.heap.size w.heap.size s [60] j L wr (hg.below hgB BS) HS hj hs (by decide)
    rw [← ha] at hsk hC
    have HAA := Lib.hid ha
    clear ha
    go_wp2_with fail
    with_reducible refine hC.mono ?_
    rintro e w1 ⟨rfl, H1, b1⟩
    have B1 := BS.trans b1
    clear hC b1 HS BS
    go_upto_region 3 with fail
    go_cut [4] (fun t wx => t = .string ⟨(s.drop a).toArray⟩ ∧ Sc w.heap.size w.heap.size s a L wx ∧ Below w.heap.size w wx)
    case first =>
      have H' := Lib.hid H1
      obtain ⟨v, hk, _, _⟩ := H1
      have kc := hk.cell
      have i1 : (a : Int) ≤ s.length := by omega
      have i2 : (0 : Int) ≤ a := by omega
      go_wp2_with fail
      go_quiet (fail)
      have hB := Go.below_drewN (Below.refl w1.heap.size w1) nq
      generalize w1.drewN nq = w2 at hB ⊢
      clear kc
      go_wp2_with fail
      go_meet
      exact ⟨rfl, H'.out.next hB, B1.trans (hB.mono H'.out.base)⟩
    case rest =>
    obtain ⟨rfl, H2, B2⟩ := hcut
    obtain ⟨w2, rfl⟩ : ∃ x : World, x = wc := ⟨_, rfl⟩
    clear H1 B1
    cases hd : s.drop a with
    | nil =>
      have HE := Lib.hid (show linksT s = L from by rw [HA.out, linksA_end (by rw [← HAA.out]; exact hd), List.append_nil])
      obtain ⟨v, hk, hown, _⟩ := H2
      have kc := hk.cell
      go_wp2_with fail
      go_ret
      exact ⟨v, rfl, by rw [HE.out]; exact hown, B2⟩
    | cons c l =>
      have hlen : a + (l.length + 1) = s.length := by
        have := congrArg List.length hd
        rw [List.length_drop, List.length_cons] at this; omega
      have hlt := skipN_lt s [60] j (by omega) (by simp)
      have hgo := linksA_go hj (by rw [← HAA.out]; exact hd)
      rw [← HAA.out] at hlt hgo
      have hl := linkN_lies hd
      have HA2 := Lib.hid (show linksT s = (L ++ (linkN s a c).2) ++ linksA s (linkN s a c).1 from by rw [HA.out, hgo, List.append_assoc])
      clear hgo HA HAA
      have hlle := hl.1.le
      have hcom : Lib.hasPrefix (c :: l) [33, 45, 45] = Lib.hasPrefix (s.drop a) [33, 45, 45] := by rw [hd]
      have hc256 : (c.toNat : Int) < 256 := by have := c.toNat_lt; omega
      clear hd
      go_wp2_with fail
      refine (hasPre (c :: l) [33, 45, 45] _).mono ?_
      rintro e w' ⟨rfl, rfl⟩
      rw [hcom]
      cases hcm : Lib.hasPrefix (s.drop a) [33, 45, 45] with
      | true =>
        have hN := linkN_com (c := c) hcm
        rw [hN] at hl hlle HA2
        simp only [List.append_nil] at HA2
        have ha3 : a + 3 ≤ s.length := by
          have := (List.isPrefixOf_iff_prefix.1 (by unfold Lib.hasPrefix at hcm; exact hcm)).length_le
          rw [List.length_drop] at this; simp at this; omega
        clear hcm hcom hN
        have H3 : Sc w.heap.size w.heap.size s (a + 3) L (w2.setCell ⟨w.heap.size, 1, none⟩ (.int .i64 ((a : Int) + 3))) := H2.at (a + 3)
        have B3 := B2.setCell (Nat.le_refl _) (p := ⟨w.heap.size, 1, none⟩) (.int .i64 ((a : Int) + 3))
        have hC2 := skips_any w.heap.size w.heap.size s [45, 45, 62] (a + 3) L _ (hg.below hgB B3) H3 ha3 hs (by decide)
        obtain ⟨v, hk, _, _⟩ := H2
        have kc := hk.cell
        have kf := hk.free
        go_wp2_with fail
        with_reducible refine hC2.mono ?_
        rintro e w4 ⟨rfl, H4, b4⟩
        have B4 := B3.trans b4
        clear hC2 H3 B3 b4 kc kf hk B2
        go_wp2_with fail
        go_roundg (s.length - skipN s [45, 45, 62] (a + 3))
        case measure => omega
        case rel => exact ⟨skipN s [45, 45, 62] (a + 3), L, Nat.le_refl _, hl.2.1, by omega, H4, HA2, B4⟩
      | false =>
        clear hcom
        have HEI := Lib.hid (endB_int c)
        go_upto_region 9 with fail
        go_cut [38] (fun t wx => t = .bool (endB c) ∧ wx = w2)
        case first =>
          by_cases h1 : ((c.toNat : Int) == 47) = true
          · go_wp2_with fail
            go_meet
            exact ⟨by rw [HEI.out, h1]; rfl, rfl⟩
          have h1 := Bool.eq_false_iff.2 h1
          by_cases h2 : ((c.toNat : Int) == 33) = true
          · go_wp2_with fail
            go_meet
            exact ⟨by rw [HEI.out, h1, h2]; rfl, rfl⟩
          have h2 := Bool.eq_false_iff.2 h2
          by_cases h3 : ((c.toNat : Int) == 63) = true
          · go_wp2_with fail
            go_meet
            exact ⟨by rw [HEI.out, h1, h2, h3]; rfl, rfl⟩
          have h3 := Bool.eq_false_iff.2 h3
          go_wp2_with fail
          go_meet
          exact ⟨by rw [HEI.out, h1, h2, h3]; rfl, rfl⟩
        case rest =>
        obtain ⟨rfl, hww⟩ := hcut
        obtain rfl := hww.symm
        clear HEI
        have HEB := Lib.hid (endB_iff c)
        cases heb : endB c with
        | true =>
          have hN := linkN_end hcm (HEB.out.1 heb)
          rw [hN] at hl hlle HA2
          simp only [List.append_nil] at HA2
          clear hcm hN heb HEB
          have hC2 := skips_any w.heap.size w.heap.size s [62] a L _ (hg.below hgB B2) H2 (by omega) hs (by decide)
          go_wp2_with fail
          with_reducible refine hC2.mono ?_
          rintro e w4 ⟨rfl, H4, b4⟩
          have B4 := B2.trans b4
          clear hC2 H2 B2 b4
          go_wp2_with fail
          go_roundg (s.length - skipN s [62] a)
          case measure => omega
          case rel => exact ⟨skipN s [62] a, L, Nat.le_refl _, hl.2.1, by omega, H4, HA2, B4⟩
        | false =>
          have hne : ¬ (c = 47 ∨ c = 33 ∨ c = 63) := fun h => by rw [HEB.out.2 h] at heb; cases heb
          clear heb HEB
          go_upto_region 11 with fail
          go_cut [54] (fun t wx => t = .bool ((alnum.take 52).contains c) ∧ Below w2.heap.size w2 wx)
          case first =>
            have HIB := Lib.hid (idxB_ge (alnum.take 52) c)
            go_wp2_with fail
            go_quiet ((go_at_call 100; exact Calls.quiet_of_same (idxByte0 [65, 66, 67, 68, 69, 70, 71, 72, 73, 74, 75, 76, 77, 78, 79, 80, 81, 82, 83, 84, 85, 86, 87, 88, 89, 90, 97, 98, 99, 100, 101, 102, 103, 104, 105, 106, 107, 108, 109, 110, 111, 112, 113, 114, 115, 116, 117, 118, 119, 120, 121, 122] (c.toNat : Int) c (u8_nat c) _)))
            go_wp2_with fail
            go_meet
            exact ⟨by rw [← HIB.out]; rfl, Go.below_drewN (Below.refl _ _) _⟩
          case rest =>
          obtain ⟨rfl, b3⟩ := hcut
          obtain ⟨w3, rfl⟩ : ∃ x : World, x = wc := ⟨_, rfl⟩
          have H3 := H2.next b3
          have B3 := B2.trans (b3.mono H2.base)
          clear H2 B2 b3
          cases hct : (alnum.take 52).contains c with
          | true =>
            have hN := linkN_tag hcm hne hct
            rw [hN] at hl hlle HA2
            clear hcm hne hct hN
            have hC2 := tag_any w.heap.size w.heap.size s a L _ (hg.below hgB B3) hgB H3 (by omega) hs (by omega)
            go_wp2_with fail
            with_reducible refine hC2.mono ?_
            rintro e w4 ⟨rfl, H4, b4⟩
            have B4 := B3.trans b4
            clear hC2 H3 B3 b4
            go_wp2_with fail
            go_roundg (s.length - (tagN s a).1)
            case measure => omega
            case rel => exact ⟨(tagN s a).1, L ++ (tagN s a).2, Nat.le_refl _, hl.2.1, by have := hl.2.2; rw [List.length_append]; omega, H4, HA2, B4⟩
          | false =>
            have hN := linkN_no hcm hne hct
            rw [hN] at hl hlle HA2
            simp only [List.append_nil] at HA2
            clear hcm hne hct hN
            go_wp2_with fail
            go_roundg (s.length - a)
            case measure => omega
            case rel => exact ⟨a, L, Nat.le_refl _, hl.2.1, by omega, H3, HA2, B3⟩
theorem escT_len (s : Bs) : (escT s).length ≤ 6 * s.length := by
  unfold escT
  induction s with
  | nil => exact Nat.le_refl _
  | cons c s ih =>
    rw [rep_cons, List.length_append, List.length_cons]
    have h : ((look sigP c).getD [c]).length ≤ 6 := by
      unfold look
      cases hf : sigP.find? fun p => p.1 == c with
      | none => simp
      | some p =>
        have hm := List.mem_of_find?_eq_some hf
        simp only [Option.map_some, Option.getD_some]
        simp [sigP] at hm
        rcases hm with rfl | rfl | rfl | rfl | rfl <;> decide
    omega
def quoT (c : UInt8) (v : Bs) : Bs := if quoB c then escT v else 34 :: (escT v ++ [34])
theorem quoT_len (c : UInt8) (v : Bs) : (quoT c v).length ≤ 6 * v.length + 2 := by
  have := escT_len v
  unfold quoT
  split <;> simp <;> omega
def befB (s : Bs) (x : Lnk) : UInt8 := s.getD (x.1 - 1) 0
def replF (s : Bs) : List (Lnk × Bs) → Nat → Bs
  | [], i => s.drop i
  | x :: l, i => (s.drop i).take (x.1.1 - i) ++ (quoT (befB s x.1) x.2 ++ replF s l (x.1.1 + x.1.2.1))
def replK (s : Bs) (vals : List Bs) : Option Bs := if (linksT s).length = vals.length then some (replF s ((linksT s).zip vals) 0) else none
theorem Lies.pos : ∀ {l : List Lnk} {i j : Nat}, 1 ≤ i → Lies i l j → ∀ x ∈ l, 1 ≤ x.1
  | [], _, _, _, _, x, hx => by cases hx
  | y :: l, i, j, hi, h, x, hx => by
    rcases List.mem_cons.1 hx with rfl | hx
    · have := h.1; omega
    · exact Lies.pos (l := l) (by have := h.1; omega) h.2 x hx
theorem linksT_pos (s : Bs) : ∀ x ∈ linksT s, 1 ≤ x.1 := by
  show ∀ x ∈ linksA s 0, 1 ≤ x.1
  cases hd : s.drop (skipN s [60] 0) with
  | nil => rw [linksA_end hd]; intro x hx; cases hx
  | cons c l =>
    have hlen : skipN s [60] 0 + (l.length + 1) = s.length := by
      have := congrArg List.length hd
      rw [List.length_drop, List.length_cons] at this; omega
    have hlt := skipN_lt s [60] 0 (by omega) (by simp)
    have hl := linkN_lies hd
    have h0 := hl.1.le
    rw [linksA_go (Nat.zero_le _) hd]
    exact Lies.pos hlt (hl.1.append (linksA_lies _ _ (Nat.le_refl _) hl.2.1).1)
theorem replF_at (s : Bs) (l : List (Lnk × Bs)) (k i : Nat) (hk : k < l.length) : replF s (l.drop k) i = (s.drop i).take ((l[k]).1.1 - i) ++ (quoT (befB s (l[k]).1) (l[k]).2 ++ replF s (l.drop (k + 1)) ((l[k]).1.1 + (l[k]).1.2.1)) := by
  rw [List.drop_eq_getElem_cons hk]; rfl
def alphaL : Bs := [65, 66, 67, 68, 69, 70, 71, 72, 73, 74, 75, 76, 77, 78, 79, 80, 81, 82, 83, 84, 85, 86, 87, 88, 89, 90, 97, 98, 99, 100, 101, 102, 103, 104, 105, 106, 107, 108, 109, 110, 111, 112, 113, 114, 115, 116, 117, 118, 119, 120, 121, 122]
def schemeL : Bs := alphaL ++ [48, 49, 50, 51, 52, 53, 54, 55, 56, 57, 43, 45, 46]
def schemeB : Bs → Bool
  | [] => false
  | c :: l => alphaL.contains c && (c :: l).all (schemeL.contains ·)
theorem idx_contains (l : Bs) (c : UInt8) : (0 ≤ Lib.indexByte l c) ↔ l.contains c = true := by
  rw [indexByte_cutP]
  cases h : cutP [c] l with
  | none => rw [cutC_none] at h; simp [h]
  | some x =>
    obtain ⟨a, b⟩ := x
    obtain ⟨e, _⟩ := cutC_some h
    simp [e]
theorem dropWhile_nil {p : UInt8 → Bool} : ∀ {l : Bs}, l.dropWhile p = [] ↔ l.all p = true
  | [] => by simp
  | x :: l => by
    rw [List.dropWhile_cons]
    by_cases h : p x = true
    · simp [h, dropWhile_nil (l := l)]
    · simp [h]
theorem dropWhile_head {p : UInt8 → Bool} : ∀ {l : Bs} {x : UInt8} {t : Bs}, l.dropWhile p = x :: t → p x = false
  | [], _, _, h => by simp at h
  | y :: l, x, t, h => by
    rw [List.dropWhile_cons] at h
    by_cases hy : p y = true
    · rw [if_pos hy] at h; exact dropWhile_head h
    · rw [if_neg hy] at h; injection h with h1 _; rw [← h1]; simpa using hy
theorem trimS_nil_iff (l cs : Bs) : Lib.trimS l cs = [] ↔ l.all (cs.contains ·) = true := by
  unfold Lib.trimS Lib.trimLeftS Lib.trimRightS
  rw [dropWhile_nil]
  constructor
  · intro h
    rw [← List.all_reverse]
    rw [List.all_reverse] at h
    rw [← dropWhile_nil]
    cases hd : List.dropWhile (fun x => cs.contains x) l.reverse with
    | nil => rfl
    | cons x t =>
      rw [hd] at h
      have := dropWhile_head hd
      simp only [List.all_cons, Bool.and_eq_true] at h
      rw [this] at h
      exact absurd h.1 (by simp)
  · intro h
    rw [← List.all_reverse, ← dropWhile_nil] at h
    rw [h]; rfl
theorem isEmpty_trimS (l cs : Bs) : (Lib.trimS l cs).isEmpty = l.all (cs.contains ·) := by
  rw [Bool.eq_iff_iff, List.isEmpty_iff, trimS_nil_iff]
set_option maxHeartbeats 400000 in
set_option maxRecDepth 100000 in
theorem scheme_any (l : Bs) (w : World) (hl : l.length ≤ 140737488355328) :
    Calls Tryz.prog 102 #[.string ⟨l.toArray⟩] w fun e w' => e = .returned (.bool (schemeB l)) ∧ Below w.heap.size w w' := by
  cases l with
  | nil =>
    go_enter Tryz.func102, Tryz.ntmps102
    go_wp2_with fail
    go_ret
    exact ⟨rfl, Below.refl _ _⟩
  | cons c l =>
    have hI := idxByte alphaL (c.toNat : Int) c (by simp) w
    have hT := trimStr (c :: l) schemeL w (by omega) (by decide) (by decide)
    by_cases hc : alphaL.contains c = true
    · have h0 : 0 ≤ Lib.indexByte alphaL c := (idx_contains _ _).2 hc
      go_enter Tryz.func102, Tryz.ntmps102
      go_wp2_with fail
      refine hI.mono ?_
      rintro e w' ⟨rfl, rfl⟩
      go_wp2_with fail
      refine hT.mono ?_
      rintro e w' ⟨rfl, hb⟩
      go_wp2_with fail
      go_ret
      exact ⟨ret_bool (by rw [isEmpty_trimS]; show _ = (alphaL.contains c && _); rw [hc, Bool.true_and]), hb⟩
    · have h0 : Lib.indexByte alphaL c < 0 := by
        rcases Int.lt_or_le (Lib.indexByte alphaL c) 0 with h | h
        · exact h
        · exact absurd ((idx_contains _ _).1 h) hc
      go_enter Tryz.func102, Tryz.ntmps102
      go_wp2_with fail
      refine hI.mono ?_
      rintro e w' ⟨rfl, rfl⟩
      go_wp2_with fail
      go_ret
      exact ⟨ret_bool (by show _ = (alphaL.contains c && _); rw [Bool.eq_false_iff.2 hc, Bool.false_and]), Below.refl _ _⟩
end Go.Proofs.YtignjjnflcpiiaaGreatDoor
namespace Go.Proofs.YtignjjnflcpiiaaGreatDoor
open Go
structure Addr where
  scheme : Bs
  hasAuth : Bool
  auth : Bs
  path : Bs
  hasQuery : Bool
  query : Bs
  hasFrag : Bool
  frag : Bs
  deriving DecidableEq
def Addr.zero : Addr := ⟨[], false, [], [], false, [], false, []⟩
abbrev Addr.cells (a : Addr) : Array Value := #[.string ⟨a.scheme.toArray⟩, .bool a.hasAuth, .string ⟨a.auth.toArray⟩, .string ⟨a.path.toArray⟩, .bool a.hasQuery, .string ⟨a.query.toArray⟩, .bool a.hasFrag, .string ⟨a.frag.toArray⟩]
abbrev zCells : Array Value := #[.string ⟨#[]⟩, .bool false, .string ⟨#[]⟩, .string ⟨#[]⟩, .bool false, .string ⟨#[]⟩, .bool false, .string ⟨#[]⟩]
abbrev Addr.val (a : Addr) : Value := .agg a.cells
def okB (c : UInt8) : Bool := decide (33 ≤ c) && decide (c ≤ 126)
def parseScheme (l : Bs) : Bs × Bs := match cutP [58] l with
  | some (a, b) => if !a.isEmpty && schemeB a then (a, b) else ([], l)
  | none => ([], l)
def hasScheme (l : Bs) : Bool := match cutP [58] l with
  | some (a, _) => !a.isEmpty && schemeB a
  | none => false
def parseAuth (l : Bs) : Bool × Bs × Bs := if Lib.hasPrefix l [47, 47] then (match cutP [47] (l.drop 2) with
  | some (a, b) => (true, a, 47 :: b)
  | none => (true, l.drop 2, [])) else (false, [], l)
def parseA (l : Bs) : Addr :=
  let c1 := Lib.cut l [35]
  let c2 := Lib.cut c1.1 [63]
  let s := parseScheme c2.1
  let u := parseAuth s.2
  ⟨s.1, u.1, u.2.1, u.2.2, c2.2.2, c2.2.1, c1.2.2, c1.2.1⟩
def readA (l : Bs) : Option Addr := if l.all okB then some (parseA l) else none
def writeA (a : Addr) : Bs :=
  (if a.scheme = [] then [] else a.scheme ++ [58]) ++ (if a.hasAuth then [47, 47] ++ a.auth else []) ++ a.path ++ (if a.hasQuery then [63] ++ a.query else []) ++ (if a.hasFrag then [35] ++ a.frag else [])
def HasAt (l : Bs) (c : UInt8) (k : Int) : Prop := (k = -1 ∧ c ∉ l) ∨ ∃ a b, l = a ++ c :: b ∧ c ∉ a ∧ k = a.length
theorem hasAt_index (l : Bs) (c : UInt8) : HasAt l c (Lib.indexByte l c) := by
  rw [indexByte_cutP]
  cases h : cutP [c] l with
  | none => exact Or.inl ⟨rfl, cutC_none.1 h⟩
  | some x =>
    obtain ⟨a, b⟩ := x
    obtain ⟨e, hn⟩ := cutC_some h
    exact Or.inr ⟨a, b, e, hn, rfl⟩
theorem HasAt.le {l : Bs} {c : UInt8} {k : Int} (h : HasAt l c k) (h0 : 0 < k) : k + 1 ≤ l.length := by
  rcases h with ⟨rfl, _⟩ | ⟨a, b, rfl, _, rfl⟩
  · omega
  · simp; omega
theorem HasAt.yes {l : Bs} {k : Int} (h : HasAt l 58 k) (h0 : 0 < k) : hasScheme l = schemeB (l.take k.toNat) := by
  rcases h with ⟨rfl, _⟩ | ⟨a, b, rfl, hn, rfl⟩
  · omega
  · unfold hasScheme
    rw [cutC_mk hn]
    cases a with
    | nil => simp at h0
    | cons x a => simp
theorem HasAt.no {l : Bs} {k : Int} (h : HasAt l 58 k) (h0 : k ≤ 0) : hasScheme l = false := by
  rcases h with ⟨rfl, hn⟩ | ⟨a, b, rfl, hn, rfl⟩
  · unfold hasScheme; rw [cutC_none.2 hn]
  · unfold hasScheme
    rw [cutC_mk hn]
    cases a with
    | nil => rfl
    | cons x a => simp at h0; omega
theorem HasAt.pos {l : Bs} {k : Int} (h : HasAt l 58 k) (hb : hasScheme l = true) : 0 < k := by
  rcases Int.lt_or_le 0 k with h' | h'
  · exact h'
  · rw [h.no h'] at hb; cases hb
theorem HasAt.parse {l : Bs} {k : Int} (h : HasAt l 58 k) (hb : hasScheme l = true) : parseScheme l = (l.take k.toNat, l.drop (k + 1).toNat) := by
  have h0 := h.pos hb
  rcases h with ⟨rfl, hn⟩ | ⟨a, b, rfl, hn, rfl⟩
  · omega
  · unfold hasScheme at hb
    unfold parseScheme
    rw [cutC_mk hn] at hb ⊢
    simp only at hb ⊢
    rw [if_pos hb]
    have : ((a.length : Int) + 1).toNat = a.length + 1 := by omega
    rw [this]
    simp
theorem parseScheme_no {l : Bs} (hb : hasScheme l = false) : parseScheme l = ([], l) := by
  unfold hasScheme at hb
  unfold parseScheme
  cases hc : cutP [58] l with
  | none => rfl
  | some x => rw [hc] at hb; simp only at hb ⊢; rw [if_neg (by rw [hb]; simp)]
theorem HasAt.le' {l : Bs} {c : UInt8} {k : Int} (h : HasAt l c k) (h0 : 0 ≤ k) : k + 1 ≤ l.length := by
  rcases h with ⟨rfl, _⟩ | ⟨a, b, rfl, _, rfl⟩
  · omega
  · simp; omega
def authRest (r : Bs) : Bool × Bs × Bs := match cutP [47] r with
  | some (a, b) => (true, a, 47 :: b)
  | none => (true, r, [])
theorem parseAuth_yes {l : Bs} (h : Lib.hasPrefix l [47, 47] = true) : parseAuth l = authRest (Lib.trimPrefix l [47, 47]) := by
  unfold parseAuth Lib.trimPrefix
  rw [if_pos h, if_pos h]; rfl
theorem parseAuth_no {l : Bs} (h : ¬ Lib.hasPrefix l [47, 47] = true) : parseAuth l = (false, [], l) := by
  unfold parseAuth
  rw [if_neg h]
theorem HasAt.auth_no {l : Bs} {k : Int} (h : HasAt l 47 k) (h0 : k < 0) : authRest l = (true, l, []) := by
  rcases h with ⟨rfl, hn⟩ | ⟨a, b, rfl, hn, rfl⟩
  · unfold authRest; rw [cutC_none.2 hn]
  · omega
theorem HasAt.auth_yes {l : Bs} {k : Int} (h : HasAt l 47 k) (h0 : 0 ≤ k) : authRest l = (true, l.take k.toNat, l.drop k.toNat) := by
  rcases h with ⟨rfl, hn⟩ | ⟨a, b, rfl, hn, rfl⟩
  · omega
  · unfold authRest; rw [cutC_mk hn]; simp
theorem parseA_eq {l s1 f s2 q sch s3 au p : Bs} {hf hq ha : Bool} (h1 : Lib.cut l [35] = (s1, f, hf)) (h2 : Lib.cut s1 [63] = (s2, q, hq)) (h3 : parseScheme s2 = (sch, s3)) (h4 : parseAuth s3 = (ha, au, p)) : parseA l = ⟨sch, ha, au, p, hq, q, hf, f⟩ := by
  simp only [parseA, h1, h2, h3, h4]
theorem okB_no {c : UInt8} (h : ¬ ((33 : Int) ≤ c.toNat ∧ (c.toNat : Int) ≤ 126)) : okB c = false := by
  unfold okB
  rw [Bool.and_eq_false_iff]
  simp only [decide_eq_false_iff_not, UInt8.le_iff_toNat_le]
  simp
  omega
theorem okB_yes {c : UInt8} (h1 : (33 : Int) ≤ c.toNat) (h2 : (c.toNat : Int) ≤ 126) : okB c = true := by
  unfold okB
  rw [Bool.and_eq_true]
  simp only [decide_eq_true_eq, UInt8.le_iff_toNat_le]
  simp
  omega
theorem cut_le2 (l p : Bs) : (Lib.cut l p).1.length ≤ l.length ∧ (Lib.cut l p).2.1.length ≤ l.length := by
  rw [cut_cutP]
  cases h : cutP p l with
  | none => simp
  | some x =>
    obtain ⟨a, b⟩ := x
    have := cutP_some h
    rw [this]
    simp; omega
theorem all_take_succ {l : Bs} {k : Nat} (p : UInt8 → Bool) (h : k < l.length) (h1 : (l.take k).all p = true) (h2 : p l[k] = true) : (l.take (k + 1)).all p = true := by
  rw [List.take_succ_eq_append_getElem h, List.all_append, h1]
  simp [h2]
theorem all_at_false {l : Bs} {k : Nat} (p : UInt8 → Bool) (h : k < l.length) (h2 : p l[k] = false) : l.all p = false := by
  rw [Bool.eq_false_iff]
  intro h'
  have := List.all_eq_true.1 h' l[k] (List.getElem_mem h)
  rw [this] at h2; cases h2
def dotStep (first last : Bool) (out : List Bs) (s : Bs) : List Bs :=
  if s = [46] ∨ (s = [] ∧ first = false ∧ last = false) then (if last then out ++ [[]] else out)
  else if s = [46, 46] then (if last then (if 1 < out.length ∨ (out.length = 1 ∧ out ≠ [[]]) then out.dropLast else out) ++ [[]] else (if 1 < out.length ∨ (out.length = 1 ∧ out ≠ [[]]) then out.dropLast else out))
  else out ++ [s]
def dotsUpto (l : List Bs) : Nat → List Bs
  | 0 => []
  | k + 1 => dotStep (k == 0) (k + 1 == l.length) (dotsUpto l k) (l.getD k [])
def dotsL (l : List Bs) : List Bs := dotsUpto l l.length
def dotsA (p : Bs) : Bs := Lib.join (dotsL (splitC 47 p)) [47]
theorem dotStep_len (f la : Bool) (o : List Bs) (s : Bs) : (dotStep f la o s).length ≤ o.length + 1 := by
  unfold dotStep
  repeat' split
  all_goals simp
  all_goals omega
theorem dotsUpto_len (l : List Bs) (k : Nat) : (dotsUpto l k).length ≤ k := by
  induction k with
  | zero => simp [dotsUpto]
  | succ k ih => have := dotStep_len (k == 0) (k + 1 == l.length) (dotsUpto l k) (l.getD k []); unfold dotsUpto; omega
theorem dotsUpto_succ {l : List Bs} {k : Nat} (h : k < l.length) : dotsUpto l (k + 1) = dotStep (k == 0) (k + 1 == l.length) (dotsUpto l k) l[k] := by
  show dotStep _ _ _ _ = _
  rw [List.getD_eq_getElem?_getD, List.getElem?_eq_getElem h]; rfl
theorem dotStep_dot (f la : Bool) (o : List Bs) : dotStep f la o [46] = if la then o ++ [[]] else o := by simp [dotStep]
theorem dotStep_gap (o : List Bs) : dotStep false false o [] = o := by simp [dotStep]
theorem dotStep_end (f la : Bool) (o : List Bs) (h : f = true ∨ la = true) : dotStep f la o [] = o ++ [[]] := by
  rcases h with h | h <;> simp [dotStep, h]
def upOf (o : List Bs) : List Bs := if 1 < o.length ∨ (o.length = 1 ∧ o ≠ [[]]) then o.dropLast else o
theorem dotStep_up (f la : Bool) (o : List Bs) : dotStep f la o [46, 46] = if la then upOf o ++ [[]] else upOf o := by simp [dotStep, upOf]
theorem upOf_nil : upOf [] = [] := rfl
theorem upOf_one : upOf [[]] = [[]] := rfl
theorem upOf_pop {o : List Bs} {y : Bs} (h : o ≠ [] ∨ y ≠ []) : upOf (o ++ [y]) = o := by
  unfold upOf
  rw [if_pos, List.dropLast_concat]
  cases o with
  | nil => right; simpa using h
  | cons x o => left; simp
theorem dotStep_else (f la : Bool) (o : List Bs) (s : Bs) (h1 : s ≠ [46]) (h2 : s ≠ []) (h3 : s ≠ [46, 46]) : dotStep f la o s = o ++ [s] := by simp [dotStep, h1, h2, h3]
theorem dotStep_lens (f la : Bool) (o : List Bs) (s : Bs) : Lib.lens (dotStep f la o s) ≤ Lib.lens o + s.length := by
  have hd : Lib.lens o.dropLast ≤ Lib.lens o := by rw [List.dropLast_eq_take]; exact Lib.lens_take_le _ _
  have ha : ∀ (x y : List Bs), Lib.lens (x ++ y) = Lib.lens x + Lib.lens y := fun x y => by simp [Lib.lens]
  have h1 : Lib.lens [([] : Bs)] = 0 := rfl
  have h2 : ∀ s : Bs, Lib.lens [s] = s.length := fun s => by simp [Lib.lens]
  unfold dotStep
  repeat' split
  all_goals try simp only [ha, h1, h2]
  all_goals omega
theorem dotsUpto_lens (l : List Bs) (k : Nat) (hk : k ≤ l.length) : Lib.lens (dotsUpto l k) ≤ Lib.lens (l.take k) := by
  induction k with
  | zero => simp [dotsUpto, Lib.lens]
  | succ k ih =>
    have h := dotStep_lens (k == 0) (k + 1 == l.length) (dotsUpto l k) (l[k]'(by omega))
    rw [dotsUpto_succ (by omega), Lib.lens_take_succ l k (l[k]'(by omega)) (List.getElem?_eq_getElem (by omega))]
    have := ih (by omega)
    omega
theorem splitC_lens (c : UInt8) (l : Bs) : Lib.lens (splitC c l) + (splitC c l).length = l.length + 1 := by
  induction l with
  | nil => rfl
  | cons x l ih =>
    unfold splitC
    by_cases h : x = c
    · subst h; simp [Lib.lens] at *; omega
    · simp only [h, if_false]
      split
      · rename_i e; exact absurd e (splitC_ne c l)
      · rename_i hd t e; rw [e] at ih; simp [Lib.lens] at *; omega
theorem dotsA_len (p : Bs) : (dotsA p).length ≤ 2 * p.length + 2 := by
  unfold dotsA dotsL
  have h1 := dotsUpto_lens (splitC 47 p) _ (Nat.le_refl _)
  have h2 := splitC_lens 47 p
  have h3 := dotsUpto_len (splitC 47 p) (splitC 47 p).length
  rw [List.take_length] at h1
  cases h : dotsUpto (splitC 47 p) (splitC 47 p).length with
  | nil => simp [Lib.join_nil]
  | cons x r =>
    rw [h] at h1 h3
    rw [Lib.join_length]
    simp at *
    omega
end Go.Proofs.YtignjjnflcpiiaaGreatDoor
