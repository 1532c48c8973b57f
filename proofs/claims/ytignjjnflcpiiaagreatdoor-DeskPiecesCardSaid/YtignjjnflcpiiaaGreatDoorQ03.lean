/- text.plain, text.digit; text.Quote writes bytes as quoted-printable. Condition: the text takes at most 10^12 bytes; head.name and head.value say whether a text may be a field's name, or what one says. Condition: the text takes at most 10^12 bytes; head.Right and head.Get over fields. Condition: each. -/
import Derived.Outline
import Derived.Test.YtignjjnflcpiiaaGreatDoorQ02
namespace Go.Proofs.YtignjjnflcpiiaaGreatDoor
open Go Go.RowKit
theorem u8_nat' (c : UInt8) : c.toNat.toUInt8 = c := by simp
theorem plainQ_all : ((List.range 256).all fun n => plainQ n.toUInt8 == (decide (33 ≤ (n.toUInt8.toNat : Int)) && decide ((n.toUInt8.toNat : Int) ≤ 126) && !((n.toUInt8.toNat : Int) == 61))) = true := by kernel_rfl
theorem plainQ_int (c : UInt8) : plainQ c = (decide (33 ≤ (c.toNat : Int)) && decide ((c.toNat : Int) ≤ 126) && !((c.toNat : Int) == 61)) := by
  have := List.all_eq_true.1 plainQ_all c.toNat (List.mem_range.2 c.toNat_lt)
  rw [u8_nat'] at this
  exact beq_iff_eq.1 this
set_option maxRecDepth 100000 in
theorem plain_any (c : UInt8) (w : World) :
    Calls Tryz.prog 290 #[.int .u8 c.toNat] w fun e w' => e = .returned (.bool (plainQ c)) ∧ w = w' := by
  have HP := Lib.hid (plainQ_int c)
  have hc : (c.toNat : Int) < 256 := by have := c.toNat_lt; omega
  go_enter Tryz.func290, Tryz.ntmps290
  go_wp2
  all_goals
    go_ret
    exact ⟨ret_bool (by rw [HP.out]; first | (simp [*]; done) | (simp [*, bne]; done) | (simp [*]; omega)), rfl⟩
theorem digit_all : ((List.range 256).all fun n => decide (digitV n.toUInt8 = if (48 ≤ (n.toUInt8.toNat : Int) ∧ (n.toUInt8.toNat : Int) ≤ 57) then (n.toUInt8.toNat : Int) - 48 else if (65 ≤ (n.toUInt8.toNat : Int) ∧ (n.toUInt8.toNat : Int) ≤ 70) then (n.toUInt8.toNat : Int) - 65 + 10 else if (97 ≤ (n.toUInt8.toNat : Int) ∧ (n.toUInt8.toNat : Int) ≤ 102) then (n.toUInt8.toNat : Int) - 97 + 10 else -1)) = true := by kernel_rfl
theorem digit_int (c : UInt8) : digitV c = if (48 ≤ (c.toNat : Int) ∧ (c.toNat : Int) ≤ 57) then (c.toNat : Int) - 48 else if (65 ≤ (c.toNat : Int) ∧ (c.toNat : Int) ≤ 70) then (c.toNat : Int) - 65 + 10 else if (97 ≤ (c.toNat : Int) ∧ (c.toNat : Int) ≤ 102) then (c.toNat : Int) - 97 + 10 else -1 := by
  have := List.all_eq_true.1 digit_all c.toNat (List.mem_range.2 c.toNat_lt)
  rw [u8_nat'] at this
  exact of_decide_eq_true this
set_option maxRecDepth 100000 in
theorem digit_any (c : UInt8) (w : World) :
    Calls Tryz.prog 289 #[.int .u8 c.toNat] w fun e w' => e = .returned (.int .i64 (digitV c)) ∧ w = w' := by
  have HP := Lib.hid (digit_int c)
  have hc : (c.toNat : Int) < 256 := by have := c.toNat_lt; omega
  go_enter Tryz.func289, Tryz.ntmps289
  go_wp2
  all_goals
    go_ret
    exact ⟨ret_int (by rw [HP.out]; first | (simp [*]; done) | (repeat' split <;> omega)), rfl⟩
theorem hexU_get (n : Nat) (h : n < 16) : (⟨#[48, 49, 50, 51, 52, 53, 54, 55, 56, 57, 65, 66, 67, 68, 69, 70]⟩ : ByteArray)[n]'(by exact h) = hexU n := by
  show _ = ([48, 49, 50, 51, 52, 53, 54, 55, 56, 57, 65, 66, 67, 68, 69, 70] : Bs).getD n 0
  rw [List.getD_eq_getElem?_getD, List.getElem?_eq_getElem (show n < ([48, 49, 50, 51, 52, 53, 54, 55, 56, 57, 65, 66, 67, 68, 69, 70] : Bs).length from h)]
  rfl
theorem drop_cons {l : Bs} {k : Nat} (h : k < l.length) : l.drop k = l[k] :: l.drop (k + 1) := List.drop_eq_getElem_cons h
set_option maxHeartbeats 4000000 in
set_option maxRecDepth 100000 in
theorem quote_any (b : Bs) (w : World) (hl : b.length ≤ 1000000000000) :
    Calls Tryz.prog 268 #[.string ⟨b.toArray⟩] w fun e w' => e = .returned (.string ⟨(quoteT b).toArray⟩) ∧ Below w.heap.size w w' := by
  have hT := quoteT_length b
  have b0 := bldNew w
  go_enter Tryz.func268, Tryz.ntmps268
  go_wp2_with fail
  go_loopw [4, 11] (fun n i wr => ∃ (k line : Nat) (out : Bs), i = .int .i64 k ∧ k ≤ b.length ∧ n = .int .i64 line ∧ line ≤ 100 ∧ out ++ quoteL (b.drop k) line = quoteT b ∧ Bld w.heap.size w.heap.size out wr ∧ Below w.heap.size w wr) (fun _ i _ => b.length - (intOf i).toNat)
  case atStart => exact ⟨0, 0, [], rfl, by omega, rfl, by omega, rfl, b0, by go_grown⟩
  case round =>
    obtain ⟨k, line, out, rfl, hk, rfl, hl1, htot, hb, B⟩ := hrel
    have Htot := Lib.hid htot; clear htot
    by_cases hlt : k < b.length
    · have HL := Lib.hid (drop_cons hlt)
      have hlen : out.length + (quoteL (b.drop k) line).length = (quoteT b).length := by rw [← Htot.out]; simp
      have hlb : ((k : Int) + 1 == (b.length : Int)) = (b.drop (k + 1)).isEmpty := by
        by_cases h : k + 1 = b.length
        · rw [show (b.drop (k + 1)) = [] from List.drop_eq_nil_iff.2 (by omega), beq_iff_eq.2 (by omega)]; rfl
        · have h1 : ((k : Int) + 1 == (b.length : Int)) = false := by rw [beq_eq_false_iff_ne]; omega
          rw [h1]; symm; simp; omega
      generalize hr : b.drop (k + 1) = r at hlb HL
      have Hr := Lib.hid hr; clear hr
      have HT2 := Lib.hid (show out ++ quoteL (b[k] :: r) line = quoteT b from by rw [← HL.out]; exact Htot.out)
      have hc : (b[k].toNat : Int) < 256 := by have := b[k].toNat_lt; omega
      rw [HL.out] at hlen
      clear HL Htot
      go_upto_region 7 with fail
      generalize b[k] = c at hc HT2 hlen ⊢
      go_upto_region 8 with fail
      have hb := hb.next (w' := wr.alloc (.cells #[.int .u8 (c.toNat : Int)] 5)) ((Below.refl _ _).alloc (Nat.le_refl _) _)
      have B := B.alloc B.size (.cells #[.int .u8 (c.toNat : Int)] 5)
      generalize hw1 : wr.alloc (.cells #[.int .u8 (c.toNat : Int)] 5) = w1 at hb B ⊢
      clear hw1
      go_cut [37] (fun t wx => t = .bool (escQ c r.isEmpty) ∧ wx = w1)
      case first =>
        clear HT2 hlen Hr hb B
        obtain ⟨last, hla⟩ : ∃ x, r.isEmpty = x := ⟨_, rfl⟩
        rw [hla] at hlb
        have HLa := Lib.hid hla; clear hla
        go_wp2_with fail
        refine (plain_any c _).mono ?_
        rintro e w' ⟨rfl, rfl⟩
        cases hp : plainQ c with
        | true =>
          have HP := Lib.hid (show escQ c last = false from by unfold escQ; rw [hp]; rfl)
          clear hp
          go_wp2_with fail
          go_meet
          exact ⟨by rw [HLa.out, HP.out], rfl⟩
        | false =>
          by_cases h32 : c = 32 ∨ c = 9
          · have HP := Lib.hid (show escQ c last = last from by unfold escQ; rw [hp]; rcases h32 with rfl | rfl <;> cases last <;> rfl)
            clear hp
            rcases h32 with rfl | rfl
            all_goals
              go_wp2_with fail
              go_meet
              exact ⟨by rw [HLa.out, HP.out], rfl⟩
          · have n1 : c ≠ 32 := fun h => h32 (Or.inl h)
            have n2 : c ≠ 9 := fun h => h32 (Or.inr h)
            have HP := Lib.hid (show escQ c last = true from by unfold escQ; rw [hp, bne_iff_ne.2 n1, bne_iff_ne.2 n2]; rfl)
            have t1 : ((c.toNat : Int) != 32) = true := by rw [bne_iff_ne]; intro h; exact n1 (UInt8.toNat_inj.1 (by simp; omega))
            have t2 : ((c.toNat : Int) != 9) = true := by rw [bne_iff_ne]; intro h; exact n2 (UInt8.toNat_inj.1 (by simp; omega))
            clear hp h32 n1 n2
            go_wp2_with fail
            go_meet
            exact ⟨by rw [HLa.out, HP.out], rfl⟩
      case rest =>
      obtain ⟨rfl, rfl⟩ := hcut
      have HPE := Lib.hid (pieceQ_esc c r.isEmpty)
      obtain ⟨w1, rfl⟩ : ∃ w1 : World, w1 = wc := ⟨_, rfl⟩
      go_upto_if 37 with fail
      go_cut [7] (fun s wx => s = .string ⟨(pieceQ c r.isEmpty).toArray⟩ ∧ Bld w.heap.size w.heap.size out wx ∧ Below w.heap.size w wx)
      case first =>
        clear HT2 hlen Hr hlb
        generalize escQ c r.isEmpty = esc at HPE ⊢
        cases esc with
        | false =>
          go_wp2_with fail
          go_meet
          exact ⟨by rw [HPE.out]; rfl, hb, B⟩
        | true =>
          have hn1 : c.toNat / 16 < 16 := by omega
          have hn2 : c.toNat % 16 < 16 := by omega
          have q1 : (c.toNat : Int) / 16 = ((c.toNat / 16 : Nat) : Int) := by omega
          have q2 : bits .and .u8 (c.toNat : Int) 15 = ((c.toNat % 16 : Nat) : Int) := (u8_and15 _ (by omega) hc).trans (by omega)
          have g1 := Lib.hid (hexU_get (c.toNat / 16) hn1)
          have g2 := Lib.hid (hexU_get (c.toNat % 16) hn2)
          have hi1 : ((c.toNat / 16 : Nat) : Int) < 16 := by omega
          have hi2 : ((c.toNat % 16 : Nat) : Int) < 16 := by omega
          generalize c.toNat / 16 = n1 at hn1 q1 g1 HPE hi1
          generalize c.toNat % 16 = n2 at hn2 q2 g2 HPE hi2
          go_wp2_with fail
          go_region
          all_goals
            go_wp2_with fail
            go_meet
            exact ⟨by rw [HPE.out, ← g1.out, ← g2.out]; rfl, hb.next (((Below.refl w1.heap.size w1).alloc (Nat.le_refl _) _).drew), (B.alloc B.size _).drew⟩
      case rest =>
        clear hb B
        obtain ⟨rfl, hb, B⟩ := hcut
        have hpl := pieceQ_length c r.isEmpty
        have HT3 := Lib.hid (show quoteL (c :: r) line = (if line + (pieceQ c r.isEmpty).length > (if r.isEmpty then 76 else 75) then [61, 13, 10] ++ pieceQ c r.isEmpty ++ quoteL r (pieceQ c r.isEmpty).length else pieceQ c r.isEmpty ++ quoteL r (line + (pieceQ c r.isEmpty).length)) from rfl)
        obtain ⟨w1, rfl⟩ : ∃ w1 : World, w1 = wc := ⟨_, rfl⟩
        generalize pieceQ c r.isEmpty = p at hpl HT3 ⊢
        have hroom : ∃ room : Nat, room ≤ 76 ∧ Hid ((if r.isEmpty then 76 else 75) = room) := ⟨if r.isEmpty then 76 else 75, by split <;> omega, Lib.hid rfl⟩
        obtain ⟨room, hroom, HR⟩ := hroom
        rw [HR.out] at HT3
        go_upto_if 51 with fail
        go_cut [8] (fun v wx => v = .int .i64 room ∧ wx = w1)
        case first =>
          clear HT2 hlen Hr HT3 hb B
          generalize r.isEmpty = last at hlb HR ⊢
          cases last with
          | false =>
            have e : room = 75 := HR.out.symm
            subst e
            go_wp2_with fail
            go_meet
            exact ⟨rfl, rfl⟩
          | true =>
            have e : room = 76 := HR.out.symm
            subst e
            go_wp2_with fail
            go_meet
            exact ⟨rfl, rfl⟩
        case rest =>
        obtain ⟨rfl, rfl⟩ := hcut
        obtain ⟨w1, rfl⟩ : ∃ w1 : World, w1 = wc := ⟨_, rfl⟩
        have HK := Lib.hid (show b.drop (k + 1) = r from Hr.out)
        by_cases hgt : room < line + p.length
        · have hE := HT2.out
          rw [HT3.out, if_pos hgt] at hE
          have HE := Lib.hid hE; clear hE HT2 HT3
          have hle : out.length + 3 + p.length ≤ 140737488355328 := by have := congrArg List.length HE.out; simp at this; omega
          have hgt' : (room : Int) < (line : Int) + (p.length : Int) := by omega
          go_wp2_with fail
          refine (wrStr _ _ _ [61, 13, 10] _ hb (by simp; omega) B.size).mono ?_
          rintro e w2 ⟨rfl, hb, hb2⟩
          go_wp2_with fail
          refine (wrStr _ _ _ p _ hb (by simp; omega) (B.trans hb2).size).mono ?_
          rintro e w3 ⟨rfl, hb, hb3⟩
          go_wp2_with fail
          go_roundw
          case rel => exact ⟨k + 1, p.length, _, by go_num, by omega, by go_num, by omega, by rw [HK.out, ← HE.out]; simp, hb, (B.trans hb2).trans hb3⟩
          case measure => simp [intOf]; omega
        · have hE := HT2.out
          rw [HT3.out, if_neg hgt] at hE
          have HE := Lib.hid hE; clear hE HT2 HT3
          have hle : out.length + p.length ≤ 140737488355328 := by have := congrArg List.length HE.out; simp at this; omega
          have hgt' : (line : Int) + (p.length : Int) ≤ (room : Int) := by omega
          go_wp2_with fail
          refine (wrStr _ _ _ p _ hb (by omega) B.size).mono ?_
          rintro e w3 ⟨rfl, hb, hb3⟩
          go_wp2_with fail
          go_roundw
          case rel => exact ⟨k + 1, line + p.length, _, by go_num, by omega, by go_num, by omega, by rw [HK.out, ← HE.out]; simp, hb, B.trans hb3⟩
          case measure => simp [intOf]; omega
    · obtain rfl : k = b.length := by omega
      have hd : quoteT b = out := by rw [← Htot.out]; simp [quoteL]
      have Hd := Lib.hid hd; clear hd
      go_wp2_with fail
      refine (bldStr _ _ _ _ hb B.size).mono ?_
      rintro e w2 ⟨rfl, hb2⟩
      go_wp2_with fail
      go_ret
      exact ⟨ret_str Hd.out.symm, B.trans hb2⟩
theorem nameC_all : ((List.range 256).all fun n => nameC n.toUInt8 == (decide (33 ≤ (n.toUInt8.toNat : Int)) && decide ((n.toUInt8.toNat : Int) ≤ 126) && !((n.toUInt8.toNat : Int) == 58))) = true := by kernel_rfl
theorem nameC_int (c : UInt8) : nameC c = (decide (33 ≤ (c.toNat : Int)) && decide ((c.toNat : Int) ≤ 126) && !((c.toNat : Int) == 58)) := by
  have := List.all_eq_true.1 nameC_all c.toNat (List.mem_range.2 c.toNat_lt)
  rw [u8_nat'] at this
  exact beq_iff_eq.1 this
theorem saysC_all : ((List.range 256).all fun n => saysC n.toUInt8 == ((decide (32 ≤ (n.toUInt8.toNat : Int)) || ((n.toUInt8.toNat : Int) == 9)) && !((n.toUInt8.toNat : Int) == 127))) = true := by kernel_rfl
theorem saysC_int (c : UInt8) : saysC c = ((decide (32 ≤ (c.toNat : Int)) || ((c.toNat : Int) == 9)) && !((c.toNat : Int) == 127)) := by
  have := List.all_eq_true.1 saysC_all c.toNat (List.mem_range.2 c.toNat_lt)
  rw [u8_nat'] at this
  exact beq_iff_eq.1 this
theorem all_drop (p : UInt8 → Bool) {l : Bs} {k : Nat} (h : k < l.length) : (l.drop k).all p = (p l[k] && (l.drop (k + 1)).all p) := by
  rw [drop_cons h, List.all_cons]
set_option maxHeartbeats 4000000 in
set_option maxRecDepth 100000 in
theorem name_any (s : Bs) (w : World) (hl : s.length ≤ 1000000000000) :
    Calls Tryz.prog 249 #[.string ⟨s.toArray⟩] w fun e w' => e = .returned (.bool (nameB s)) ∧ w = w' := by
  go_enter Tryz.func249, Tryz.ntmps249
  go_wp2_with fail
  go_loop [6] (fun i => ∃ k : Nat, i = .int .i64 k ∧ k ≤ s.length ∧ s.all nameC = (s.drop k).all nameC) (fun i => s.length - (intOf i).toNat)
  case atStart => exact ⟨0, rfl, by omega, by simp⟩
  case round =>
    obtain ⟨k, rfl, hk, hall⟩ := hrel
    have Hall := Lib.hid hall; clear hall
    by_cases hlt : k < s.length
    · have HA := Lib.hid (all_drop nameC hlt)
      have HI := Lib.hid (nameC_int s[k])
      have hne := Lib.hid (show s.isEmpty = false from by rw [Bool.eq_false_iff]; intro h; rw [List.isEmpty_iff] at h; subst h; simp at hlt)
      have hc256 : (s[k].toNat : Int) < 256 := by have := s[k].toNat_lt; omega
      go_upto_region 4 with fail
      go_cut [24] (fun t wx => t = .bool (!nameC s[k]) ∧ wx = w)
      case first =>
        go_wp2_with fail
        all_goals
          go_meet
          exact ⟨by rw [HI.out]; first | (simp [*]; done) | (simp [*]; omega), rfl⟩
      case rest =>
        obtain ⟨rfl, rfl⟩ := hcut
        generalize nameC s[k] = b at HA ⊢
        cases b with
        | false =>
          go_wp2_with fail
          go_ret
          exact ⟨ret_bool (by unfold nameB; rw [Hall.out, HA.out]; rfl), rfl⟩
        | true =>
          go_wp2_with fail
          go_round
          case rel => exact ⟨k + 1, by go_num, by omega, by rw [Hall.out, HA.out]; rfl⟩
          case measure => simp [intOf]; omega
    · obtain rfl : k = s.length := by omega
      have H := Lib.hid (show nameB s = !s.isEmpty from by unfold nameB; rw [Hall.out, List.drop_length]; rfl)
      by_cases h0 : s = []
      · subst h0
        go_wp2_with fail
        go_ret
        exact ⟨ret_bool (by rw [H.out]; rfl), rfl⟩
      · have he : s.isEmpty = false := by rw [Bool.eq_false_iff]; simpa using h0
        go_wp2_with fail
        go_ret
        exact ⟨ret_bool (by rw [H.out, he]; rfl), rfl⟩
set_option maxHeartbeats 4000000 in
set_option maxRecDepth 100000 in
theorem value_any (s : Bs) (w : World) (hl : s.length ≤ 1000000000000) :
    Calls Tryz.prog 250 #[.string ⟨s.toArray⟩] w fun e w' => e = .returned (.bool (valueB s)) ∧ Below w.heap.size w w' := by
  go_enter Tryz.func250, Tryz.ntmps250
  go_wp2_with fail
  go_loop [6] (fun i => ∃ k : Nat, i = .int .i64 k ∧ k ≤ s.length ∧ s.all saysC = (s.drop k).all saysC) (fun i => s.length - (intOf i).toNat)
  case atStart => exact ⟨0, rfl, by omega, by simp⟩
  case round =>
    obtain ⟨k, rfl, hk, hall⟩ := hrel
    have Hall := Lib.hid hall; clear hall
    by_cases hlt : k < s.length
    · have HA := Lib.hid (all_drop saysC hlt)
      have HI := Lib.hid (saysC_int s[k])
      have hc256 : (s[k].toNat : Int) < 256 := by have := s[k].toNat_lt; omega
      go_upto_region 4 with fail
      go_cut [24] (fun t wx => t = .bool (!saysC s[k]) ∧ wx = w)
      case first =>
        go_wp2_with fail
        all_goals
          go_meet
          exact ⟨by rw [HI.out]; first | (simp [*]; done) | (simp [*]; omega), rfl⟩
      case rest =>
        obtain ⟨rfl, rfl⟩ := hcut
        generalize saysC s[k] = b at HA ⊢
        cases b with
        | false =>
          go_wp2_with fail
          go_ret
          exact ⟨ret_bool (by unfold valueB; rw [Hall.out, HA.out]; rfl), Below.refl _ _⟩
        | true =>
          go_wp2_with fail
          go_round
          case rel => exact ⟨k + 1, by go_num, by omega, by rw [Hall.out, HA.out]; rfl⟩
          case measure => simp [intOf]; omega
    · obtain rfl : k = s.length := by omega
      have H := Lib.hid (show valueB s = (Lib.trimS s [32, 9] == s) from by unfold valueB; rw [Hall.out, List.drop_length]; rfl)
      go_wp2_with fail
      refine (trimStr s [32, 9] _ (by omega) (by decide) (by decide)).mono ?_
      rintro e w1 ⟨rfl, hb⟩
      go_wp2_with fail
      go_ret
      exact ⟨ret_bool (by rw [H.out]), hb⟩
def FldsOk (l : List Fld) : Prop := l.length ≤ 1000000000000 ∧ ∀ f ∈ l, f.1.length ≤ 1000000000000 ∧ f.2.length ≤ 1000000000000
set_option maxHeartbeats 4000000 in
set_option maxRecDepth 100000 in
theorem right_fields (v : Value) (l : List Fld) (w : World) (hr : RdF w v l) (hok : FldsOk l) :
    Calls Tryz.prog 192 #[v] w fun e w' => e = .returned (.bool (rightF l)) ∧ Below w.heap.size w w' := by
  have hlen := hok.1
  have Hok := Lib.hid hok.2; clear hok
  obtain ⟨a, cap, rfl, hc⟩ := hr.open
  have HC := Lib.hid hc; clear hc hr
  go_enter Tryz.func192, Tryz.ntmps192
  go_wp2_with fail
  go_loopw [7] (fun i wr => ∃ k : Nat, i = .int .i64 k ∧ k ≤ l.length ∧ rightF l = rightF (l.drop k) ∧ Below w.heap.size w wr) (fun i _ => l.length - (intOf i).toNat)
  case atStart => exact ⟨0, rfl, by omega, by simp, Below.refl _ _⟩
  case round =>
    obtain ⟨k, rfl, hk, hall, B⟩ := hrel
    have Hall := Lib.hid hall; clear hall
    by_cases hlt : k < l.length
    · obtain ⟨b, rfl, hb0, h1, h2⟩ := HC.out k hlt
      have hf := Hok.out l[k] (List.getElem_mem _)
      have HD := Lib.hid (show rightF (l.drop k) = (nameB l[k].1 && valueB l[k].2 && rightF (l.drop (k + 1))) from by unfold rightF; rw [List.drop_eq_getElem_cons hlt, List.all_cons])
      have c1 := (B.cell (p := ⟨b, k * 2, none⟩) hb0).trans h1
      have c2 := (B.cell (p := ⟨b, k * 2 + 1, none⟩) hb0).trans h2
      clear h1 h2
      generalize l[k] = f at hf HD c1 c2
      obtain ⟨x, y⟩ := f
      simp only at hf HD c1 c2
      obtain ⟨hx, hy⟩ := hf
      go_wp2_with fail
      refine (name_any x _ hx).mono ?_
      rintro e w' ⟨rfl, rfl⟩
      generalize nameB x = b1 at HD ⊢
      cases b1 with
      | false =>
        go_wp2_with fail
        go_ret
        exact ⟨ret_bool (by rw [Hall.out, HD.out]; rfl), B.alloc B.size _⟩
      | true =>
        go_wp2_with fail
        refine (value_any y _ hy).mono ?_
        rintro e w2 ⟨rfl, hb2⟩
        generalize valueB y = b2 at HD ⊢
        cases b2 with
        | false =>
          go_wp2_with fail
          go_ret
          exact ⟨ret_bool (by rw [Hall.out, HD.out]; rfl), (B.alloc B.size _).trans (hb2.mono (B.alloc B.size _).size)⟩
        | true =>
          go_wp2_with fail
          go_roundw
          case rel => exact ⟨k + 1, by go_num, by omega, by rw [Hall.out, HD.out]; rfl, (B.alloc B.size _).trans (hb2.mono (B.alloc B.size _).size)⟩
          case measure => simp [intOf]; omega
    · obtain rfl : k = l.length := by omega
      go_wp2_with fail
      go_ret
      exact ⟨ret_bool (by rw [Hall.out, List.drop_length]; rfl), B⟩
set_option maxHeartbeats 4000000 in
set_option maxRecDepth 100000 in
theorem get_field (v : Value) (l : List Fld) (s : Bs) (w : World) (hr : RdF w v l) (hok : FldsOk l) (hs : s.length ≤ 1000000000000) :
    Calls Tryz.prog 33 #[v, .string ⟨s.toArray⟩] w fun e w' => e = .returned (.tuple #[.string ⟨((getF l s).getD []).toArray⟩, .bool (getF l s).isSome]) ∧ Below w.heap.size w w' := by
  have hlen := hok.1
  have Hok := Lib.hid hok.2; clear hok
  obtain ⟨a, cap, rfl, hc⟩ := hr.open
  have HC := Lib.hid hc; clear hc hr
  go_enter Tryz.func33, Tryz.ntmps33
  go_wp2_with fail
  go_loopw [10] (fun i wr => ∃ k : Nat, i = .int .i64 k ∧ k ≤ l.length ∧ getF l s = getF (l.drop k) s ∧ Below w.heap.size w wr) (fun i _ => l.length - (intOf i).toNat)
  case atStart => exact ⟨0, rfl, by omega, by simp, Below.refl _ _⟩
  case round =>
    obtain ⟨k, rfl, hk, hall, B⟩ := hrel
    have Hall := Lib.hid hall; clear hall
    by_cases hlt : k < l.length
    · obtain ⟨b, rfl, hb0, h1, h2⟩ := HC.out k hlt
      have hf := Hok.out l[k] (List.getElem_mem _)
      have HD := Lib.hid (show getF (l.drop k) s = if lowS l[k].1 = lowS s then some l[k].2 else getF (l.drop (k + 1)) s from by rw [List.drop_eq_getElem_cons hlt]; rfl)
      have c1 := (B.cell (p := ⟨b, k * 2, none⟩) hb0).trans h1
      have c2 := (B.cell (p := ⟨b, k * 2 + 1, none⟩) hb0).trans h2
      clear h1 h2
      generalize l[k] = f at hf HD c1 c2
      obtain ⟨x, y⟩ := f
      simp only at hf HD c1 c2
      obtain ⟨hx, hy⟩ := hf
      have kf := Blk.new wr #[.string ⟨x.toArray⟩, .string ⟨y.toArray⟩] 92
      have B := B.alloc B.size (.cells #[.string ⟨x.toArray⟩, .string ⟨y.toArray⟩] 92)
      go_wp2_with fail
      refine (small_any x _ (by omega)).mono ?_
      rintro e w2 ⟨rfl, hb2⟩
      have kf := kf.next hb2 kf.lt
      have B := B.trans (hb2.mono B.size)
      clear hb2 c1 c2
      go_wp2_with fail
      refine (small_any s _ (by omega)).mono ?_
      rintro e w3 ⟨rfl, hb3⟩
      have kf := kf.next hb3 kf.lt
      have B := B.trans (hb3.mono B.size)
      clear hb3
      have kc := kf.cell 1
      by_cases he : lowS x = lowS s
      · have hq : (lowS x == lowS s) = true := by rw [beq_iff_eq]; exact he
        have HG := Lib.hid (show getF l s = some y from by rw [Hall.out, HD.out, if_pos he])
        clear he
        go_wp2_with fail
        go_ret2
        exact ⟨by rw [HG.out]; rfl, B⟩
      · have hq : (lowS x == lowS s) = false := by rw [beq_eq_false_iff_ne]; exact he
        have HG := Lib.hid (show getF l s = getF (l.drop (k + 1)) s from by rw [Hall.out, HD.out, if_neg he])
        clear he
        go_wp2_with fail
        go_roundw
        case rel => exact ⟨k + 1, by go_num, by omega, HG.out, B⟩
        case measure => simp [intOf]; omega
    · obtain rfl : k = l.length := by omega
      have HG := Lib.hid (show getF l s = none from by rw [Hall.out, List.drop_length]; rfl)
      go_wp2_with fail
      go_ret2
      exact ⟨by rw [HG.out]; rfl, B⟩
abbrev OwnF (w : World) (B : Nat) (v : Value) (l : List Fld) : Prop := OwnG 92 2 fldC w B v l
theorem infoFld : (Tryz.prog.info? 92).map (fun i => (i.zero, i.size, i.bytes)) = some (some (.agg #[.string ByteArray.empty, .string ByteArray.empty]), 2, 32) := by kernel_rfl
theorem fldC_one (f : Fld) : ∀ u ∈ fldC f, u.oneCell' = true := fun u hu => by
  simp [fldC] at hu
  rcases hu with rfl | rfl <;> rfl
theorem cellF1 (w : World) (f : Fld) (t : TypeId) : ∀ j u, ([f].flatMap fldC)[j]? = some u → (w.alloc (.cells #[.string ⟨f.1.toArray⟩, .string ⟨f.2.toArray⟩] t)).cell? ((⟨w.heap.size, 0, none⟩ : Addr).add j) = some u := fun j u hj => by
  rw [addr_add0, (Blk.new w #[.string ⟨f.1.toArray⟩, .string ⟨f.2.toArray⟩] t).cell]
  match j, hj with
  | 0, hj => exact hj
  | 1, hj => exact hj
  | j + 2, hj => simp [fldC] at hj
theorem appF {Q : Exit → Act → World → Prop} {ops : Array Oper} {rest : List Oper} {o : Oper} {a : Act} {w : World} (hgd : o.guard = none) (s x : Operand)
    (ho : o.op = .call { callee := .builtin .append, args := #[s, x], argTypes := #[42, 42] }) (B : Nat) (v : Value) (xs : List Fld) (y : Fld) (b c : Nat)
    (hs : a.eval s = v) (hown : OwnF w B v xs) (hx : a.eval x = .slice (some ⟨b, 0, none⟩) 1 c) (hc : ∀ j u, ([y].flatMap fldC)[j]? = some u → w.cell? ((⟨b, 0, none⟩ : Addr).add j) = some u) (hn : xs.length + 1 ≤ 1000000000001) (hbase : B ≤ w.heap.size)
    (h : ∀ v' w', OwnF w' B v' (xs ++ [y]) → w.grownBy w' v.ownBlock → Below B w w' → wpList Tryz.prog ops Q rest (a.put o.dst v') w') : wpList Tryz.prog ops Q (o :: rest) a w :=
  appG (α := Fld) (cs := fldC) (size := 2) (z := .agg #[.string ByteArray.empty, .string ByteArray.empty]) fldC_len fldC_one infoFld rfl (by decide) Tryz.underlying42 hgd s x ho B v xs [y] ⟨b, 0, none⟩ 1 c rfl hs hown hx hc (by simp; omega) (by unfold maxLen; simp; omega) hbase h
def ErrV (w : World) (v : Value) (n : Int) : Prop := (v = .nilIface ∧ n = 0) ∨ v = .iface 30 (.int .i64 n) ∨ ∃ b p, v = .iface 253 (.pointer (some ⟨b, 0, none⟩)) ∧ w.cell? ⟨b, 0, none⟩ = some (.int .i64 n) ∧ w.cell? ⟨b, 1, none⟩ = some (.int .i64 p)
theorem ErrV.at (w : World) (n p : Int) (t : TypeId) : ErrV (w.alloc (.cells #[.int .i64 n, .int .i64 p] t)) (.iface 253 (.pointer (some ⟨w.heap.size, 0, none⟩))) n :=
  Or.inr (Or.inr ⟨_, p, rfl, (Blk.new w _ t).cell 0, (Blk.new w _ t).cell 1⟩)
def FldsOr (B : Nat) (n : Int) (r : Option (List Fld)) (e : Ending) (w' : World) : Prop :=
  (∃ o v, r = some o ∧ e = .returned (.tuple #[v, .nilIface]) ∧ OwnF w' B v o) ∨ (∃ v, r = none ∧ e = .returned (.tuple #[.slice none 0 0, v]) ∧ ErrV w' v n)
set_option maxHeartbeats 4000000 in
set_option maxRecDepth 100000 in
theorem clean_any (v : Value) (l : List Fld) (w : World) (hr : RdF w v l) (hok : FldsOk l) :
    Calls Tryz.prog 163 #[v] w fun e w' => FldsOr w.heap.size 1 (cleanF l) e w' ∧ Below w.heap.size w w' := by
  have hlen := hok.1
  have Hok := Lib.hid hok.2; clear hok
  obtain ⟨a, cap, rfl, hc⟩ := hr.open
  have HC := Lib.hid hc; clear hc hr
  go_enter Tryz.func163, Tryz.ntmps163
  go_wp2_with fail
  go_loopw [4, 10] (fun o i wr => ∃ (k : Nat) (out : List Fld), i = .int .i64 k ∧ k ≤ l.length ∧ out.length = k ∧ OwnF wr w.heap.size o out ∧ (cleanF (l.drop k)).map (out ++ ·) = cleanF l ∧ Below w.heap.size w wr) (fun _ i _ => l.length - (intOf i).toNat)
  case atStart => exact ⟨0, [], rfl, by omega, rfl, OwnG.nil _ _ _ _ _, by simp, Below.refl _ _⟩
  case round =>
    obtain ⟨k, out, rfl, hk, hol, hown, hall, B⟩ := hrel
    have Hall := Lib.hid hall; clear hall
    by_cases hlt : k < l.length
    · obtain ⟨b, rfl, hb0, h1, h2⟩ := HC.out k hlt
      have hf := Hok.out l[k] (List.getElem_mem _)
      have HD := Lib.hid (show cleanF (l.drop k) = if valueB (Lib.trimS l[k].2 [32, 9]) then (cleanF (l.drop (k + 1))).map ((l[k].1, Lib.trimS l[k].2 [32, 9]) :: ·) else none from by rw [List.drop_eq_getElem_cons hlt]; rfl)
      have c1 := (B.cell (p := ⟨b, k * 2, none⟩) hb0).trans h1
      have c2 := (B.cell (p := ⟨b, k * 2 + 1, none⟩) hb0).trans h2
      clear h1 h2
      generalize l[k] = f at hf HD c1 c2
      obtain ⟨x, y⟩ := f
      simp only at hf HD c1 c2
      obtain ⟨hx, hy⟩ := hf
      have kf := Blk.new wr #[.string ⟨x.toArray⟩, .string ⟨y.toArray⟩] 92
      have B := B.alloc B.size (.cells #[.string ⟨x.toArray⟩, .string ⟨y.toArray⟩] 92)
      have hown := hown.alloc (.cells #[.string ⟨x.toArray⟩, .string ⟨y.toArray⟩] 92)
      go_wp2_with fail
      refine (trimStr y [32, 9] _ (by omega) (by decide) (by decide)).mono ?_
      rintro e w2 ⟨rfl, hb2⟩
      have kf := kf.next hb2 kf.lt
      have hown := OwnG.next hown hb2
      have B := B.trans (hb2.mono B.size)
      clear hb2 c1 c2
      have hty := trimS_le y [32, 9]
      generalize Lib.trimS y [32, 9] = z at hty HD ⊢
      go_wp2_with fail
      refine (value_any z _ (by omega)).mono ?_
      rintro e w3 ⟨rfl, hb3⟩
      have kf := kf.next hb3 kf.lt
      have hown := OwnG.next hown hb3
      have B := B.trans (hb3.mono B.size)
      clear hb3
      have kc := kf.cell 0
      generalize valueB z = bz at HD ⊢
      cases bz with
      | false =>
        have HN := Lib.hid (show cleanF l = none from by rw [← Hall.out, HD.out]; rfl)
        go_wp2_with fail
        go_ret2
        exact ⟨Or.inr ⟨_, HN.out, rfl, ErrV.at _ _ _ _⟩, B.alloc B.size _⟩
      | true =>
        have HN := Lib.hid (show (cleanF (l.drop (k + 1))).map ((out ++ [(x, z)]) ++ ·) = cleanF l from by rw [← Hall.out, HD.out]; simp only [if_true]; cases cleanF (l.drop (k + 1)) <;> simp)
        go_wp2_with (at_builtin; refine appF rfl _ _ rfl w.heap.size _ out (x, z) w3.heap.size 1 rfl (OwnG.alloc hown _) rfl (cellF1 w3 (x, z) _) (by omega) (by have := B.size; simp; omega) ?_; intro v' w4 hown4 hg4 hb4)
        go_wp2_with fail
        go_roundw
        case rel => exact ⟨k + 1, out ++ [(x, z)], by go_num, by omega, by simp; omega, hown4, HN.out, (B.alloc B.size _).trans hb4⟩
        case measure => simp [intOf]; omega
    · obtain rfl : k = l.length := by omega
      have HN := Lib.hid (show cleanF l = some out from by rw [← Hall.out, List.drop_length]; simp [cleanF])
      go_wp2_with fail
      go_ret2
      exact ⟨Or.inl ⟨out, _, HN.out, rfl, hown⟩, B⟩
end Go.Proofs.YtignjjnflcpiiaaGreatDoor
