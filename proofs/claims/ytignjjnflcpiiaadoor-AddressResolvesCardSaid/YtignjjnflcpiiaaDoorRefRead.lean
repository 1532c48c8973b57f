/-
  The document's ReadAddress gives the address that a text is, or ErrForm. Condition: the text takes less than 2^32 bytes.
-/
import Derived.Test.YtignjjnflcpiiaaDoorRefReadP
namespace Go.Proofs.YtignjjnflcpiiaaDoor
open Go Go.RowKit

/-- What the document's ReadAddress returns. -/
def refReadV (l : Bs) : Value := match readA l with | some a => .tuple #[a.val, .int .i64 0] | none => .tuple #[Addr.zero.val, .int .i64 3]

abbrev aCells (sch : Bs) (ha : Bool) (au : Bs) (hq : Bool) (q : Bs) (hf : Bool) (f : Bs) : Array Value := #[.string ⟨sch.toArray⟩, .bool ha, .string ⟨au.toArray⟩, .string ⟨#[]⟩, .bool hq, .string ⟨q.toArray⟩, .bool hf, .string ⟨f.toArray⟩]

/-- What slot 'ok' holds behind j bytes of the scheme. -/
def SchR (K : Nat) (s : Bs) (j : Nat) (o : Value) : Prop := ∃ b, o = .bool b ∧ b = (decide (0 < (K : Int)) && schU s j)
theorem SchR.mk {K : Nat} {s : Bs} {j : Nat} {b : Bool} (h : b = (decide (0 < (K : Int)) && schU s j)) : SchR K s j (.bool b) := ⟨b, rfl, h⟩

/-- Whether a byte is a small letter. -/
def SchI1 (d : UInt8) (o : Value) : Prop := ∃ p : Bool, p = (decide (97 ≤ (d.toNat : Int)) && decide ((d.toNat : Int) ≤ 122)) ∧ o = .bool p
theorem SchI1.mk {d : UInt8} {p : Bool} (h : p = (decide (97 ≤ (d.toNat : Int)) && decide ((d.toNat : Int) ≤ 122))) : SchI1 d (.bool p) := ⟨p, h, rfl⟩
/-- What it holds behind one more. -/
def SchO (b : Bool) (d : UInt8) (m : Bool) (o : Value) : Prop := o = .bool (b && schI d m)
theorem SchO.mk {b c : Bool} {d : UInt8} {m : Bool} (h : c = (b && schI d m)) : SchO b d m (.bool c) := by rw [SchO, h]

set_option maxHeartbeats 4000000 in
set_option maxRecDepth 100000 in
theorem refRead_any (l : Bs) (w : World) (hl : l.length < 4294967281) :
    Calls Tryd.prog 13 #[.string ⟨l.toArray⟩] w fun e w' => e = .returned (refReadV l) ∧ Below w.heap.size w w' := by
  go_enter Tryd.func13, Tryd.ntmps13
  go_wp2_with fail
  go_loop [16] (fun i => ∃ k : Nat, k ≤ l.length ∧ i = .int .i64 k ∧ (l.take k).all okB = true) (fun i => l.length - (intOf i).toNat)
  case atStart => exact ⟨0, Nat.zero_le _, rfl, by simp⟩
  case round =>
    obtain ⟨k, hk, rfl, hall⟩ := hrel
    by_cases hlt : k < l.length
    · by_cases ho : (33 : Int) ≤ l[k].toNat ∧ (l[k].toNat : Int) ≤ 126
      · obtain ⟨h1, h2⟩ := ho
        go_wp2_with fail
        refine (in_any _ _ _ _).mono ?_
        rintro e w1 ⟨rfl, rfl⟩
        go_wp2_with fail
        go_round
        case rel => exact ⟨k + 1, by omega, by go_num, all_take_succ okB hlt hall (okB_yes h1 h2)⟩
        case measure => simp [intOf]; omega
      · have hf := all_at_false okB hlt (okB_no ho)
        have hb : (decide ((33 : Int) ≤ l[k].toNat) && decide ((l[k].toNat : Int) ≤ 126)) = false := by
          rw [← Bool.decide_and, decide_eq_false_iff_not]; exact ho
        go_wp2_with fail
        refine (in_any _ _ _ _).mono ?_
        rintro e w1 ⟨rfl, rfl⟩
        rw [show wrap64 (l[k].toNat : Int) = l[k].toNat from by have := l[k].toNat_lt; first | go_num | (unfold wrap64; omega), hb]
        clear ho
        go_wp2_with fail
        refine bodyPost_ret (v := .tuple #[Addr.zero.val, .int .i64 3]) (by simp [results, Tryd.results13, go_sem, Addr.zero]) rfl ⟨by rw [refReadV, readA, hf]; rfl, by go_grown⟩
    · obtain rfl : k = l.length := by omega
      rw [List.take_length] at hall
      have r0 : Blk _ w.heap.size zCells 24 := (Blk.new w zCells 24).alloc (.cells zCells 24)
      have a0 := Blk.new (w.alloc (.cells zCells 24)) zCells 24
      rw [World.size_alloc] at a0
      have B0 : Below w.heap.size w _ := ((Below.refl w.heap.size w).alloc (Nat.le_refl _) (.cells zCells 24)).alloc (by go_size) (.cells zCells 24)
      go_upto_if 30 with (go_at_call 30; refine (idxOne _ _ _).mono ?_; rintro e w' ⟨k1, hK1, rfl, rfl⟩)
      generalize hw1 : (w.alloc (.cells zCells 24)).alloc (.cells zCells 24) = w1 at r0 a0 B0 ⊢
      clear hw1
      go_cut [0] (fun s0 wx => s0 = .string ⟨(Lib.cut l [35]).1.toArray⟩ ∧ Blk wx w.heap.size zCells 24 ∧ Blk wx (w.heap.size + 1) (aCells [] false [] false [] (Lib.cut l [35]).2.2 (Lib.cut l [35]).2.1) 24 ∧ Below w.heap.size w wx)
      case first =>
        rcases Int.lt_or_le k1 0 with h0 | h0
        · have e := Lib.hid (hK1.cut_no h0)
          go_wp2_with fail
          go_meet
          rw [e.out]
          exact ⟨rfl, r0, a0, B0⟩
        · have e := Lib.hid (hK1.cut_yes h0)
          have hk1 := hK1.lt'
          have ac := a0.cell
          have az := a0.free
          have hlta := a0.lt
          go_wp2_with fail
          go_region
          all_goals go_wp2_with fail
          all_goals
            go_meet
            rw [e.out]
            exact ⟨rfl, (r0.setO (a := ⟨w.heap.size + 1, 6, none⟩) (by simp) _).setO (a := ⟨w.heap.size + 1, 7, none⟩) (by simp) _, (a0.set 6 _).set 7 _, by go_grown⟩
      case rest =>
        obtain ⟨rfl, r1, a1, B1⟩ := hcut
        clear r0 a0 B0 hK1
        have le1 := cut_le l [35]
        generalize hc1 : Lib.cut l [35] = c1 at le1 r1 a1 B1 ⊢
        obtain ⟨s1, f, hf⟩ := c1
        have hC1 := Lib.hid hc1; clear hc1
        simp only at le1 r1 a1 B1 ⊢
        go_upto_if 43 with (go_at_call 30; refine (idxOne _ _ _).mono ?_; rintro e w' ⟨k1, hK1, rfl, rfl⟩)
        obtain ⟨w1, rfl⟩ : ∃ w1 : World, w1 = wc := ⟨_, rfl⟩
        go_cut [0] (fun s0 wx => s0 = .string ⟨(Lib.cut s1 [63]).1.toArray⟩ ∧ Blk wx w.heap.size zCells 24 ∧ Blk wx (w.heap.size + 1) (aCells [] false [] (Lib.cut s1 [63]).2.2 (Lib.cut s1 [63]).2.1 hf f) 24 ∧ Below w.heap.size w wx)
        case first =>
          rcases Int.lt_or_le k1 0 with h0 | h0
          · have e := Lib.hid (hK1.cut_no h0)
            go_wp2_with fail
            go_meet
            rw [e.out]
            exact ⟨rfl, r1, a1, B1⟩
          · have e := Lib.hid (hK1.cut_yes h0)
            have hk1 := hK1.lt'
            have ac := a1.cell
            have az := a1.free
            have hlta := a1.lt
            go_wp2_with fail
            go_region
            all_goals go_wp2_with fail
            all_goals
              go_meet
              rw [e.out]
              exact ⟨rfl, (r1.setO (a := ⟨w.heap.size + 1, 4, none⟩) (by simp) _).setO (a := ⟨w.heap.size + 1, 5, none⟩) (by simp) _, (a1.set 4 _).set 5 _, by go_grown⟩
        case rest =>
          obtain ⟨rfl, r2, a2, B2⟩ := hcut
          clear r1 a1 B1 hK1
          have le2 := cut_le s1 [63]
          have hle1 : s1.length ≤ l.length := le1.1
          clear le1
          generalize hc2 : Lib.cut s1 [63] = c2 at le2 r2 a2 B2 ⊢
          obtain ⟨s2, q, hq⟩ := c2
          have hC2 := Lib.hid hc2; clear hc2
          simp only at le2 r2 a2 B2 ⊢
          go_upto_if 56 with (go_at_call 30; refine (idxOne _ _ _).mono ?_; rintro e w' ⟨k1, hK1, rfl, rfl⟩)
          obtain ⟨w1, rfl⟩ : ∃ w1 : World, w1 = wc := ⟨_, rfl⟩
          go_cut [0] (fun s0 wx => s0 = .string ⟨(parseScheme s2).2.toArray⟩ ∧ Blk wx w.heap.size zCells 24 ∧ Blk wx (w.heap.size + 1) (aCells (parseScheme s2).1 false [] hq q hf f) 24 ∧ Below w.heap.size w wx)
          case first =>
            rcases Int.lt_or_le k1 0 with h0 | h0
            · have e := Lib.hid (parseScheme_no (hK1.no (by omega)))
              go_wp2_with fail
              go_meet
              rw [e.out]
              exact ⟨rfl, r2, a2, B2⟩
            · obtain ⟨K, rfl⟩ : ∃ K : Nat, k1 = K := ⟨k1.toNat, by omega⟩
              have hs := Lib.hid (hK1.sch h0)
              have hkl := hK1.lt'
              go_wp2_with fail
              go_loopw [9, 60] (fun o i wx => ∃ j : Nat, j ≤ K ∧ i = .int .i64 j ∧ SchR K s2 j o ∧ Blk wx w.heap.size zCells 24 ∧ Blk wx (w.heap.size + 1) (aCells [] false [] hq q hf f) 24 ∧ Below w.heap.size w wx) (fun _ i _ => K - (intOf i).toNat)
              case atStart => exact ⟨0, Nat.zero_le _, rfl, SchR.mk (by simp [schU]), r2, a2, B2⟩
              case round =>
                obtain ⟨j, hj, rfl, ⟨b, rfl, hb⟩, r3, a3, B3⟩ := hrel
                have Hb := Lib.hid hb; clear hb
                by_cases hlt : j < K
                · have hjl : j < s2.length := by omega
                  have h1 := Lib.hid (low_one s2 j hjl)
                  have hU := Lib.hid (schU_succ hjl)
                  have HX := Lib.hid (show (b && schI (lowC s2[j]) (!(j == 0))) = (decide (0 < (K : Int)) && schU s2 (j + 1)) from by rw [hU.out, schB_I, Hb.out, Bool.and_assoc])
                  clear Hb hU
                  go_wp2_with fail
                  refine (low_any _ _ (by simp; omega)).mono ?_
                  rintro e w2 ⟨rfl, hb2⟩
                  rw [h1.out]
                  clear h1
                  have r3 := r3.next hb2 r3.lt
                  have a3 := a3.next hb2 a3.lt
                  have B3 := B3.trans (hb2.mono B3.size)
                  clear hb2 r2 a2 B2
                  generalize lowC s2[j] = d at HX ⊢
                  go_upto_region 21 with fail
                  go_cut [12] (fun o wx => SchI1 d o ∧ wx = w2)
                  case first =>
                    clear HX
                    go_wp2_with fail
                    all_goals
                      go_meet
                      exact ⟨SchI1.mk (by first | (simp [*]; done) | (simp [*]; omega)), rfl⟩
                  case rest =>
                    obtain ⟨⟨pp, hp, rfl⟩, rfl⟩ := hcut
                    have Hp := Lib.hid hp; clear hp
                    cases b with
                    | false =>
                      go_wp2_with fail
                      all_goals
                        go_roundw
                        case rel => first | exact ⟨j + 1, by omega, by go_num, SchR.mk (by rw [← HX.out]; rfl), r3, a3, B3⟩ | ((repeat apply Exists.intro); exact ⟨⟨j + 1, by omega, by go_num, SchR.mk (by rw [← HX.out]; rfl), r3, a3, B3⟩, rfl⟩) | exact ⟨_, _, _, _, _, ⟨j + 1, by omega, by go_num, SchR.mk (by rw [← HX.out]; rfl)⟩, rfl, rfl, rfl, rfl, rfl⟩
                        case measure => simp [intOf]; omega
                    | true =>
                      cases pp with
                      | true =>
                        have hv := Lib.hid (show schI d (!(j == 0)) = true from by unfold schI; rw [← Hp.out]; rfl)
                        go_wp2_with fail
                        all_goals
                          go_roundw
                          case rel => first | exact ⟨j + 1, by omega, by go_num, SchR.mk (by rw [← HX.out, hv.out]; first | rfl | (simp; omega)), r3, a3, B3⟩ | ((repeat apply Exists.intro); exact ⟨⟨j + 1, by omega, by go_num, SchR.mk (by rw [← HX.out, hv.out]; first | rfl | (simp; omega)), r3, a3, B3⟩, rfl⟩) | exact ⟨_, _, _, _, _, ⟨j + 1, by omega, by go_num, SchR.mk (by rw [← HX.out, hv.out]; first | rfl | (simp; omega))⟩, rfl, rfl, rfl, rfl, rfl⟩
                          case measure => simp [intOf]; omega
                      | false =>
                        by_cases hj0 : 0 < j
                        · have e0 := Lib.hid (show (!(j == 0)) = true from by rw [show (j == 0) = false from by rw [beq_eq_false_iff_ne]; omega]; rfl)
                          rcases (show ((48 : Int) ≤ d.toNat ∧ (d.toNat : Int) ≤ 57) ∨ ((57 : Int) < d.toNat) ∨ ((d.toNat : Int) < 48) from by omega) with ⟨hD1, hD2⟩ | hD | hD
                          · as_aux_lemma =>
                              have hv := Lib.hid (show schI d (!(j == 0)) = true from by unfold schI; rw [← Hp.out, e0.out]; rw [decide_eq_true hD1, decide_eq_true hD2]; rfl)
                              clear Hp
                              go_wp2_with fail
                              all_goals
                                go_roundw
                                case rel => first | exact ⟨j + 1, by omega, by go_num, SchR.mk (by rw [← HX.out, hv.out]; first | rfl | (simp; omega)), r3, a3, B3⟩ | ((repeat apply Exists.intro); exact ⟨⟨j + 1, by omega, by go_num, SchR.mk (by rw [← HX.out, hv.out]; first | rfl | (simp; omega)), r3, a3, B3⟩, rfl⟩) | exact ⟨_, _, _, _, _, ⟨j + 1, by omega, by go_num, SchR.mk (by rw [← HX.out, hv.out]; first | rfl | (simp; omega))⟩, rfl, rfl, rfl, rfl, rfl⟩
                                case measure => simp [intOf]; omega
                          · as_aux_lemma =>
                              have h48 : (48 : Int) ≤ d.toNat := by omega
                              have hv := Lib.hid (show schI d (!(j == 0)) = false from by unfold schI; rw [← Hp.out, e0.out]; rw [decide_eq_false (Int.not_le.2 hD), show ((d.toNat : Int) == 43) = false from by rw [beq_eq_false_iff_ne]; omega, show ((d.toNat : Int) == 45) = false from by rw [beq_eq_false_iff_ne]; omega, show ((d.toNat : Int) == 46) = false from by rw [beq_eq_false_iff_ne]; omega]; simp)
                              clear Hp
                              go_wp2_with fail
                              all_goals
                                go_roundw
                                case rel => first | exact ⟨j + 1, by omega, by go_num, SchR.mk (by rw [← HX.out, hv.out]; first | rfl | (simp; omega)), r3, a3, B3⟩ | ((repeat apply Exists.intro); exact ⟨⟨j + 1, by omega, by go_num, SchR.mk (by rw [← HX.out, hv.out]; first | rfl | (simp; omega)), r3, a3, B3⟩, rfl⟩) | exact ⟨_, _, _, _, _, ⟨j + 1, by omega, by go_num, SchR.mk (by rw [← HX.out, hv.out]; first | rfl | (simp; omega))⟩, rfl, rfl, rfl, rfl, rfl⟩
                                case measure => simp [intOf]; omega
                          · by_cases h43 : (d.toNat : Int) = 43
                            · as_aux_lemma =>
                                have hv := Lib.hid (show schI d (!(j == 0)) = true from by unfold schI; rw [← Hp.out, e0.out]; rw [show ((d.toNat : Int) == 43) = true from by rw [beq_iff_eq]; exact h43]; simp)
                                clear Hp
                                go_wp2_with fail
                                all_goals
                                  go_roundw
                                  case rel => first | exact ⟨j + 1, by omega, by go_num, SchR.mk (by rw [← HX.out, hv.out]; first | rfl | (simp; omega)), r3, a3, B3⟩ | ((repeat apply Exists.intro); exact ⟨⟨j + 1, by omega, by go_num, SchR.mk (by rw [← HX.out, hv.out]; first | rfl | (simp; omega)), r3, a3, B3⟩, rfl⟩) | exact ⟨_, _, _, _, _, ⟨j + 1, by omega, by go_num, SchR.mk (by rw [← HX.out, hv.out]; first | rfl | (simp; omega))⟩, rfl, rfl, rfl, rfl, rfl⟩
                                  case measure => simp [intOf]; omega
                            · by_cases h45 : (d.toNat : Int) = 45
                              · as_aux_lemma =>
                                  have hv := Lib.hid (show schI d (!(j == 0)) = true from by unfold schI; rw [← Hp.out, e0.out]; rw [show ((d.toNat : Int) == 45) = true from by rw [beq_iff_eq]; exact h45]; simp)
                                  clear Hp
                                  go_wp2_with fail
                                  all_goals
                                    go_roundw
                                    case rel => first | exact ⟨j + 1, by omega, by go_num, SchR.mk (by rw [← HX.out, hv.out]; first | rfl | (simp; omega)), r3, a3, B3⟩ | ((repeat apply Exists.intro); exact ⟨⟨j + 1, by omega, by go_num, SchR.mk (by rw [← HX.out, hv.out]; first | rfl | (simp; omega)), r3, a3, B3⟩, rfl⟩) | exact ⟨_, _, _, _, _, ⟨j + 1, by omega, by go_num, SchR.mk (by rw [← HX.out, hv.out]; first | rfl | (simp; omega))⟩, rfl, rfl, rfl, rfl, rfl⟩
                                    case measure => simp [intOf]; omega
                              · by_cases h46 : (d.toNat : Int) = 46
                                · as_aux_lemma =>
                                    have hv := Lib.hid (show schI d (!(j == 0)) = true from by unfold schI; rw [← Hp.out, e0.out]; rw [show ((d.toNat : Int) == 46) = true from by rw [beq_iff_eq]; exact h46]; simp)
                                    clear Hp
                                    go_wp2_with fail
                                    all_goals
                                      go_roundw
                                      case rel => first | exact ⟨j + 1, by omega, by go_num, SchR.mk (by rw [← HX.out, hv.out]; first | rfl | (simp; omega)), r3, a3, B3⟩ | ((repeat apply Exists.intro); exact ⟨⟨j + 1, by omega, by go_num, SchR.mk (by rw [← HX.out, hv.out]; first | rfl | (simp; omega)), r3, a3, B3⟩, rfl⟩) | exact ⟨_, _, _, _, _, ⟨j + 1, by omega, by go_num, SchR.mk (by rw [← HX.out, hv.out]; first | rfl | (simp; omega))⟩, rfl, rfl, rfl, rfl, rfl⟩
                                      case measure => simp [intOf]; omega
                                · as_aux_lemma =>
                                    have h43 : ((d.toNat : Int) == 43) = false := by rw [beq_eq_false_iff_ne]; exact h43
                                    have h45 : ((d.toNat : Int) == 45) = false := by rw [beq_eq_false_iff_ne]; exact h45
                                    have h46 : ((d.toNat : Int) == 46) = false := by rw [beq_eq_false_iff_ne]; exact h46
                                    have hv := Lib.hid (show schI d (!(j == 0)) = false from by unfold schI; rw [← Hp.out, e0.out]; rw [decide_eq_false (Int.not_le.2 hD), h43, h45, h46]; simp)
                                    clear Hp
                                    go_wp2_with fail
                                    all_goals
                                      go_roundw
                                      case rel => first | exact ⟨j + 1, by omega, by go_num, SchR.mk (by rw [← HX.out, hv.out]; first | rfl | (simp; omega)), r3, a3, B3⟩ | ((repeat apply Exists.intro); exact ⟨⟨j + 1, by omega, by go_num, SchR.mk (by rw [← HX.out, hv.out]; first | rfl | (simp; omega)), r3, a3, B3⟩, rfl⟩) | exact ⟨_, _, _, _, _, ⟨j + 1, by omega, by go_num, SchR.mk (by rw [← HX.out, hv.out]; first | rfl | (simp; omega))⟩, rfl, rfl, rfl, rfl, rfl⟩
                                      case measure => simp [intOf]; omega
                        · have e0 := Lib.hid (show (!(j == 0)) = false from by rw [show (j == 0) = true from by rw [beq_iff_eq]; omega]; rfl)
                          as_aux_lemma =>
                            have hv := Lib.hid (show schI d (!(j == 0)) = false from by unfold schI; rw [← Hp.out, e0.out]; rfl)
                            clear Hp
                            go_wp2_with fail
                            all_goals
                              go_roundw
                              case rel => first | exact ⟨j + 1, by omega, by go_num, SchR.mk (by rw [← HX.out, hv.out]; first | rfl | (simp; omega)), r3, a3, B3⟩ | ((repeat apply Exists.intro); exact ⟨⟨j + 1, by omega, by go_num, SchR.mk (by rw [← HX.out, hv.out]; first | rfl | (simp; omega)), r3, a3, B3⟩, rfl⟩) | exact ⟨_, _, _, _, _, ⟨j + 1, by omega, by go_num, SchR.mk (by rw [← HX.out, hv.out]; first | rfl | (simp; omega))⟩, rfl, rfl, rfl, rfl, rfl⟩
                              case measure => simp [intOf]; omega
                · obtain rfl : j = K := by omega
                  have hbs : b = hasScheme s2 := by rw [Hb.out, hs.out]; simp
                  clear Hb hs
                  have az := a3.free
                  have ac := a3.cell
                  have hlta := a3.lt
                  cases b with
                  | false =>
                    have e := Lib.hid (parseScheme_no hbs.symm)
                    clear hbs
                    go_wp2_with fail
                    go_meet
                    rw [e.out]
                    exact ⟨rfl, r3, a3, B3⟩
                  | true =>
                    have e := Lib.hid (hK1.parse hbs.symm)
                    clear hbs
                    go_wp2_with fail
                    go_region
                    all_goals go_wp2_with fail
                    all_goals
                      go_meet
                      rw [e.out]
                      exact ⟨rfl, r3.setO (a := ⟨w.heap.size + 1, 0, none⟩) (by simp) _, a3.set 0 _, by go_grown⟩
          case rest =>
            obtain ⟨rfl, r3, a3, B3⟩ := hcut
            clear r2 a2 B2 hK1
            have le3 := parseScheme_le s2
            have hle2 : s2.length ≤ s1.length := le2.1
            clear le2
            generalize hs3 : parseScheme s2 = s3 at le3 r3 a3 B3 ⊢
            obtain ⟨sch, s3⟩ := s3
            have HS3 := Lib.hid hs3; clear hs3
            simp only at le3 r3 a3 B3 ⊢
            obtain ⟨w1, rfl⟩ : ∃ w1 : World, w1 = wc := ⟨_, rfl⟩
            have az := a3.free
            have ac := a3.cell
            have rz := r3.free
            have rc := r3.cell
            have hlta := a3.lt
            have hltr := r3.lt
            by_cases hp : Lib.hasPrefix s3 [47, 47] = true
            · have HA := Lib.hid (parseAuth_yes hp)
              have HT := Lib.hid (show Lib.trimPrefix s3 [47, 47] = s3.drop 2 from by unfold Lib.trimPrefix; rw [if_pos hp]; rfl)
              have hlen : 2 ≤ s3.length := by
                have := isPrefixOf_append [47, 47] s3 hp
                have := congrArg List.length this
                simp at this; omega
              go_wp2_with fail
              refine (hasPre _ _ _).mono ?_
              rintro e w' ⟨rfl, rfl⟩
              rw [hp]
              go_wp2_with fail
              refine (idxOne _ _ _).mono ?_
              rintro e w' ⟨k1, hK1, rfl, rfl⟩
              obtain ⟨h1, h2, h3⟩ := hK1.auth
              have HA2 := Lib.hid (show parseAuth s3 = (true, (s3.drop 2).take k1.toNat, (s3.drop 2).drop k1.toNat) from HA.out.trans (by rw [HT.out]; exact h3))
              clear h3 hK1
              rw [List.length_drop] at h2
              go_wp2_with fail
              go_region
              all_goals go_wp2_with fail
              all_goals
                refine bodyPost_ret (v := .tuple #[(parseA l).val, .int .i64 0]) (by rw [parseA_eq hC1.out hC2.out HS3.out HA2.out]; simp [results, Tryd.results13, go_sem, rc] <;> first | rfl | exact List.take_of_length_le (by simp; omega)) rfl ⟨by rw [refReadV, readA, hall]; rfl, by go_grown⟩
            · have HA := Lib.hid (parseAuth_no hp)
              go_wp2_with fail
              refine (hasPre _ _ _).mono ?_
              rintro e w' ⟨rfl, rfl⟩
              rw [Bool.eq_false_iff.2 hp]
              go_wp2_with fail
              refine bodyPost_ret (v := .tuple #[(parseA l).val, .int .i64 0]) (by rw [parseA_eq hC1.out hC2.out HS3.out HA.out]; simp [results, Tryd.results13, go_sem, rc] <;> rfl) rfl ⟨by rw [refReadV, readA, hall]; rfl, by go_grown⟩
end Go.Proofs.YtignjjnflcpiiaaDoor
