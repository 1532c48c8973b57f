/-
  address.Read gives the address that a text is, or ErrForm. Condition: the text takes less than 2^32 bytes (the shelf's bound on Cut).
-/
import Derived.Test.YtignjjnflcpiiaaDoorAddrP
namespace Go.Proofs.YtignjjnflcpiiaaDoor
open Go Go.RowKit

def ReadPost (l : Bs) (w : World) (e : Ending) (w' : World) : Prop :=
  e = .returned (match readA l with | some a => .tuple #[a.val, .nilIface] | none => .tuple #[Addr.zero.val, .iface 36 (.int .i64 3)]) ∧ Below w.heap.size w w'

set_option maxHeartbeats 1000000 in
set_option maxRecDepth 100000 in
theorem addrRead_any (l : Bs) (w : World) (hl : l.length < 4294967281) (hg : Ground w) :
    Calls Tryd.prog 6 #[.string ⟨l.toArray⟩] w (ReadPost l w) := by
  go_enter Tryd.func6, Tryd.ntmps6
  go_wp2_with fail
  go_loop [12] (fun i => ∃ k : Nat, k ≤ l.length ∧ i = .int .i64 k ∧ (l.take k).all okB = true) (fun i => l.length - (intOf i).toNat)
  case atStart => exact ⟨0, Nat.zero_le _, rfl, by simp⟩
  case round =>
    obtain ⟨k, hk, rfl, hall⟩ := hrel
    by_cases hlt : k < l.length
    · by_cases ho : (33 : Int) ≤ l[k].toNat ∧ (l[k].toNat : Int) ≤ 126
      · obtain ⟨h1, h2⟩ := ho
        go_wp2_with fail
        go_round
        case rel => exact ⟨k + 1, by omega, by go_num, all_take_succ okB hlt hall (okB_yes h1 h2)⟩
        case measure => simp [intOf]; omega
      · have hf := all_at_false okB hlt (okB_no ho)
        go_wp2_with fail
        all_goals
          refine bodyPost_ret (v := .tuple #[Addr.zero.val, .iface 36 (.int .i64 3)]) (by simp [results, Tryd.results6, go_sem, Addr.zero]) rfl ⟨by rw [readA, hf]; rfl, by go_grown⟩
    · obtain rfl : k = l.length := by omega
      rw [List.take_length] at hall
      have le1 := cut_le l [35]
      generalize hc1 : Lib.cut l [35] = c1 at le1
      obtain ⟨s1, f, hf⟩ := c1
      have hC1 := Lib.hid hc1; clear hc1
      simp only at le1
      go_wp2_with fail
      refine (cutS l [35] _ hl (hg.next (by go_grown))).mono ?_
      rintro e w1 ⟨rfl, hb1⟩
      rw [hC1.out]
      have r1 : Blk w1 w.heap.size zCells 24 := ((Blk.new w _ _).alloc _).next hb1 (by go_size)
      have a1 := (Blk.new (w.alloc (.cells zCells 24)) zCells 24).next hb1 (by go_size)
      rw [World.size_alloc] at a1
      have B1 : Below w.heap.size w w1 := (((Below.refl _ w).alloc (Nat.le_refl _) _).alloc (by go_size) _).trans (hb1.mono (by go_size))
      have le2 := cut_le s1 [63]
      generalize hc2 : Lib.cut s1 [63] = c2 at le2
      obtain ⟨s2, q, hq⟩ := c2
      have hC2 := Lib.hid hc2; clear hc2
      simp only at le2
      clear hb1
      have az := a1.free
      have ac := a1.cell
      go_wp2_with fail
      have B1' := (B1.setCell (p := ⟨w.heap.size + 1, 7, none⟩) (by simp) (.string ⟨f.toArray⟩)).setCell (p := ⟨w.heap.size + 1, 6, none⟩) (by simp) (.bool hf)
      refine (cutS s1 [63] _ (by omega) (hg.next B1')).mono ?_
      rintro e w2 ⟨rfl, hb2⟩
      rw [hC2.out]
      have r2 := ((r1.setO (a := ⟨w.heap.size + 1, 7, none⟩) (by simp) (.string ⟨f.toArray⟩)).setO (a := ⟨w.heap.size + 1, 6, none⟩) (by simp) (.bool hf)).next hb2 (by have := r1.lt; go_size)
      have a2 : Blk w2 (w.heap.size + 1) #[.string ⟨#[]⟩, .bool false, .string ⟨#[]⟩, .string ⟨#[]⟩, .bool false, .string ⟨#[]⟩, .bool hf, .string ⟨f.toArray⟩] _ := ((a1.set 7 (.string ⟨f.toArray⟩)).set 6 (.bool hf)).next hb2 (by have := a1.lt; go_size)
      have B2 : Below w.heap.size w w2 := B1'.trans (hb2.mono (by have := r1.lt; go_size))
      clear hb2 ac az a1 r1 B1 B1'
      have az := a2.free
      have ac := a2.cell
      have hI := idxByte s2 58 58 rfl
      have hK : HasAt s2 58 (Lib.indexByte s2 58) := hasAt_index s2 58
      generalize Lib.indexByte s2 58 = k at hI hK
      go_upto_region 11 with (go_at_call 21; refine (hI _).mono ?_; rintro e w' ⟨rfl, rfl⟩)
      go_cut [53] (fun s53 wx => s53 = .bool (hasScheme s2) ∧ Blk wx w.heap.size zCells 24 ∧ Blk wx (w.heap.size + 1) #[.string ⟨#[]⟩, .bool false, .string ⟨#[]⟩, .string ⟨#[]⟩, .bool hq, .string ⟨q.toArray⟩, .bool hf, .string ⟨f.toArray⟩] 24 ∧ Below w.heap.size w wx)
      case first =>
        have r3 := (r2.setO (a := ⟨w.heap.size + 1, 5, none⟩) (by simp) (.string ⟨q.toArray⟩)).setO (a := ⟨w.heap.size + 1, 4, none⟩) (by simp) (.bool hq)
        have a3 : Blk _ (w.heap.size + 1) #[.string ⟨#[]⟩, .bool false, .string ⟨#[]⟩, .string ⟨#[]⟩, .bool hq, .string ⟨q.toArray⟩, .bool hf, .string ⟨f.toArray⟩] _ := (a2.set 5 (.string ⟨q.toArray⟩)).set 4 (.bool hq)
        have B3 := (B2.setCell (p := ⟨w.heap.size + 1, 5, none⟩) (by simp) (.string ⟨q.toArray⟩)).setCell (p := ⟨w.heap.size + 1, 4, none⟩) (by simp) (.bool hq)
        clear ac az
        rcases Int.lt_or_le 0 k with hk0 | hk0
        · have hkl := hK.le hk0
          go_wp2_with fail
          refine (scheme_any _ _ (by simp; omega)).mono ?_
          rintro e w4 ⟨rfl, hb4⟩
          go_wp2_with fail
          go_meet
          exact ⟨by rw [hK.yes hk0], r3.next hb4 r3.lt, a3.next hb4 a3.lt, B3.trans (hb4.mono (by have := r3.lt; omega))⟩
        · go_wp2_with fail
          go_meet
          exact ⟨by rw [hK.no hk0], r3, a3, B3⟩
      case rest =>
        obtain ⟨rfl, r4, a4, B4⟩ := hcut
        go_upto_if 53 with fail
        go_cut [0] (fun s0 wx => s0 = .string ⟨(parseScheme s2).2.toArray⟩ ∧ Blk wx w.heap.size zCells 24 ∧ Blk wx (w.heap.size + 1) #[.string ⟨(parseScheme s2).1.toArray⟩, .bool false, .string ⟨#[]⟩, .string ⟨#[]⟩, .bool hq, .string ⟨q.toArray⟩, .bool hf, .string ⟨f.toArray⟩] 24 ∧ Below w.heap.size w wx)
        case first =>
          have az := a4.free
          have ac := a4.cell
          cases hb : hasScheme s2 with
          | false =>
            go_wp2_with fail
            go_meet
            have h := parseScheme_no hb
            exact ⟨by rw [h], r4, by rw [h]; exact a4, B4⟩
          | true =>
            have h := hK.parse hb
            have hk0 := hK.pos hb
            have hkl := hK.le hk0
            go_wp2_with fail
            go_region
            all_goals go_wp2_with fail
            all_goals go_meet
            all_goals exact ⟨by rw [h], r4.setO (by simp) _, by rw [h]; exact a4.set 0 _, (B4.setCell (p := ⟨w.heap.size + 1, 0, none⟩) (by simp) _).drew⟩
        case rest =>
          obtain ⟨rfl, r5, a5, B5⟩ := hcut
          clear r4 a4 B4 r2 a2 B2
          generalize hs3 : parseScheme s2 = s3 at r5 a5 B5 ⊢
          obtain ⟨sch, s3⟩ := s3
          have HS3 := Lib.hid hs3; clear hs3
          simp only at a5 ⊢
          have az := a5.free
          have ac := a5.cell
          have rz := r5.free
          have rc := r5.cell
          have hlt5 := a5.lt
          by_cases hp : Lib.hasPrefix s3 [47, 47] = true
          · have hq2 := cutPre s3 [47, 47] wc
            have HA := Lib.hid (parseAuth_yes hp)
            have HL := Lib.hid (Lib.trimPrefix_le s3 [47, 47])
            rw [hp] at hq2
            generalize Lib.trimPrefix s3 [47, 47] = rest at hq2 HA HL
            have hI2 := idxByte rest 47 47 rfl
            have hK2 : HasAt rest 47 (Lib.indexByte rest 47) := hasAt_index rest 47
            generalize Lib.indexByte rest 47 = k2 at hI2 hK2
            go_wp2_with fail
            refine hq2.mono ?_
            rintro e w' ⟨rfl, rfl⟩
            go_wp2_with fail
            refine (hI2 _).mono ?_
            rintro e w' ⟨rfl, rfl⟩
            rcases Int.lt_or_le k2 0 with hk2 | hk2
            · have hA := hK2.auth_no hk2
              go_wp2_with fail
              go_region
              all_goals go_wp2_with fail
              all_goals
                refine bodyPost_ret (v := .tuple #[(parseA l).val, .nilIface]) (by rw [parseA_eq hC1.out hC2.out HS3.out (HA.out.trans hA)]; simp [results, Tryd.results6, go_sem, rc] <;> rfl) rfl ⟨by rw [readA, hall]; rfl, by go_grown⟩
            · have hA := hK2.auth_yes hk2
              have hkl2 := hK2.le' hk2
              go_wp2_with fail
              go_region
              all_goals go_wp2_with fail
              all_goals
                refine bodyPost_ret (v := .tuple #[(parseA l).val, .nilIface]) (by rw [parseA_eq hC1.out hC2.out HS3.out (HA.out.trans hA)]; simp [results, Tryd.results6, go_sem, rc] <;> rfl) rfl ⟨by rw [readA, hall]; rfl, by go_grown⟩
          · have hq2 := cutPre s3 [47, 47] wc
            have hA := parseAuth_no hp
            rw [Bool.eq_false_iff.2 hp] at hq2
            go_wp2_with fail
            refine hq2.mono ?_
            rintro e w' ⟨rfl, rfl⟩
            go_wp2_with fail
            refine bodyPost_ret (v := .tuple #[(parseA l).val, .nilIface]) (by rw [parseA_eq hC1.out hC2.out HS3.out hA]; simp [results, Tryd.results6, go_sem, rc] <;> rfl) rfl ⟨by rw [readA, hall]; rfl, by go_grown⟩

theorem addrRead_yes (l : Bs) (a : Addr) (w : World) (hl : l.length < 4294967281) (hg : Ground w) (h : readA l = some a) :
    Calls Tryd.prog 6 #[.string ⟨l.toArray⟩] w fun e w' => e = .returned (.tuple #[a.val, .nilIface]) ∧ Below w.heap.size w w' := by
  refine (addrRead_any l w hl hg).mono ?_
  rintro e w' ⟨rfl, hb⟩
  rw [h]; exact ⟨rfl, hb⟩

theorem addrRead_no (l : Bs) (w : World) (hl : l.length < 4294967281) (hg : Ground w) (h : readA l = none) :
    Calls Tryd.prog 6 #[.string ⟨l.toArray⟩] w fun e w' => e = .returned (.tuple #[Addr.zero.val, .iface 36 (.int .i64 3)]) ∧ Below w.heap.size w w' := by
  refine (addrRead_any l w hl hg).mono ?_
  rintro e w' ⟨rfl, hb⟩
  rw [h]; exact ⟨rfl, hb⟩

end Go.Proofs.YtignjjnflcpiiaaDoor
