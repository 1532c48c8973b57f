/- text.Unquote reads quoted-printable. Condition: the text takes at most 10^6 bytes; text.Unpack reads base64. Condition: the text takes at most 10^12 bytes. -/
import Derived.Deep.RegionLaw
import Derived.Test.YtignjjnflcpiiaaGreatDoorQ03
namespace Go.Proofs.YtignjjnflcpiiaaGreatDoor
open Go Go.RowKit
def orForm : Option Bs → Value
  | none => .tuple #[.string ⟨#[]⟩, .iface 30 (.int .i64 3)]
  | some l => .tuple #[.string ⟨l.toArray⟩, .nilIface]
theorem stands_int (c : UInt8) : stands c = (plainQ c || ((c.toNat : Int) == 32) || ((c.toNat : Int) == 9)) := by
  have h : ∀ d : UInt8, (c == d) = ((c.toNat : Int) == (d.toNat : Int)) := fun d => by
    by_cases e : c = d
    · subst e; simp
    · rw [beq_eq_false_iff_ne.2 e, eq_comm, beq_eq_false_iff_ne]
      intro h; exact e (UInt8.toNat_inj.1 (by omega))
  unfold stands
  rw [h 32, h 9]; rfl
theorem unqS_short {l : Bs} (h : l.length < 2) : unqS (61 :: l) = none := by
  match l, h with
  | [], _ => rfl
  | [_], _ => rfl
theorem unqS_else {c : UInt8} {l : Bs} (h : c ≠ 61) : unqS (c :: l) = if stands c then some (c, l) else none := by
  unfold unqS
  split
  · rename_i e; injection e with e _; exact absurd e h
  · rename_i e; injection e with e1 e2; rw [e1, e2]
  · rename_i e; cases e
theorem unqL_else {c : UInt8} {l : Bs} (h : c ≠ 61) : unqL (c :: l) = if stands c then (unqL l).map (c :: ·) else none := by
  rw [unqL_cons (List.cons_ne_nil _ _), unqS_else h]
  cases stands c <;> rfl
set_option maxHeartbeats 4000000 in
set_option maxRecDepth 100000 in
theorem unquote_any (s : Bs) (w : World) (hl : s.length ≤ 1000000) (hg : Ground w) :
    Calls Tryz.prog 253 #[.string ⟨s.toArray⟩] w fun e w' => e = .returned (orForm (unquoteT s)) ∧ Below w.heap.size w w' := by
  have hS := splitS s [13, 10] w (by omega) (by decide) hg
  have hcnt : (Lib.split s [13, 10]).length ≤ 1000001 := by rw [split_len _ _ (by decide)]; have := count_le s [13, 10] (by decide); omega
  have hmem : ∀ x ∈ Lib.split s [13, 10], x.length ≤ 1000000 := fun x hx => Nat.le_trans (splitK_mem _ _ _ _ hx) hl
  have hT : Hid (unquoteT s = unqLines (Lib.split s [13, 10])) := Lib.hid rfl
  generalize Lib.split s [13, 10] = lines at hS hcnt hmem hT
  have Hmem := Lib.hid hmem; clear hmem
  go_enter Tryz.func253, Tryz.ntmps253
  go_wp2_with fail
  refine hS.mono ?_
  rintro e w1 ⟨rfl, rfl⟩
  go_wp2_with fail
  go_loopw [4, 15] (fun v i wr => ∃ (k : Nat) (done : Bs), i = .int .i64 k ∧ k ≤ lines.length ∧ OwnB wr (w.heap.size + 1) v done ∧ done.length ≤ k * 1000002 ∧ Blk wr w.heap.size (strRow lines) 9 ∧ (unqLines (lines.drop k)).map (done ++ ·) = unqLines lines ∧ Below w.heap.size w wr) (fun _ i _ => lines.length - (intOf i).toNat)
  case atStart => exact ⟨0, [], rfl, by omega, OwnG.nil _ _ _ _ _, by simp, Blk.new _ _ _, by simp, by go_grown⟩
  case round =>
    obtain ⟨k, done, rfl, hk, hown, hdl, hrow, htot, B⟩ := hrel
    have Htot := Lib.hid htot; clear htot
    have hlt0 := hrow.lt
    by_cases hlt : k < lines.length
    · have hx := Hmem.out lines[k] (List.getElem_mem _)
      have hy := bareOf_le lines[k]
      have HL := Lib.hid (show lines.drop k = lines[k] :: lines.drop (k + 1) from List.drop_eq_getElem_cons hlt)
      have hc : wr.cell? ⟨w.heap.size, k, none⟩ = some (.string ⟨(lines[k]).toArray⟩) := by rw [hrow.cell]; simp [strRow, hlt]
      have HT2 := Lib.hid (show (unqLines (lines[k] :: lines.drop (k + 1))).map (done ++ ·) = unqLines lines from by rw [← HL.out]; exact Htot.out)
      have hls : (!(lines.drop (k + 1)).isEmpty) = decide ((k : Int) + 1 < lines.length) := by
        by_cases h : k + 1 < lines.length
        · rw [decide_eq_true (by omega)]; simp; exact h
        · rw [decide_eq_false (by omega), show lines.drop (k + 1) = [] from List.drop_eq_nil_iff.2 (by omega)]; rfl
      have Hls := Lib.hid hls; clear hls HL Htot
      generalize lines[k] = x at hc hx hy HT2
      generalize hr : lines.drop (k + 1) = r at HT2 Hls
      have Hr := Lib.hid hr; clear hr
      go_wp2_with fail
      refine (trimR x [32, 9] _ (by omega) (by decide) (by decide)).mono ?_
      rintro e w2 ⟨rfl, hb2⟩
      have hrow := hrow.next hb2 hrow.lt
      have hown := hown.next hb2
      have B := B.trans (hb2.mono B.size)
      clear hb2 hc
      have hlen : (Lib.trimRightS x [32, 9]).length ≤ 9223372036854775807 := by have := trimR_le x [32, 9]; omega
      go_wp2_with fail
      refine (hasSuf _ [61] _ hlen).mono ?_
      rintro e w' ⟨rfl, rfl⟩
      go_wp2_with fail
      refine (trimSuf _ [61] _ hlen).mono ?_
      rintro e w' ⟨rfl, rfl⟩
      rw [show Lib.hasSuffix (Lib.trimRightS x [32, 9]) [61] = softOf x from rfl, show Lib.trimSuffix (Lib.trimRightS x [32, 9]) [61] = bareOf x from rfl]
      clear hlen
      have HT3 := Lib.hid (show unqLines (x :: r) = match unqL (bareOf x) with | none => none | some a => (unqLines r).map (a ++ (if softOf x || r.isEmpty then [] else [13, 10]) ++ ·) from rfl)
      generalize softOf x = soft at HT3 ⊢
      generalize bareOf x = y at hy HT3 ⊢
      obtain ⟨w1, rfl⟩ : ∃ w1 : World, w1 = w2 := ⟨_, rfl⟩
      have HF := Lib.hid (show unqL y = none → unquoteT s = none from fun h => by rw [hT.out, ← HT2.out, HT3.out, h]; rfl)
      go_wp2_with fail
      obtain ⟨w0, rfl⟩ : ∃ w0 : World, w0 = w1 := ⟨_, rfl⟩
      go_loopw [4, 9] (fun v i wx => ∃ (j : Nat) (d : Bs), i = .int .i64 j ∧ j ≤ y.length ∧ OwnB wx (w.heap.size + 1) v (done ++ d) ∧ d.length ≤ j ∧ Blk wx w.heap.size (strRow lines) 9 ∧ (unqL (y.drop j)).map (d ++ ·) = unqL y ∧ Below w.heap.size w wx) (fun _ i _ => y.length - (intOf i).toNat)
      case atStart => exact ⟨0, [], rfl, by omega, by rw [List.append_nil]; exact hown, by simp, hrow, by simp, B⟩
      case round =>
        clear hown hrow B hlt0
        obtain ⟨j, d, rfl, hj, hown, hdd, hrow, hty, B⟩ := hrel
        have Hty := Lib.hid hty; clear hty
        have hlt0 := hrow.lt
        have hlen : (done ++ d).length ≤ 1000010000000 := by simp; omega
        by_cases hjl : j < y.length
        · have HY := Lib.hid (show y.drop j = y[j] :: y.drop (j + 1) from List.drop_eq_getElem_cons hjl)
          by_cases h61 : y[j] = 61
          · by_cases h2 : j + 2 < y.length
            · have HY2 := Lib.hid (show y.drop j = 61 :: y[j + 1] :: y[j + 2] :: y.drop (j + 3) from by rw [HY.out, h61, List.drop_eq_getElem_cons (show j + 1 < y.length by omega), List.drop_eq_getElem_cons (show j + 1 + 1 < y.length by omega)])
              have i1 : (j : Int) + 1 < y.length := by omega
              have i2 : (j : Int) + 2 < y.length := by omega
              have gA := digitV_bd y[j + 1]
              have gB := digitV_bd y[j + 2]
              have HS := Lib.hid (show unqS (61 :: y[j + 1] :: y[j + 2] :: y.drop (j + 3)) = if 0 ≤ digitV y[j + 1] ∧ 0 ≤ digitV y[j + 2] then some ((digitV y[j + 1] * 16 + digitV y[j + 2]).toNat.toUInt8, y.drop (j + 3)) else none from rfl)
              have hCA := fun W => digit_any y[j + 1] W
              have hCB := fun W => digit_any y[j + 2] W
              generalize hvA : digitV y[j + 1] = A at gA HS hCA
              generalize hvB : digitV y[j + 2] = Bv at gB HS hCB
              clear hvA hvB
              have HY3 := Lib.hid (show unqL (y.drop j) = match unqS (y.drop j) with | none => none | some (c, z) => (unqL z).map (c :: ·) from unqL_cons (by rw [HY.out]; exact List.cons_ne_nil _ _))
              go_wp2_with fail
              refine (hCA _).mono ?_
              rintro e w' ⟨rfl, rfl⟩
              by_cases hA : 0 ≤ A
              · go_wp2_with fail
                refine (hCB _).mono ?_
                rintro e w' ⟨rfl, rfl⟩
                by_cases hB : 0 ≤ Bv
                · obtain ⟨D, hD1, hD2⟩ : ∃ D : UInt8, (A * 16 + Bv).toNat.toUInt8 = D ∧ A * 16 + Bv = (D.toNat : Int) := ⟨_, rfl, by simp; omega⟩
                  have hYD : unqL (y.drop j) = (unqL (y.drop (j + 3))).map (D :: ·) := by rw [HY3.out, HY2.out, HS.out, if_pos ⟨hA, hB⟩, hD1]
                  have HYD := Lib.hid hYD; clear hYD hD1
                  have o4 := or64_4 A Bv hA (by omega) hB (by omega)
                  have hD256 : (D.toNat : Int) < 256 := by have := D.toNat_lt; omega
                  have z1 : IntKind.i64.wrap (A * 16) = A * 16 := IntWalk.i64_in _ (by omega)
                  have z2 : IntKind.u8.wrap (D.toNat : Int) = (D.toNat : Int) := IntWalk.u8_in _ (by omega)
                  have s1 : IntKind.i64.wrap ((j : Int) + 1) = (j : Int) + 1 := IntWalk.i64_in _ (by omega)
                  have s2 : IntKind.i64.wrap ((j : Int) + 2) = (j : Int) + 2 := IntWalk.i64_in _ (by omega)
                  have s3 : 0 ≤ (j : Int) + 1 := by omega
                  have s4 : 0 ≤ (j : Int) + 2 := by omega
                  have s5 : ((j : Int) + 1).toNat = j + 1 := by omega
                  have s6 : ((j : Int) + 2).toNat = j + 2 := by omega
                  go_upto_region 15 with fail
                  go_cut [4] (fun v wx => OwnB wx (w.heap.size + 1) v (done ++ d ++ [D]) ∧ Blk wx w.heap.size (strRow lines) 9 ∧ Below w.heap.size w wx)
                  case first =>
                    go_region_law ((first
                      | (refine stepB (by rfl) _ _ (by rfl) (w.heap.size + 1) _ (done ++ d) [D] wr.heap.size 1 1 rfl (by decide) (by rfl) (by first | exact (hown.alloc _).drew | exact OwnB.alloc hown.drew _) (by rfl) (cell1d wr D _) (by simp; omega) (by simp; omega) ?_; intro v' w2 hown2 hb2)
                      | (go_simp; (first | (with_reducible refine (hCA _).mono ?_) | (with_reducible refine (hCB _).mono ?_)); rintro e w' ⟨rfl, rfl⟩)))
                    all_goals
                      go_wp2_with fail
                      go_meet
                      exact ⟨hown2, (hrow.alloc _).drew.next hb2 (Nat.lt_succ_self _), (B.alloc B.size _).drew.trans (hb2.mono (Nat.le_succ _))⟩
                  case rest =>
                    clear hown hrow B s1 s2 z1 z2 o4 hD2
                    obtain ⟨hown, hrow, B⟩ := hcut
                    go_wp2_with fail
                    go_roundw
                    case rel => exact ⟨j + 3, d ++ [D], by go_num, by omega, by rw [← List.append_assoc]; exact hown, by simp; omega, hrow, by rw [← Hty.out, HYD.out]; cases unqL (y.drop (j + 3)) <;> simp, B⟩
                    case measure => simp [intOf]; omega
                · have HN := Lib.hid (HF.out (by rw [← Hty.out, HY3.out, HY2.out, HS.out, if_neg (fun h => hB h.2)]; rfl))
                  go_wp2_with fail
                  refine (plain_any 61 _).mono ?_
                  rintro e w' ⟨rfl, rfl⟩
                  rw [show plainQ 61 = false from rfl]
                  go_wp2_with fail
                  refine bodyPost_ret (v := orForm none) (by simp [results, Tryz.results253, go_sem, orForm]) rfl ⟨by rw [HN.out], B⟩
              · have HN := Lib.hid (HF.out (by rw [← Hty.out, HY3.out, HY2.out, HS.out, if_neg (fun h => hA h.1)]; rfl))
                go_wp2_with fail
                refine (plain_any 61 _).mono ?_
                rintro e w' ⟨rfl, rfl⟩
                rw [show plainQ 61 = false from rfl]
                go_wp2_with fail
                refine bodyPost_ret (v := orForm none) (by simp [results, Tryz.results253, go_sem, orForm]) rfl ⟨by rw [HN.out], B⟩
            · have HN := Lib.hid (HF.out (by rw [← Hty.out, unqL_cons (by rw [HY.out]; exact List.cons_ne_nil _ _), HY.out, h61, unqS_short (by simp; omega)]; rfl))
              have i2 : (y.length : Int) ≤ (j : Int) + 2 := by omega
              go_wp2_with fail
              refine (plain_any 61 _).mono ?_
              rintro e w' ⟨rfl, rfl⟩
              rw [show plainQ 61 = false from rfl]
              go_wp2_with fail
              refine bodyPost_ret (v := orForm none) (by simp [results, Tryz.results253, go_sem, orForm]) rfl ⟨by rw [HN.out], B⟩
          · have HU := Lib.hid (show unqL (y.drop j) = if stands y[j] then (unqL (y.drop (j + 1))).map (y[j] :: ·) else none from by rw [HY.out]; exact unqL_else h61)
            have HSt := Lib.hid (stands_int y[j])
            have n61 : ((y[j].toNat : Int) == 61) = false := by rw [beq_eq_false_iff_ne]; intro h; exact h61 (UInt8.toNat_inj.1 (by simp; omega))
            have hc256 : (y[j].toNat : Int) < 256 := by have := y[j].toNat_lt; omega
            clear h61 HY
            go_upto_region 14 with fail
            generalize y[j] = c at HU HSt n61 hc256 ⊢
            go_upto_region 17 with fail
            go_cut [80] (fun t wx => t = .bool (stands c) ∧ wx = wr)
            case first =>
              go_wp2_with fail
              refine (plain_any c _).mono ?_
              rintro e w' ⟨rfl, rfl⟩
              generalize plainQ c = pc at HSt ⊢
              cases pc with
              | true =>
                go_wp2_with fail
                go_meet
                exact ⟨by rw [HSt.out]; rfl, rfl⟩
              | false =>
                by_cases h32 : ((c.toNat : Int) == 32) = true
                · go_wp2_with fail
                  go_meet
                  exact ⟨by rw [HSt.out, h32]; rfl, rfl⟩
                · have h32 := Bool.eq_false_iff.2 h32
                  by_cases h9 : ((c.toNat : Int) == 9) = true
                  · go_wp2_with fail
                    go_meet
                    exact ⟨by rw [HSt.out, h32, h9]; rfl, rfl⟩
                  · have h9 := Bool.eq_false_iff.2 h9
                    go_wp2_with fail
                    go_meet
                    exact ⟨by rw [HSt.out, h32, h9]; rfl, rfl⟩
            case rest =>
              obtain ⟨rfl, rfl⟩ := hcut
              clear HSt n61
              obtain ⟨wr, rfl⟩ : ∃ x : World, x = wc := ⟨_, rfl⟩
              generalize stands c = st at HU ⊢
              cases st with
              | false =>
                have HN := Lib.hid (HF.out (by rw [← Hty.out, HU.out]; rfl))
                go_wp2_with fail
                refine bodyPost_ret (v := orForm none) (by simp [results, Tryz.results253, go_sem, orForm]) rfl ⟨by rw [HN.out], B⟩
              | true =>
                go_wp2_with (at_builtin; refine appB rfl _ _ rfl (w.heap.size + 1) _ (done ++ d) [c] wr.heap.size 1 1 rfl rfl (hown.alloc _) rfl (cell1 wr c _) (by simp; omega) (by simp; omega) ?_; intro v' w2 hown2 hb2)
                go_wp2_with fail
                go_roundw
                case rel => exact ⟨j + 1, d ++ [c], by go_num, by omega, by rw [← List.append_assoc]; exact hown2, by simp; omega, (hrow.alloc _).next hb2 (by omega), by rw [← Hty.out, HU.out, if_pos rfl]; cases unqL (y.drop (j + 1)) <;> simp, (B.alloc B.size _).trans (hb2.mono (by omega))⟩
                case measure => simp [intOf]; omega
        · obtain rfl : j = y.length := by omega
          have hyd : unqL y = some d := by rw [← Hty.out, List.drop_length]; simp [unqL, unqF]
          have HE := Lib.hid (show unqLines lines = (unqLines r).map (done ++ d ++ (if soft || r.isEmpty then [] else [13, 10]) ++ ·) from by rw [← HT2.out, HT3.out, hyd]; cases unqLines r <;> simp)
          clear hyd
          have hdl2 : (done ++ d).length ≤ k * 1000002 + 1000000 := by simp; omega
          generalize done ++ d = dd at hown hdl2 hlen HE
          have HR := Lib.hid (show r = lines.drop (k + 1) from Hr.out.symm)
          cases soft with
          | true =>
            have HE2 := Lib.hid (show (unqLines r).map (dd ++ ·) = unqLines lines from by rw [HE.out]; cases unqLines r <;> simp)
            clear HE
            go_wp2_with fail
            go_roundw
            case rel => exact ⟨k + 1, dd, by go_num, by omega, hown, by omega, hrow, by rw [← HR.out]; exact HE2.out, B⟩
            case measure => simp [intOf]; omega
          | false =>
            by_cases hlast : k + 1 < lines.length
            · have hre : r.isEmpty = false := by rw [HR.out]; simp; omega
              have HE2 := Lib.hid (show (unqLines r).map ((dd ++ [13, 10]) ++ ·) = unqLines lines from by rw [HE.out, hre]; cases unqLines r <;> simp)
              clear HE hre
              go_wp2_with (at_builtin; refine appBS rfl _ _ rfl (w.heap.size + 1) _ dd [13, 10] rfl hown rfl (by simp; omega) (by omega) ?_; intro v' w2 hown2 hb2)
              go_wp2_with fail
              go_roundw
              case rel => exact ⟨k + 1, dd ++ [13, 10], by go_num, by omega, hown2, by simp; omega, hrow.next hb2 (by omega), by rw [← HR.out]; exact HE2.out, B.trans (hb2.mono (by omega))⟩
              case measure => simp [intOf]; omega
            · have hre : r.isEmpty = true := by rw [HR.out]; simp; omega
              have HE2 := Lib.hid (show (unqLines r).map (dd ++ ·) = unqLines lines from by rw [HE.out, hre]; cases unqLines r <;> simp)
              clear HE hre
              go_wp2_with fail
              go_roundw
              case rel => exact ⟨k + 1, dd, by go_num, by omega, hown, by omega, hrow, by rw [← HR.out]; exact HE2.out, B⟩
              case measure => simp [intOf]; omega
    · obtain rfl : k = lines.length := by omega
      have hd : unquoteT s = some done := by rw [hT.out, ← Htot.out]; simp [unqLines]
      have Hd := Lib.hid hd; clear hd
      have hcv := hown.text
      obtain ⟨va, vc, rfl, _⟩ := hown.shape
      go_wp2_with fail
      refine bodyPost_ret (v := orForm (some done)) (by simp [results, Tryz.results253, go_sem, orForm]) rfl ⟨by rw [Hd.out], B⟩
theorem unpackK_ok {c : UInt8} {v n p k q : Nat} (h : PadOk v n p) (hk : unpackK c n p = some (k, q)) (hb : idx64 c < 64) : k < 64 ∧ q ≤ 2 ∧ ((n + 1) % 4 = 1 → q = 0) ∧ ((n + 1) % 4 = 2 → q = 0) ∧ ((n + 1) % 4 = 3 → q ≤ 1) := by
  obtain ⟨h1, h2, h3, h4, _⟩ := h
  unfold unpackK at hk
  split at hk
  · simp at hk; omega
  · split at hk
    · cases hk
    · simp at hk; omega
theorem unpackE_ok {v n p : Nat} {o : Bs} {v' n' p' : Nat} (hv : v < 262144 * 64) (h1 : n % 4 = 1 → v < 64) (h2 : n % 4 = 2 → v < 4096) (h3 : n % 4 = 3 → v < 262144) (hp : p ≤ 2) (hp1 : n % 4 = 1 → p = 0) (hp2 : n % 4 = 2 → p = 0) (hp3 : n % 4 = 3 → p ≤ 1) (he : unpackE v n p = some (o, v', n', p')) : PadOk v' n' p' ∧ o.length ≤ 3 := by
  unfold unpackE at he
  split at he
  · simp at he
    obtain ⟨rfl, rfl, rfl, rfl⟩ := he
    refine ⟨⟨hp, hp1, hp2, hp3, ?_, ?_, h1, h2⟩, by simp⟩ <;> omega
  · split at he
    · cases he
    · simp at he
      obtain ⟨rfl, rfl, rfl, rfl⟩ := he
      refine ⟨⟨hp, hp1, hp2, hp3, ?_, ?_, ?_, ?_⟩, by simp⟩ <;> omega
theorem gapB_all : ((List.range 256).all fun n => gapB n.toUInt8 == decide (0 ≤ Lib.indexByte [13, 10, 32, 9] n.toUInt8)) = true := by kernel_rfl
theorem gapB_int (c : UInt8) : gapB c = decide (0 ≤ Lib.indexByte [13, 10, 32, 9] c) := by
  have := List.all_eq_true.1 gapB_all c.toNat (List.mem_range.2 c.toNat_lt)
  rw [show c.toNat.toUInt8 = c by simp] at this
  exact beq_iff_eq.1 this
theorem wrapU8 (n : Nat) : IntKind.u8.wrap (n : Int) = (n.toUInt8.toNat : Int) := by
  rw [IntKind.wrap_u8]; simp
theorem cell3 (w : World) (a b c : UInt8) (t : TypeId) (i : Nat) (h : i < 3) : (w.alloc (.cells #[.int .u8 (a.toNat : Int), .int .u8 (b.toNat : Int), .int .u8 (c.toNat : Int)] t)).cell? ⟨w.heap.size, i, none⟩ = some (.int .u8 (([a, b, c] : Bs)[i].toNat : Int)) := by
  rw [(Blk.new w #[.int .u8 (a.toNat : Int), .int .u8 (b.toNat : Int), .int .u8 (c.toNat : Int)] t).cell]
  match i, h with
  | 0, _ => rfl
  | 1, _ => rfl
  | 2, _ => rfl
theorem cell32 (w : World) (a b c : UInt8) (t : TypeId) (i : Nat) (h : i < [a, b].length) : (w.alloc (.cells #[.int .u8 (a.toNat : Int), .int .u8 (b.toNat : Int), .int .u8 (c.toNat : Int)] t)).cell? ⟨w.heap.size, i, none⟩ = some (.int .u8 ([a, b][i].toNat : Int)) := by
  rw [(Blk.new w #[.int .u8 (a.toNat : Int), .int .u8 (b.toNat : Int), .int .u8 (c.toNat : Int)] t).cell]
  match i, h with
  | 0, _ => rfl
  | 1, _ => rfl
theorem cell31 (w : World) (a b c : UInt8) (t : TypeId) (i : Nat) (h : i < [a].length) : (w.alloc (.cells #[.int .u8 (a.toNat : Int), .int .u8 (b.toNat : Int), .int .u8 (c.toNat : Int)] t)).cell? ⟨w.heap.size, i, none⟩ = some (.int .u8 ([a][i].toNat : Int)) := by
  rw [(Blk.new w #[.int .u8 (a.toNat : Int), .int .u8 (b.toNat : Int), .int .u8 (c.toNat : Int)] t).cell]
  match i, h with
  | 0, _ => rfl
set_option maxHeartbeats 4000000 in
set_option maxRecDepth 100000 in
theorem unpack_any (s : Bs) (w : World) (hl : s.length ≤ 1000000000000) :
    Calls Tryz.prog 252 #[.string ⟨s.toArray⟩] w fun e w' => e = .returned (orForm (unpackT s)) ∧ Below w.heap.size w w' := by
  have hT : Hid (unpackT s = unpackL s 0 0 0) := Lib.hid rfl
  go_enter Tryz.func252, Tryz.ntmps252
  go_wp2_with fail
  go_loopw [4, 5, 6, 7, 13] (fun o v n p i wr => ∃ (k V N P : Nat) (done : Bs), i = .int .i64 k ∧ k ≤ s.length ∧ v = .int .i64 V ∧ n = .int .i64 N ∧ p = .int .i64 P ∧ N ≤ k ∧ PadOk V N P ∧ OwnB wr w.heap.size o done ∧ done.length ≤ 3 * k ∧ (unpackL (s.drop k) V N P).map (done ++ ·) = unpackT s ∧ Below w.heap.size w wr) (fun _ _ _ _ i _ => s.length - (intOf i).toNat)
  case atStart => exact ⟨0, 0, 0, 0, [], rfl, by omega, rfl, rfl, rfl, by omega, ⟨by omega, by omega, by omega, by omega, by omega, by omega, by omega, by omega⟩, OwnG.nil _ _ _ _ _, by simp, by simp [unpackT], Below.refl _ _⟩
  case round =>
    obtain ⟨k, V, N, P, done, rfl, hk, rfl, rfl, rfl, hNk, hpad, hown, hdl, htot, B⟩ := hrel
    have Htot := Lib.hid htot; clear htot
    have Hpad := Lib.hid hpad
    have hV : V < 262144 := hpad.2.2.2.2.1
    have hP : P ≤ 2 := hpad.1
    clear hpad
    by_cases hlt : k < s.length
    · have HL := Lib.hid (show s.drop k = s[k] :: s.drop (k + 1) from List.drop_eq_getElem_cons hlt)
      have HT2 := Lib.hid (show (match unpackS s[k] V N P with | none => none | some (o, v', n', p') => (unpackL (s.drop (k + 1)) v' n' p').map (o ++ ·)).map (done ++ ·) = unpackT s from by rw [← Htot.out, HL.out]; rfl)
      clear HL Htot
      go_upto_region 7 with fail
      have hgap := Lib.hid (gapB_int s[k])
      have hidx := idx64_bd s[k]
      have hc256 : (s[k].toNat : Int) < 256 := by have := s[k].toNat_lt; omega
      generalize s[k] = c at HT2 hgap hidx hc256 ⊢
      have hU : c.toNat.toUInt8 = c := by simp
      have HU := Lib.hid hU; clear hU
      go_wp2_with fail
      refine (idxByte [13, 10, 32, 9] _ c (by rw [← HU.out]; simp) _).mono ?_
      rintro e w' ⟨rfl, rfl⟩
      by_cases hg : 0 ≤ Lib.indexByte [13, 10, 32, 9] c
      · have HE := Lib.hid (show unpackS c V N P = some ([], V, N, P) from by unfold unpackS; rw [if_pos (by rw [hgap.out]; exact decide_eq_true hg)])
        generalize Lib.indexByte [13, 10, 32, 9] c = q at hg ⊢
        go_wp2_with fail
        go_roundw
        case rel => exact ⟨k + 1, V, N, P, done, by go_num, by omega, rfl, rfl, rfl, by omega, Hpad.out, hown, by omega, by rw [← HT2.out, HE.out]; show _ = ((unpackL (s.drop (k + 1)) V N P).map ([] ++ ·)).map (done ++ ·); cases unpackL (s.drop (k + 1)) V N P <;> simp, B⟩
        case measure => simp [intOf]; omega
      · have HE := Lib.hid (show unpackS c V N P = match unpackK c N P with | none => none | some (k, p) => unpackE (V * 64 + k) (N + 1) p from by unfold unpackS; rw [if_neg (by rw [hgap.out]; simpa using hg)]; rfl)
        generalize Lib.indexByte [13, 10, 32, 9] c = q at hg ⊢
        go_wp2_with fail
        refine (idxByte b64 _ c (by rw [← HU.out]; simp) _).mono ?_
        rintro e w' ⟨rfl, rfl⟩
        rw [show Lib.indexByte b64 c = idx64 c from rfl]
        have HKd := Lib.hid (show unpackK c N P = if c = 61 ∧ 2 ≤ N % 4 then some (0, P + 1) else if idx64 c < 0 ∨ 0 < P then none else some ((idx64 c).toNat, P) from rfl)
        have h61i : c = 61 → idx64 c = -1 := fun h => by rw [h]; rfl
        have H61i := Lib.hid h61i; clear h61i
        generalize hix : idx64 c = ix at hidx HKd H61i ⊢
        have Hix := Lib.hid hix; clear hix
        have HF := Lib.hid (show unpackK c N P = none → unpackT s = none from fun h => by rw [← HT2.out, HE.out, h]; rfl)
        go_upto_block 2 with fail
        go_cut [7, 10] (fun p x wx => ∃ kk q : Nat, x = .int .i64 kk ∧ p = .int .i64 q ∧ unpackK c N P = some (kk, q) ∧ wx = wr)
        case first =>
          by_cases h61 : c = 61
          · have hix : ix = -1 := H61i.out h61
            subst h61
            by_cases h2 : 2 ≤ N % 4
            · have h2' : (2 : Int) ≤ (N : Int) % 4 := by omega
              have HK2 := Lib.hid (show unpackK 61 N P = some (0, P + 1) from by rw [HKd.out, if_pos ⟨rfl, h2⟩])
              go_wp2_with fail
              go_meet
              exact ⟨0, P + 1, rfl, by go_num, HK2.out, rfl⟩
            · have h2' : (N : Int) % 4 < 2 := by omega
              have HN := Lib.hid (HF.out (by rw [HKd.out, if_neg (fun h => h2 h.2), if_pos (Or.inl (by omega))]))
              subst hix
              go_wp2_with fail
              refine bodyPost_ret (v := orForm none) (by simp [results, Tryz.results252, go_sem, orForm]) rfl ⟨by rw [HN.out], B⟩
          · have n61 : ((c.toNat : Int) == 61) = false := by rw [beq_eq_false_iff_ne]; intro h; exact h61 (UInt8.toNat_inj.1 (by simp; omega))
            by_cases hbad : ix < 0 ∨ 0 < P
            · have HN := Lib.hid (HF.out (by rw [HKd.out, if_neg (fun h => h61 h.1), if_pos hbad]))
              clear h61
              by_cases hi : ix < 0
              · go_wp2_with fail
                refine bodyPost_ret (v := orForm none) (by simp [results, Tryz.results252, go_sem, orForm]) rfl ⟨by rw [HN.out], B⟩
              · have hP0 : (0 : Int) < P := by omega
                clear hbad
                go_wp2_with fail
                refine bodyPost_ret (v := orForm none) (by simp [results, Tryz.results252, go_sem, orForm]) rfl ⟨by rw [HN.out], B⟩
            · have HK2 := Lib.hid (show unpackK c N P = some (ix.toNat, P) from by rw [HKd.out, if_neg (fun h => h61 h.1), if_neg hbad])
              have hi : 0 ≤ ix := by omega
              have hP0 : P = 0 := by omega
              clear h61 hbad
              obtain ⟨m, rfl⟩ : ∃ m : Nat, ix = m := ⟨ix.toNat, by omega⟩
              subst hP0
              go_wp2_with fail
              go_meet
              exact ⟨m, 0, rfl, rfl, by rw [HK2.out]; simp, rfl⟩
        case rest =>
          obtain ⟨kk, Q, rfl, rfl, hKK, rfl⟩ := hcut
          obtain ⟨wr, rfl⟩ : ∃ x : World, x = wc := ⟨_, rfl⟩
          have hok := unpackK_ok Hpad.out hKK (by rw [Hix.out]; exact hidx.2)
          have HT3 := Lib.hid (show (match unpackE (V * 64 + kk) (N + 1) Q with | none => none | some (o, v', n', p') => (unpackL (s.drop (k + 1)) v' n' p').map (o ++ ·)).map (done ++ ·) = unpackT s from by rw [← HT2.out, HE.out, hKK])
          clear HT2 HE hKK HF HKd H61i Hix hidx
          obtain ⟨hk64, hQ, hq1, hq2, hq3⟩ := hok
          have hv1 : (N + 1) % 4 = 1 → V * 64 + kk < 64 := fun h => by have := Hpad.out.2.2.2.2.2.1 (by omega); omega
          have hv2 : (N + 1) % 4 = 2 → V * 64 + kk < 4096 := fun h => by have := Hpad.out.2.2.2.2.2.2.1 (by omega); omega
          have hv3 : (N + 1) % 4 = 3 → V * 64 + kk < 262144 := fun h => by have := Hpad.out.2.2.2.2.2.2.2 (by omega); omega
          obtain ⟨V2, hV2⟩ : ∃ V2 : Nat, V * 64 + kk = V2 := ⟨_, rfl⟩
          have o6 : bits .or .i64 ((V : Int) * 64) kk = (V2 : Int) := (or64_6 V kk (by omega) (by omega) (by omega) (by omega)).trans (by omega)
          have hV2b : V2 < 16777216 := by omega
          have HOK := Lib.hid (fun (o : Bs) (v' n' p' : Nat) (h : unpackE V2 (N + 1) Q = some (o, v', n', p')) => unpackE_ok (o := o) (v' := v') (n' := n') (p' := p') (show V2 < 262144 * 64 by omega) (by rw [← hV2]; exact hv1) (by rw [← hV2]; exact hv2) (by rw [← hV2]; exact hv3) hQ hq1 hq2 hq3 h)
          rw [hV2] at HT3
          clear hq1 hq2 hq3 hv1 hv2 hv3 hV2 Hpad hP
          have HE := Lib.hid (show unpackE V2 (N + 1) Q = if 0 < (N + 1) % 4 then some ([], V2, N + 1, Q) else if Q = 1 ∧ V2 % 256 ≠ 0 ∨ Q = 2 ∧ V2 % 65536 ≠ 0 then none else some ([(V2 / 65536).toUInt8, (V2 / 256).toUInt8, V2.toUInt8].take (3 - Q), 0, N + 1, Q) from rfl)
          by_cases hm : 0 < (N + 1) % 4
          · have hm' : (0 : Int) < ((N : Int) + 1) % 4 := by omega
            have HE2 := Lib.hid (show unpackE V2 (N + 1) Q = some ([], V2, N + 1, Q) from by rw [HE.out, if_pos hm])
            have HR2 := Lib.hid (HOK.out _ _ _ _ HE2.out).1
            have HR3 := Lib.hid (show (unpackL (s.drop (k + 1)) V2 (N + 1) Q).map (done ++ ·) = unpackT s from by rw [← HT3.out, HE2.out]; show _ = ((unpackL (s.drop (k + 1)) V2 (N + 1) Q).map ([] ++ ·)).map (done ++ ·); cases unpackL (s.drop (k + 1)) V2 (N + 1) Q <;> simp)
            clear HE HE2 HT3 HOK hm
            go_wp2_with fail
            go_roundw
            case rel => exact ⟨k + 1, V2, N + 1, Q, done, by go_num, by omega, rfl, by go_num, rfl, by omega, HR2.out, hown, by omega, HR3.out, B⟩
            case measure => simp [intOf]; omega
          · have hm' : ((N : Int) + 1) % 4 = 0 := by omega
            have HX := Lib.hid (show (Q = 1 ∧ V2 % 256 ≠ 0 ∨ Q = 2 ∧ V2 % 65536 ≠ 0) → unpackT s = none from fun h => by rw [← HT3.out, HE.out, if_neg hm, if_pos h]; rfl)
            have HK := Lib.hid (show ¬ (Q = 1 ∧ V2 % 256 ≠ 0 ∨ Q = 2 ∧ V2 % 65536 ≠ 0) → PadOk 0 (N + 1) Q ∧ (unpackL (s.drop (k + 1)) 0 (N + 1) Q).map ((done ++ [(V2 / 65536).toUInt8, (V2 / 256).toUInt8, V2.toUInt8].take (3 - Q)) ++ ·) = unpackT s from fun h => by
              have he : unpackE V2 (N + 1) Q = some ([(V2 / 65536).toUInt8, (V2 / 256).toUInt8, V2.toUInt8].take (3 - Q), 0, N + 1, Q) := by rw [HE.out, if_neg hm, if_neg h]
              refine ⟨(HOK.out _ _ _ _ he).1, ?_⟩
              rw [← HT3.out, he]
              show _ = ((unpackL (s.drop (k + 1)) 0 (N + 1) Q).map (_ ++ ·)).map (done ++ ·)
              cases unpackL (s.drop (k + 1)) 0 (N + 1) Q <;> simp)
            have z1 := wrapU8 (V2 / 65536)
            have z2 := wrapU8 (V2 / 256)
            have z3 := wrapU8 V2
            rw [show ((V2 / 65536 : Nat) : Int) = (V2 : Int) / 65536 from by omega] at z1
            rw [show ((V2 / 256 : Nat) : Int) = (V2 : Int) / 256 from by omega] at z2
            have a1 := and64_255 V2 (by omega) (by omega)
            have a2 := and64_65535 V2 (by omega) (by omega)
            clear HE HT3 HOK hm
            generalize (V2 / 65536).toUInt8 = D1 at z1 HK
            generalize (V2 / 256).toUInt8 = D2 at z2 HK
            generalize V2.toUInt8 = D3 at z3 HK
            obtain rfl | rfl | rfl : Q = 0 ∨ Q = 1 ∨ Q = 2 := by omega
            · have HR2 := Lib.hid (HK.out (by simp [*]))
              go_wp2_with (at_builtin; refine appB rfl _ _ rfl w.heap.size _ done [D1, D2, D3] wr.heap.size 3 3 rfl rfl (hown.alloc _) rfl (fun i hi => cell3 wr D1 D2 D3 _ i hi) (by simp; omega) (by have := B.size; simp; omega) ?_; intro v' w2 hown2 hb2)
              go_wp2_with fail
              go_roundw
              case rel => exact ⟨k + 1, 0, N + 1, 0, done ++ [D1, D2, D3], by go_num, by omega, rfl, by go_num, rfl, by omega, HR2.out.1, hown2, by simp; omega, HR2.out.2, (B.alloc B.size _).trans hb2⟩
              case measure => simp [intOf]; omega
            · by_cases h2 : V2 % 256 = 0
              · have b1 : ((V2 : Int) % 256 != 0) = false := by rw [bne_eq_false_iff_eq]; omega
                have HR2 := Lib.hid (HK.out (by simp [*]))
                go_wp2_with (at_builtin; refine appB rfl _ _ rfl w.heap.size _ done [D1, D2] wr.heap.size 2 3 rfl rfl (hown.alloc _) rfl (cell32 wr D1 D2 D3 _) (by simp; omega) (by have := B.size; simp; omega) ?_; intro v' w2 hown2 hb2)
                go_wp2_with fail
                go_roundw
                case rel => exact ⟨k + 1, 0, N + 1, 1, done ++ [D1, D2], by go_num, by omega, rfl, by go_num, rfl, by omega, HR2.out.1, hown2, by simp; omega, HR2.out.2, (B.alloc B.size _).trans hb2⟩
                case measure => simp [intOf]; omega
              · have b1 : ((V2 : Int) % 256 != 0) = true := by rw [bne_iff_ne]; omega
                have HN := Lib.hid (HX.out (by simp [*]))
                go_wp2_with fail
                refine bodyPost_ret (v := orForm none) (by simp [results, Tryz.results252, go_sem, orForm]) rfl ⟨by rw [HN.out], B⟩
            · by_cases h2 : V2 % 65536 = 0
              · have b1 : ((V2 : Int) % 65536 != 0) = false := by rw [bne_eq_false_iff_eq]; omega
                have HR2 := Lib.hid (HK.out (by simp [*]))
                go_wp2_with (at_builtin; refine appB rfl _ _ rfl w.heap.size _ done [D1] wr.heap.size 1 3 rfl rfl (hown.alloc _) rfl (cell31 wr D1 D2 D3 _) (by simp; omega) (by have := B.size; simp; omega) ?_; intro v' w2 hown2 hb2)
                go_wp2_with fail
                go_roundw
                case rel => exact ⟨k + 1, 0, N + 1, 2, done ++ [D1], by go_num, by omega, rfl, by go_num, rfl, by omega, HR2.out.1, hown2, by simp; omega, HR2.out.2, (B.alloc B.size _).trans hb2⟩
                case measure => simp [intOf]; omega
              · have b1 : ((V2 : Int) % 65536 != 0) = true := by rw [bne_iff_ne]; omega
                have HN := Lib.hid (HX.out (by simp [*]))
                go_wp2_with fail
                refine bodyPost_ret (v := orForm none) (by simp [results, Tryz.results252, go_sem, orForm]) rfl ⟨by rw [HN.out], B⟩
    · obtain rfl : k = s.length := by omega
      have HT2 := Lib.hid (show (if 0 < N % 4 then none else some done) = unpackT s from by rw [← Htot.out, List.drop_length]; unfold unpackL; split <;> simp)
      by_cases hN : 0 < N % 4
      · have hN' : (0 : Int) < (N : Int) % 4 := by omega
        have HN := Lib.hid (show unpackT s = none from by rw [← HT2.out, if_pos hN])
        go_wp2_with fail
        refine bodyPost_ret (v := orForm none) (by simp [results, Tryz.results252, go_sem, orForm]) rfl ⟨by rw [HN.out], B⟩
      · have hN' : (N : Int) % 4 = 0 := by omega
        have HN := Lib.hid (show unpackT s = some done from by rw [← HT2.out, if_neg hN])
        have hcv := hown.text
        obtain ⟨va, vc, rfl, _⟩ := hown.shape
        go_wp2_with fail
        refine bodyPost_ret (v := orForm (some done)) (by simp [results, Tryz.results252, go_sem, orForm]) rfl ⟨by rw [HN.out], B⟩
end Go.Proofs.YtignjjnflcpiiaaGreatDoor
