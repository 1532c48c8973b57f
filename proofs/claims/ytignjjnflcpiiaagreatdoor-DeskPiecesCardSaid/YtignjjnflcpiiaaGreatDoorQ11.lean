/- page's attribute: behind an attribute of a tag. Condition: the page takes at most 10^9 bytes; Laws on what package page computes: where the links of a page lie. No program, no condition. -/
import Derived.Test.YtignjjnflcpiiaaGreatDoorQ10
namespace Go.Proofs.YtignjjnflcpiiaaGreatDoor
open Go Go.RowKit
def attrA (s : Bs) (a : Nat) : Bool × Nat × List Lnk :=
  let kz := Lib.indexAny (s.drop (a + 1)) [32, 9, 13, 10, 47, 61, 62]
  if kz < 0 then (false, s.length, [])
  else
    let d := a + (1 + kz.toNat) + runN (s.drop (a + (1 + kz.toNat))) wsA
    if (s.drop d).head? = some 61 then valueN s (lowS ((s.drop a).take (1 + kz.toNat))) (d + 1 + runN (s.drop (d + 1)) wsA)
    else (decide (d < s.length), d, [])
theorem attrN_end {s : Bs} {i a : Nat} (ha : a = i + runN (s.drop i) [32, 9, 13, 10, 47]) (h : s.length ≤ a) : attrN s i = (false, a, []) := by
  unfold attrN
  simp only [← ha]
  rw [List.drop_of_length_le h]
theorem attrN_gt {s : Bs} {i a : Nat} (ha : a = i + runN (s.drop i) [32, 9, 13, 10, 47]) (h : a < s.length) (h62 : s[a] = 62) : attrN s i = (false, a + 1, []) := by
  unfold attrN
  simp only [← ha]
  rw [List.drop_eq_getElem_cons h]
  simp only
  rw [if_pos h62]
theorem attrN_else {s : Bs} {i a : Nat} (ha : a = i + runN (s.drop i) [32, 9, 13, 10, 47]) (h : a < s.length) (h62 : s[a] ≠ 62) : attrN s i = attrA s a := by
  unfold attrN attrA
  simp only [← ha]
  rw [List.drop_eq_getElem_cons h]
  simp only
  rw [if_neg h62]
theorem attrA_end {s : Bs} {a : Nat} {kz : Int} (hk : kz = Lib.indexAny (s.drop (a + 1)) [32, 9, 13, 10, 47, 61, 62]) (h : kz < 0) : attrA s a = (false, s.length, []) := by
  unfold attrA
  simp only [← hk]
  rw [if_pos h]
theorem attrA_no {s : Bs} {a n b d : Nat} (hk : (n : Int) = Lib.indexAny (s.drop (a + 1)) [32, 9, 13, 10, 47, 61, 62]) (hb : b = a + (1 + n)) (hd : d = b + runN (s.drop b) wsA) (h : (s.drop d).head? ≠ some 61) : attrA s a = (decide (d < s.length), d, []) := by
  unfold attrA
  simp only [← hk]
  rw [if_neg (by omega)]
  simp only [Int.toNat_natCast, ← hb, ← hd]
  rw [if_neg h]
theorem attrA_yes {s : Bs} {a n b d j : Nat} (hk : (n : Int) = Lib.indexAny (s.drop (a + 1)) [32, 9, 13, 10, 47, 61, 62]) (hb : b = a + (1 + n)) (hd : d = b + runN (s.drop b) wsA) (h : (s.drop d).head? = some 61) (hj : j = d + 1 + runN (s.drop (d + 1)) wsA) : attrA s a = valueN s (lowS ((s.drop a).take (1 + n))) j := by
  unfold attrA
  simp only [← hk]
  rw [if_neg (by omega)]
  simp only [Int.toNat_natCast, ← hb, ← hd]
  rw [if_pos h, ← hj]
theorem ne61 (c : UInt8) : (!((c.toNat : Int) == 61)) = !(decide (some c = some (61 : UInt8))) := by
  by_cases h : c = 61
  · subst h; rfl
  · rw [show ((c.toNat : Int) == 61) = false from u8_ne h, decide_eq_false (fun e => h (Option.some.inj e))]
theorem Gr.below {w w' : World} {B : Nat} (h : Gr w) (hB : 3 < B) (hb : Below B w w') : Gr w' := by
  refine ⟨h.g.below hb hB, fun k hk => ?_, fun k hk => ?_, ?_⟩
  · exact (hb.cell (p := ⟨1, k, none⟩) (by simp only; omega)).trans (h.signs k hk)
  · exact (hb.cell (p := ⟨2, k, none⟩) (by simp only; omega)).trans (h.ours k hk)
  · exact (hb.cell (p := ⟨0, 0, none⟩) (by simp only; omega)).trans h.et
theorem Sc.hB {B b : Nat} {s : Bs} {i : Nat} {out : List Lnk} {w : World} (h : Sc B b s i out w) : B ≤ b := by obtain ⟨_, _, _, hB⟩ := h; exact hB
theorem head_drop {s : Bs} {d : Nat} (h : d < s.length) : (s.drop d).head? = some s[d] := by rw [List.drop_eq_getElem_cons h]; rfl
theorem head_end {s : Bs} {d : Nat} (h : s.length ≤ d) : (s.drop d).head? = none := by rw [List.drop_of_length_le h]; rfl
def sndC : Code → Code
  | .seq _ c => c
  | c => c
noncomputable def attrTail : Code := sndC (sndC (sndC (sndC (sndC (sndC (sndC ((Tryz.f185.body).getD .skip)))))))
set_option maxHeartbeats 8000000 in
set_option maxRecDepth 100000 in
theorem attr_tail {u5 u6 u7 u8 u9 u10 u11 u12 u13 u14 u15 u16 u17 u18 u19 u20 u21 u22 u23 u24 u25 u26 u27 u28 u29 u30 u31 u32 u33 u34 u35 u36 u37 u38 u39 u40 u41 u42 u43 u44 u45 u46 u47 u48 u49 u50 u51 u52 u53 u54 u55 u56 u57 u58 u59 u60 u61 u62 u63 u64 u65 u66 u67 u68 u69 u70 u71 u72 u73 u74 u75 u76 u77 u78 u79 u80 u81 u82 u83 u84 u85 u86 u87 u88 u89 u90 u91 u92 u93 u94 u95 u96 u97 u98 u99 u100 u101 u102 u103 u104 u105 u106 u107 u108 u109 u110 u111 u112 u113 u114 u115 u116 u117 u118 u119 u120 u121 u122 u123 u124 u125 u126 u127 u128 u129 u130 u131 u132 u133 u134 u135 u136 u137 u138 u139 u140 u141 u142 u143 u144 u145 u146 u147 u148 u149 u150 u151 u152 u153 u154 u155 u156 u157 u158 u159 u160 u161 u162 u163 u164 u165 u166 u167 u168 u169 u170 u171 : Value} (B b : Nat) (s nm : Bs) (a n bb d : Nat) (out : List Lnk) (w w5 : World) (R : Bool × Nat × List Lnk) (hg : Gr w) (hgB : 3 < B) (H5 : Sc B b s a out w5) (B5 : Below B w w5) (hs : s.length ≤ 1000000000) (hol : out.length ≤ 1000000000)
    (hBb : B ≤ b) (_hlt : a < s.length) (_hn : n + 1 ≤ s.length - (a + 1)) (hbb : bb = a + (1 + n)) (hbl : bb ≤ s.length) (HBB : Hid (bb = a + (1 + n))) (HD : Hid (d = bb + runN (s.drop bb) wsA)) (hdl : d ≤ s.length) (HDL : Hid (d ≤ s.length)) (HN : Hid (nm = (s.drop a).take (1 + n)))
    (HK : Hid ((n : Int) = Lib.indexAny (s.drop (a + 1)) [32, 9, 13, 10, 47, 61, 62])) (HE : Hid (R = attrA s a)) :
    Code.wp Tryz.prog attrTail (bodyPost Tryz.prog Tryz.f185 fun e w' => e = .returned (.bool R.1) ∧ Sc B b s R.2.1 (out ++ R.2.2) w' ∧ Below B w w') ⟨List.toArray (Value.pointer (some ⟨b, 0, none⟩) :: undef :: Value.bool false :: Value.int .i64 (n : Int) :: Value.string ⟨(lowS nm).toArray⟩ :: u5 :: u6 :: u7 :: u8 :: u9 :: u10 :: u11 :: u12 :: u13 :: u14 :: u15 :: u16 :: u17 :: u18 :: u19 :: u20 :: u21 :: u22 :: u23 :: u24 :: u25 :: u26 :: u27 :: u28 :: u29 :: u30 :: u31 :: u32 :: u33 :: u34 :: u35 :: u36 :: u37 :: u38 :: u39 :: u40 :: u41 :: u42 :: u43 :: u44 :: u45 :: u46 :: u47 :: u48 :: u49 :: u50 :: u51 :: u52 :: u53 :: u54 :: u55 :: u56 :: u57 :: u58 :: u59 :: u60 :: u61 :: u62 :: u63 :: u64 :: u65 :: u66 :: u67 :: u68 :: u69 :: u70 :: u71 :: u72 :: u73 :: u74 :: u75 :: u76 :: u77 :: u78 :: u79 :: u80 :: u81 :: u82 :: u83 :: u84 :: u85 :: u86 :: u87 :: u88 :: u89 :: u90 :: u91 :: u92 :: u93 :: u94 :: u95 :: u96 :: u97 :: u98 :: u99 :: u100 :: u101 :: u102 :: u103 :: u104 :: u105 :: u106 :: u107 :: u108 :: u109 :: u110 :: u111 :: u112 :: u113 :: u114 :: u115 :: u116 :: u117 :: u118 :: u119 :: u120 :: u121 :: u122 :: u123 :: u124 :: u125 :: u126 :: u127 :: u128 :: u129 :: u130 :: u131 :: u132 :: u133 :: u134 :: u135 :: u136 :: u137 :: u138 :: u139 :: u140 :: u141 :: u142 :: u143 :: u144 :: u145 :: u146 :: u147 :: u148 :: u149 :: u150 :: u151 :: u152 :: u153 :: u154 :: u155 :: u156 :: u157 :: u158 :: u159 :: u160 :: u161 :: u162 :: u163 :: u164 :: u165 :: u166 :: u167 :: u168 :: u169 :: u170 :: u171 :: []), []⟩ w5 := by
  generalize hQ : bodyPost Tryz.prog Tryz.f185 _ = Q'
  delta attrTail Tryz.f185
  dsimp only [sndC, Option.getD]
  subst hQ
  go_upto_region 12 with fail
  go_cut [] (fun wx => Sc B b s bb out wx ∧ Below B w wx)
  case first =>
    have H' := Lib.hid H5
    obtain ⟨v, hk, _, _⟩ := H5
    have kc := hk.cell
    have kf := hk.free
    have HV := Lib.hid (show (a : Int) + (1 + (n : Int)) = ((bb : Nat) : Int) from by omega)
    have z1 : IntKind.i64.wrap (1 + (n : Int)) = 1 + (n : Int) := IntWalk.i64_in _ (by omega)
    have z2 : IntKind.i64.wrap ((a : Int) + (1 + (n : Int))) = (a : Int) + (1 + (n : Int)) := IntWalk.i64_in _ (by omega)
    clear hbb
    go_wp2_with fail
    go_meet
    exact ⟨by rw [HV.out]; exact H'.out.at bb, B5.setCell hBb _⟩
  case rest =>
  obtain ⟨H6, B6⟩ := hcut
  obtain ⟨w6, rfl⟩ : ∃ x : World, x = wc := ⟨_, rfl⟩
  clear H5 B5 hbb
  go_upto_region 13 with fail
  go_cut [] (fun wx => Sc B b s d out wx ∧ Below B w wx)
  case first =>
    have H' := Lib.hid H6
    obtain ⟨v, hk, _, _⟩ := H6
    have hkd := Blk.drew hk
    have kcd := hkd.cell
    have hRun := run_any (s.drop bb) [32, 9, 13, 10] w6.drew (by simp; omega) (by decide) (by decide)
    have HV := Lib.hid (show (bb : Int) + (runN (s.drop bb) [32, 9, 13, 10] : Int) = ((d : Nat) : Int) from by have := HD.out; rw [show wsA = [32, 9, 13, 10] from rfl] at this; omega)
    generalize runN (s.drop bb) [32, 9, 13, 10] = r at hRun HV
    clear HD
    have i0 := HV.out
    have i9 : d ≤ s.length := HDL.out
    have i1 : (bb : Int) ≤ s.length := by omega
    have i2 : (0 : Int) ≤ bb := by omega
    have z1 : IntKind.i64.wrap ((bb : Int) + (r : Int)) = (bb : Int) + (r : Int) := IntWalk.i64_in _ (by omega)
    clear i0
    go_region_law ((go_simp; with_reducible refine hRun.mono ?_; rintro e w10 ⟨rfl, hb⟩; have hk10 := Lib.hid (hkd.next hb hkd.lt); have kc10 := hk10.out.cell; have kf10 := hk10.out.free 1))
    all_goals
      go_wp2_with fail
      go_meet
      exact ⟨by rw [HV.out]; exact ((H'.out.drew).next hb).at d, (B6.drew.trans (hb.mono H'.out.base)).setCell hBb _⟩
  case rest =>
  obtain ⟨H7, B7⟩ := hcut
  obtain ⟨w7, rfl⟩ : ∃ x : World, x = wc := ⟨_, rfl⟩
  clear H6 B6
  go_upto_region 14 with fail
  go_cut [134] (fun t wx => t = .bool (!(decide ((s.drop d).head? = some 61))) ∧ Sc B b s d out wx ∧ Below B w wx)
  case first =>
    have H' := Lib.hid H7
    obtain ⟨v, hk, _, _⟩ := H7
    have kc := hk.cell
    by_cases hde : d = s.length
    · have HH := Lib.hid (head_end (s := s) (d := d) (Nat.le_of_eq hde.symm))
      have e0 : ((d : Int) == (s.length : Int)) = true := by rw [hde]; exact beq_self_eq_true _
      go_wp2_with fail
      go_quiet (fail)
      have hB := Go.below_drewN (Below.refl w7.heap.size w7) nq
      generalize w7.drewN nq = w8 at hB ⊢
      clear kc
      go_wp2_with fail
      go_meet
      exact ⟨by rw [HH.out]; rfl, H'.out.next hB, B7.trans (hB.mono H'.out.base)⟩
    · have hdlt : d < s.length := by omega
      have HH := Lib.hid (head_drop hdlt)
      have e0 : ((d : Int) == (s.length : Int)) = false := beq_eq_false_iff_ne.2 (by omega)
      have ha1 : (d : Int) < s.length := by omega
      have ha0 : (0 : Int) ≤ d := by omega
      go_wp2_with fail
      go_quiet (fail)
      have hB := Go.below_drewN (Below.refl w7.heap.size w7) nq
      generalize w7.drewN nq = w8 at hB ⊢
      clear kc
      go_wp2_with fail
      go_meet
      exact ⟨by rw [HH.out]; exact congrArg Value.bool (ne61 _), H'.out.next hB, B7.trans (hB.mono H'.out.base)⟩
  case rest =>
  obtain ⟨rfl, H8, B8⟩ := hcut
  obtain ⟨w8, rfl⟩ : ∃ x : World, x = wc := ⟨_, rfl⟩
  clear H7 B7
  by_cases h61 : (s.drop d).head? = some 61
  case neg =>
    have HF := Lib.hid (attrA_no HK.out HBB.out HD.out h61)
    rw [decide_eq_false h61]
    simp only [Bool.not_false]
    have H' := Lib.hid H8
    obtain ⟨v, hk, _, _⟩ := H8
    have kc := hk.cell
    have z1 : (((d : Int) < (s.length : Int)) ↔ d < s.length) := by omega
    go_wp2_with fail
    go_quiet (fail)
    have hB := Go.below_drewN (Below.refl w8.heap.size w8) nq
    generalize w8.drewN nq = w9 at hB ⊢
    clear kc
    go_wp2_with fail
    go_ret
    exact ⟨by rw [HE.out, HF.out]; simp, by rw [HE.out, HF.out, List.append_nil]; exact H'.out.next hB, B8.trans (hB.mono H'.out.base)⟩
  have hdlt : d < s.length := by
    rcases Nat.lt_or_ge d s.length with h | h
    · exact h
    · rw [head_end h] at h61; cases h61
  obtain ⟨j, hj⟩ : ∃ x, x = d + 1 + runN (s.drop (d + 1)) wsA := ⟨_, rfl⟩
  have HJ := Lib.hid hj
  have HF := Lib.hid (attrA_yes HK.out HBB.out HD.out h61 hj)
  rw [decide_eq_true h61]
  simp only [Bool.not_true]
  have hrj := runN_le (s.drop (d + 1)) wsA
  rw [List.length_drop] at hrj
  have HJL := Lib.hid (show j ≤ s.length from by omega)
  clear hj hrj h61 HK HBB HD
  go_upto_region 16 with fail
  go_cut [] (fun wx => Sc B b s (d + 1) out wx ∧ Below B w wx)
  case first =>
    have H' := Lib.hid H8
    obtain ⟨v, hk, _, _⟩ := H8
    have kc := hk.cell
    have kf := hk.free
    have z1 : IntKind.i64.wrap ((d : Int) + 1) = (d : Int) + 1 := IntWalk.i64_in _ (by omega)
    go_wp2_with fail
    go_meet
    exact ⟨H'.out.at (d + 1), B8.setCell hBb _⟩
  case rest =>
  obtain ⟨H9, B9⟩ := hcut
  obtain ⟨w9, rfl⟩ : ∃ x : World, x = wc := ⟨_, rfl⟩
  clear H8 B8
  obtain ⟨d1, hd1⟩ : ∃ x, x = d + 1 := ⟨_, rfl⟩
  rw [← hd1] at H9 HJ
  clear hd1
  go_upto_region 17 with fail
  go_cut [] (fun wx => Sc B b s j out wx ∧ Below B w wx)
  case first =>
    have H' := Lib.hid H9
    obtain ⟨v, hk, _, _⟩ := H9
    have hkd := Blk.drew hk
    have kcd := hkd.cell
    have hRun := run_any (s.drop d1) [32, 9, 13, 10] w9.drew (by simp; omega) (by decide) (by decide)
    have HV := Lib.hid (show (d1 : Int) + (runN (s.drop d1) [32, 9, 13, 10] : Int) = ((j : Nat) : Int) from by have := HJ.out; rw [show wsA = [32, 9, 13, 10] from rfl] at this; omega)
    generalize runN (s.drop d1) [32, 9, 13, 10] = r at hRun HV
    clear HJ
    have i0 := HV.out
    have i9 : j ≤ s.length := HJL.out
    have i1 : (d1 : Int) ≤ s.length := by omega
    have i2 : (0 : Int) ≤ d1 := by omega
    have z1 : IntKind.i64.wrap ((d1 : Int) + (r : Int)) = (d1 : Int) + (r : Int) := IntWalk.i64_in _ (by omega)
    clear i0
    go_region_law ((go_simp; with_reducible refine hRun.mono ?_; rintro e w10 ⟨rfl, hb⟩; have hk10 := Lib.hid (hkd.next hb hkd.lt); have kc10 := hk10.out.cell; have kf10 := hk10.out.free 1))
    all_goals
      go_wp2_with fail
      go_meet
      exact ⟨by rw [HV.out]; exact ((H'.out.drew).next hb).at j, (B9.drew.trans (hb.mono H'.out.base)).setCell hBb _⟩
  case rest =>
  obtain ⟨H10, B10⟩ := hcut
  obtain ⟨w10, rfl⟩ : ∃ x : World, x = wc := ⟨_, rfl⟩
  clear H9 B9
  have hP := pvalue_any B b s (lowS nm) j out w10 (hg.below hgB B10) H10 HJL.out hs hol
  have HF2 := Lib.hid (show R = valueN s (lowS nm) j from by rw [HE.out, HF.out, HN.out])
  clear HE HF HN
  go_wp2_with fail
  with_reducible refine hP.mono ?_
  rintro e w11 ⟨rfl, hS, hb⟩
  go_wp2_with fail
  go_ret
  exact ⟨by rw [HF2.out]; rfl, by rw [HF2.out]; exact hS, B10.trans hb⟩
set_option maxHeartbeats 8000000 in
set_option maxRecDepth 100000 in
theorem attr_any (B b : Nat) (s : Bs) (i : Nat) (out : List Lnk) (w : World) (hg : Gr w) (hgB : 3 < B) (h : Sc B b s i out w) (hi : i ≤ s.length) (hs : s.length ≤ 1000000000) (hol : out.length ≤ 1000000000) :
    Calls Tryz.prog 185 #[.pointer (some ⟨b, 0, none⟩)] w fun e w' => e = .returned (.bool (attrN s i).1) ∧ Sc B b s (attrN s i).2.1 (out ++ (attrN s i).2.2) w' ∧ Below B w w' := by
  have hBb : B ≤ b := h.hB
  have hbase := h.base
  have hr := runN_le (s.drop i) [32, 9, 13, 10, 47]
  rw [List.length_drop] at hr
  obtain ⟨a, ha⟩ : ∃ a, a = i + runN (s.drop i) [32, 9, 13, 10, 47] := ⟨_, rfl⟩
  have HA := Lib.hid ha
  have HAL := Lib.hid (show a ≤ s.length from by omega)
  clear ha
  go_enter Tryz.func185, Tryz.ntmps185
  go_upto_region 1 with fail
  go_cut [] (fun wx => Sc B b s a out wx ∧ Below B w wx)
  case first =>
    have H := Lib.hid h
    obtain ⟨v, hk, _, _⟩ := h
    have hkd := Blk.drew hk
    have kcd := hkd.cell
    have hRun := run_any (s.drop i) [32, 9, 13, 10, 47] w.drew (by simp; omega) (by decide) (by decide)
    have HV := Lib.hid (show (i : Int) + (runN (s.drop i) [32, 9, 13, 10, 47] : Int) = ((a : Nat) : Int) from by have := HA.out; omega)
    generalize runN (s.drop i) [32, 9, 13, 10, 47] = r at hr hRun HV
    clear HA
    have i1 : (i : Int) ≤ s.length := by omega
    have i2 : (0 : Int) ≤ i := by omega
    have z1 : IntKind.i64.wrap ((i : Int) + (r : Int)) = (i : Int) + (r : Int) := IntWalk.i64_in _ (by omega)
    go_region_law ((go_simp; with_reducible refine hRun.mono ?_; rintro e w10 ⟨rfl, hb⟩; have hk10 := Lib.hid (hkd.next hb hkd.lt); have kc10 := hk10.out.cell; have kf10 := hk10.out.free 1))
    all_goals
      go_wp2_with fail
      go_meet
      exact ⟨by rw [HV.out]; exact ((H.out.drew).next hb).at a, ((Below.refl B w).drew.trans (hb.mono hbase)).setCell hBb _⟩
  case rest =>
  obtain ⟨H1, B1⟩ := hcut
  obtain ⟨w1, rfl⟩ : ∃ x : World, x = wc := ⟨_, rfl⟩
  clear hr
  have hal := HAL.out
  clear h
  by_cases hae : a = s.length
  · have HE := Lib.hid (attrN_end HA.out (Nat.le_of_eq hae.symm))
    subst hae
    have H1' := Lib.hid H1
    obtain ⟨v, hk, _, _⟩ := H1
    have kc := hk.cell
    go_wp2_with fail
    go_quiet (fail)
    have hB := Go.below_drewN (Below.refl w1.heap.size w1) nq
    generalize w1.drewN nq = w2 at hB ⊢
    clear kc
    go_wp2_with fail
    go_ret
    exact ⟨by rw [HE.out]; rfl, by rw [HE.out, List.append_nil]; exact H1'.out.next hB, B1.trans (hB.mono H1'.out.base)⟩
  have hlt : a < s.length := by omega
  go_upto_region 2 with fail
  go_cut [31] (fun t wx => t = .bool false ∧ Sc B b s a out wx ∧ Below B w wx)
  case first =>
    have H1' := Lib.hid H1
    obtain ⟨v, hk, _, _⟩ := H1
    have kc := hk.cell
    have hne : ¬ ((a : Int) = (s.length : Int)) := by omega
    go_wp2_with fail
    go_quiet (fail)
    have hB := Go.below_drewN (Below.refl w1.heap.size w1) nq
    generalize w1.drewN nq = w2 at hB ⊢
    clear kc
    go_wp2_with fail
    go_meet
    exact ⟨congrArg Value.bool (beq_eq_false_iff_ne.2 hne), H1'.out.next hB, B1.trans (hB.mono H1'.out.base)⟩
  case rest =>
  obtain ⟨rfl, H2, B2⟩ := hcut
  obtain ⟨w2, rfl⟩ : ∃ x : World, x = wc := ⟨_, rfl⟩
  clear H1 B1
  go_upto_region 4 with fail
  go_cut [41] (fun t wx => t = .bool ((s[a].toNat : Int) == 62) ∧ Sc B b s a out wx ∧ Below B w wx)
  case first =>
    have H2' := Lib.hid H2
    obtain ⟨v, hk, _, _⟩ := H2
    have kc := hk.cell
    have ha1 : (a : Int) < s.length := by omega
    have ha0 : (0 : Int) ≤ a := by omega
    go_wp2_with fail
    go_quiet (fail)
    have hB := Go.below_drewN (Below.refl w2.heap.size w2) nq
    generalize w2.drewN nq = w3 at hB ⊢
    clear kc
    go_wp2_with fail
    go_meet
    exact ⟨rfl, H2'.out.next hB, B2.trans (hB.mono H2'.out.base)⟩
  case rest =>
  obtain ⟨rfl, H3, B3⟩ := hcut
  obtain ⟨w3, rfl⟩ : ∃ x : World, x = wc := ⟨_, rfl⟩
  clear H2 B2
  by_cases h62 : s[a] = 62
  · have HE := Lib.hid (attrN_gt HA.out hlt h62)
    have e62 : ((s[a].toNat : Int) == 62) = true := by rw [h62]; rfl
    have H3' := Lib.hid H3
    obtain ⟨v, hk, _, _⟩ := H3
    have kc := hk.cell
    have kf := hk.free
    go_wp2_with fail
    go_ret
    exact ⟨by rw [HE.out]; rfl, by rw [HE.out, List.append_nil]; exact H3'.out.at (a + 1), B3.setCell hBb _⟩
  have e62 : ((s[a].toNat : Int) == 62) = false := u8_ne h62
  have HE := Lib.hid (attrN_else HA.out hlt h62)
  clear HA
  generalize ((s[a].toNat : Int) == 62) = q at e62 ⊢
  subst e62
  have hg3 := hg.below hgB B3
  obtain ⟨kz, hkz⟩ : ∃ k, k = Lib.indexAny (s.drop (a + 1)) [32, 9, 13, 10, 47, 61, 62] := ⟨_, rfl⟩
  have HK := Lib.hid hkz
  go_upto_region 7 with fail
  go_cut [3] (fun t wx => t = .int .i64 kz ∧ Sc B b s a out wx ∧ Below B w wx)
  case first =>
    have H3' := Lib.hid H3
    obtain ⟨v, hk, _, _⟩ := H3
    have hkd := Blk.drew hk
    have kcd := hkd.cell
    have kc := hk.cell
    have i1 : (a : Int) + 1 ≤ s.length := by omega
    have i2 : (0 : Int) ≤ (a : Int) + 1 := by omega
    have i3 : ((a : Int) + 1).toNat = a + 1 := by omega
    have hIdx := idxAny (s.drop (a + 1)) [32, 9, 13, 10, 47, 61, 62] (by decide) (by decide) (by decide) (by simp; omega)
    rw [← hkz] at hIdx
    have K0 := (Below.refl w3.heap.size w3).drew
    have z1 : IntKind.i64.wrap ((a : Int) + 1) = (a : Int) + 1 := IntWalk.i64_in _ (by omega)
    go_region_held3 (fun W => (∀ k, W.cell? ⟨b, k, none⟩ = (#[.string ⟨s.toArray⟩, .int .i64 (a : Int), v])[k]?) ∧ Below w3.heap.size w3 W)
      (first
        | with_reducible exact ⟨kcd, K0⟩
        | with_reducible exact ⟨(hk.next K hk.lt).cell, K⟩)
      ((go_at_call 178; go_split_ands; with_reducible refine (hIdx _).mono ?_; rintro e w10 ⟨rfl, hb⟩; have K := belowStep hb (w0 := w3) (by assumption)))
    all_goals go_split_ands
    all_goals
      go_wp2_with fail
      go_meet
      exact ⟨by rw [HK.out], H3'.out.next (by assumption), B3.trans (Below.mono (B := w3.heap.size) (by assumption) H3'.out.base)⟩
  case rest =>
  obtain ⟨rfl, H4, B4⟩ := hcut
  obtain ⟨w4, rfl⟩ : ∃ x : World, x = wc := ⟨_, rfl⟩
  clear H3 B3
  have hkl := indexAny_le (s.drop (a + 1)) [32, 9, 13, 10, 47, 61, 62]
  rw [← hkz, List.length_drop] at hkl
  clear hkz
  by_cases hz : kz < 0
  · have HF := Lib.hid (attrA_end HK.out hz)
    have H4' := Lib.hid H4
    obtain ⟨v, hk, _, _⟩ := H4
    have kc := hk.cell
    have kf := hk.free
    go_wp2_with fail
    go_ret
    exact ⟨by rw [HE.out, HF.out]; rfl, by rw [HE.out, HF.out, List.append_nil]; exact H4'.out.at s.length, B4.setCell hBb _⟩
  obtain ⟨n, rfl⟩ : ∃ n : Nat, kz = (n : Int) := ⟨kz.toNat, by omega⟩
  have hn : n + 1 ≤ s.length - (a + 1) := by omega
  obtain ⟨bb, hbb⟩ : ∃ x, x = a + (1 + n) := ⟨_, rfl⟩
  have hbl : bb ≤ s.length := by omega
  have HBB := Lib.hid hbb
  obtain ⟨d, hdd⟩ : ∃ x, x = bb + runN (s.drop bb) wsA := ⟨_, rfl⟩
  have HD := Lib.hid hdd
  have hrd := runN_le (s.drop bb) wsA
  rw [List.length_drop] at hrd
  have hdl : d ≤ s.length := by omega
  have HDL := Lib.hid hdl
  obtain ⟨nm, hnm⟩ : ∃ x, x = (s.drop a).take (1 + n) := ⟨_, rfl⟩
  have HN := Lib.hid hnm
  clear hkl hz hdd hrd
  go_upto_region 11 with fail
  go_cut [4] (fun t wx => t = .string ⟨(lowS nm).toArray⟩ ∧ Sc B b s a out wx ∧ Below B w wx)
  case first =>
    have H' := Lib.hid H4
    obtain ⟨v, hk, _, _⟩ := H4
    have hkd := Blk.drew hk
    have kcd := hkd.cell
    have kc := hk.cell
    have hSm := fun W => small_any nm W (by rw [hnm]; simp; omega)
    have K0 := (Below.refl w4.heap.size w4).drew
    subst hnm
    clear hdl hbb HBB
    have z1 : IntKind.i64.wrap ((a : Int) + 1) = (a : Int) + 1 := IntWalk.i64_in _ (by omega)
    have z2 : IntKind.i64.wrap ((a : Int) + 1 + (n : Int)) = (a : Int) + 1 + (n : Int) := IntWalk.i64_in _ (by omega)
    have z3 : ((a : Int) + 1 + (n : Int)).toNat = a + 1 + n := by omega
    have z4 : (0 : Int) ≤ a := by omega
    have z5 : (a : Int) ≤ (a : Int) + 1 + (n : Int) := by omega
    have z6 : (a : Int) + 1 + (n : Int) ≤ (s.length : Int) := by omega
    have z7 : a + 1 + n - a = 1 + n := by omega
    go_region_held3 (fun W => (∀ k, W.cell? ⟨b, k, none⟩ = (#[.string ⟨s.toArray⟩, .int .i64 (a : Int), v])[k]?) ∧ Below w4.heap.size w4 W)
      (first
        | with_reducible exact ⟨kcd, K0⟩
        | with_reducible exact ⟨(hk.next K hk.lt).cell, K⟩)
      ((go_at_call 42; go_split_ands; with_reducible refine (hSm _).mono ?_; rintro e w10 ⟨rfl, hb⟩; have K := belowStep hb (w0 := w4) (by assumption)))
    all_goals go_split_ands
    all_goals
      go_wp2_with fail
      go_meet
      exact ⟨rfl, H'.out.next (by assumption), B4.trans (Below.mono (B := w4.heap.size) (by assumption) H'.out.base)⟩
  case rest =>
  obtain ⟨rfl, H5, B5⟩ := hcut
  rename_i hK
  refine hK _ _ ?_
  exact attr_tail B b s nm a n bb d out w wc (attrN s i) hg hgB H5 B5 hs hol hBb hlt hn hbb hbl HBB HD hdl HDL HN HK HE
end Go.Proofs.YtignjjnflcpiiaaGreatDoor
namespace Go.Proofs.YtignjjnflcpiiaaGreatDoor
open Go
def Lies : Nat → List Lnk → Nat → Prop
  | i, [], j => i ≤ j
  | i, x :: l, j => i ≤ x.1 ∧ Lies (x.1 + x.2.1) l j
theorem Lies.le : ∀ {l : List Lnk} {i j : Nat}, Lies i l j → i ≤ j
  | [], _, _, h => h
  | _ :: l, _, _, h => by have := Lies.le (l := l) h.2; have := h.1; omega
theorem Lies.wide : ∀ {l : List Lnk} {i j i' j' : Nat}, Lies i l j → i' ≤ i → j ≤ j' → Lies i' l j'
  | [], _, _, _, _, h, h1, h2 => by unfold Lies at h ⊢; omega
  | _ :: l, _, _, _, _, h, h1, h2 => ⟨by have := h.1; omega, Lies.wide (l := l) h.2 (Nat.le_refl _) h2⟩
theorem Lies.append : ∀ {l m : List Lnk} {i j k : Nat}, Lies i l j → Lies j m k → Lies i (l ++ m) k
  | [], _, _, _, _, h1, h2 => h2.wide h1 (Nat.le_refl _)
  | _ :: l, _, _, _, _, h1, h2 => ⟨h1.1, Lies.append (l := l) h1.2 h2⟩
theorem valueN_lies {s name : Bs} {i : Nat} (hi : i ≤ s.length) : Lies i (valueN s name i).2.2 (valueN s name i).2.1 ∧ (valueN s name i).2.1 ≤ s.length ∧ (valueN s name i).2.2.length ≤ 1 := by
  unfold valueN
  cases hd : s.drop i with
  | nil => exact ⟨Nat.le_refl _, hi, by simp⟩
  | cons c l =>
    have hlen : i + (l.length + 1) = s.length := by
      have := congrArg List.length hd
      rw [List.length_drop, List.length_cons] at this; omega
    have hK : ∀ q : Bool, (if q then Lib.indexByte l c else Lib.indexAny (c :: l) [32, 9, 13, 10, 62]) < 0 ∨ (0 ≤ (if q then Lib.indexByte l c else Lib.indexAny (c :: l) [32, 9, 13, 10, 62]) ∧ (if q then Lib.indexByte l c else Lib.indexAny (c :: l) [32, 9, 13, 10, 62]).toNat + 2 * (if q then 1 else 0) ≤ l.length + 1) := by
      intro q
      cases q with
      | true =>
        rcases indexByte_le l c with h | h
        · exact Or.inl h
        · right; simp; omega
      | false =>
        rcases indexAny_le (c :: l) [32, 9, 13, 10, 62] with h | h
        · exact Or.inl h
        · right; simp at h; simp; omega
    simp only
    have hK := hK (c == 34 || c == 39)
    generalize (c == 34 || c == 39) = q at hK ⊢
    generalize (if q = true then Lib.indexByte l c else Lib.indexAny (c :: l) [32, 9, 13, 10, 62]) = kz at hK ⊢
    have ho : (if q = true then 1 else 0) ≤ 1 := by split <;> omega
    generalize (if q = true then 1 else 0) = o at hK ho ⊢
    by_cases hz : kz < 0
    · rw [if_pos hz]; exact ⟨hi, Nat.le_refl _, by simp⟩
    · rw [if_neg hz]
      refine ⟨?_, by simp only; omega, by simp only; split <;> simp⟩
      simp only
      split
      · exact ⟨by simp only; omega, by simp only [Lies]; omega⟩
      · simp only [Lies]; omega
theorem attrN_lies {s : Bs} {i : Nat} (hi : i ≤ s.length) : Lies i (attrN s i).2.2 (attrN s i).2.1 ∧ (attrN s i).2.1 ≤ s.length ∧ (attrN s i).2.2.length ≤ (attrN s i).2.1 - i ∧ ((attrN s i).1 = true → i < (attrN s i).2.1) := by
  have hr := runN_le (s.drop i) [32, 9, 13, 10, 47]
  rw [List.length_drop] at hr
  obtain ⟨a, ha⟩ : ∃ a, a = i + runN (s.drop i) [32, 9, 13, 10, 47] := ⟨_, rfl⟩
  have hia : i ≤ a := by omega
  have hal : a ≤ s.length := by omega
  unfold attrN
  simp only [← ha]
  cases hd : s.drop a with
  | nil => exact ⟨hia, hal, by simp, by simp⟩
  | cons c l =>
    have hlen : a + (l.length + 1) = s.length := by
      have := congrArg List.length hd
      rw [List.length_drop, List.length_cons] at this; omega
    simp only
    by_cases h62 : c = 62
    · rw [if_pos h62]
      exact ⟨by simp only [Lies]; omega, by simp only; omega, by simp, by simp⟩
    rw [if_neg h62]
    have hk := indexAny_le l [32, 9, 13, 10, 47, 61, 62]
    generalize Lib.indexAny l [32, 9, 13, 10, 47, 61, 62] = kz at hk ⊢
    by_cases hz : kz < 0
    · rw [if_pos hz]; exact ⟨hi, Nat.le_refl _, by simp, by simp⟩
    rw [if_neg hz]
    obtain ⟨b, hb⟩ : ∃ b, b = a + (1 + kz.toNat) := ⟨_, rfl⟩
    simp only [← hb]
    have hrb := runN_le (s.drop b) wsA
    rw [List.length_drop] at hrb
    obtain ⟨d, hdd⟩ : ∃ d, d = b + runN (s.drop b) wsA := ⟨_, rfl⟩
    simp only [← hdd]
    by_cases h61 : (s.drop d).head? = some 61
    · rw [if_pos h61]
      have hdl : d < s.length := by
        rcases Nat.lt_or_ge d s.length with h | h
        · exact h
        · rw [List.drop_of_length_le h] at h61; cases h61
      have hrj := runN_le (s.drop (d + 1)) wsA
      rw [List.length_drop] at hrj
      obtain ⟨h1, h2, h3⟩ := valueN_lies (s := s) (name := lowS ((c :: l).take (1 + kz.toNat))) (i := d + 1 + runN (s.drop (d + 1)) wsA) (by omega)
      have h4 := h1.le
      exact ⟨h1.wide (by omega) (Nat.le_refl _), h2, by omega, fun _ => by omega⟩
    · rw [if_neg h61]
      exact ⟨by simp only [Lies]; omega, by simp only; omega, by simp, fun _ => by simp only; omega⟩
theorem attrsF_more {s : Bs} : ∀ f i, i ≤ s.length → s.length - i < f → attrsF s f i = attrsF s (s.length + 1) i := by
  have key : ∀ f g i, i ≤ s.length → s.length - i < f → s.length - i < g → attrsF s f i = attrsF s g i := by
    intro f
    induction f with
    | zero => intro g i _ h; omega
    | succ f ih =>
      intro g i hi hf hg
      cases g with
      | zero => omega
      | succ g =>
        have hl := attrN_lies hi
        unfold attrsF
        rcases he : attrN s i with ⟨b, j, l⟩
        rw [he] at hl
        cases b with
        | false => rfl
        | true =>
          have hij := hl.2.2.2 rfl
          simp only at hij hl ⊢
          rw [ih g j hl.2.1 (by omega) (by omega)]
  exact fun f i hi hf => key f _ i hi hf (by omega)
def attrsT (s : Bs) (i : Nat) : Nat × List Lnk := attrsF s (s.length + 1) i
theorem attrsT_go {s : Bs} {i : Nat} (hi : i ≤ s.length) (h : (attrN s i).1 = true) : attrsT s i = ((attrsT s (attrN s i).2.1).1, (attrN s i).2.2 ++ (attrsT s (attrN s i).2.1).2) := by
  have hl := attrN_lies hi
  have h2 := hl.2.2.2 h
  unfold attrsT
  conv => lhs; unfold attrsF
  rw [← attrsF_more s.length _ hl.2.1 (by omega)]
  rcases he : attrN s i with ⟨b, j, l⟩
  rw [he] at h
  simp only at h
  subst h
  rfl
theorem attrsT_end {s : Bs} {i : Nat} (h : (attrN s i).1 = false) : attrsT s i = (attrN s i).2 := by
  unfold attrsT attrsF
  rcases he : attrN s i with ⟨b, j, l⟩
  rw [he] at h
  simp only at h
  subst h
  rfl
theorem attrsT_lies {s : Bs} : ∀ n i, s.length - i ≤ n → i ≤ s.length → Lies i (attrsT s i).2 (attrsT s i).1 ∧ (attrsT s i).1 ≤ s.length ∧ (attrsT s i).2.length ≤ (attrsT s i).1 - i
  | n, i, hn, hi => by
    have hl := attrN_lies hi
    cases hb : (attrN s i).1 with
    | false => rw [attrsT_end hb]; exact ⟨hl.1, hl.2.1, hl.2.2.1⟩
    | true =>
      have hij := hl.2.2.2 hb
      rw [attrsT_go hi hb]
      have h2 := hl.2.1
      cases n with
      | zero => omega
      | succ n =>
        have ih := attrsT_lies n (attrN s i).2.1 (by omega) h2
        have := ih.1.le
        refine ⟨hl.1.append ih.1, ih.2.1, ?_⟩
        have a1 := ih.2.2
        have a2 := hl.2.2.1
        simp only [List.length_append]
        omega
theorem tagN_eq (s : Bs) (i : Nat) : tagN s i = if rawsT.contains (lowS ((s.drop i).take (runN (s.drop i) alnum))) then (if Lib.index (lowS (s.drop (attrsT s (i + runN (s.drop i) alnum)).1)) ([60, 47] ++ lowS ((s.drop i).take (runN (s.drop i) alnum))) < 0 then s.length else (attrsT s (i + runN (s.drop i) alnum)).1 + (Lib.index (lowS (s.drop (attrsT s (i + runN (s.drop i) alnum)).1)) ([60, 47] ++ lowS ((s.drop i).take (runN (s.drop i) alnum)))).toNat, (attrsT s (i + runN (s.drop i) alnum)).2) else attrsT s (i + runN (s.drop i) alnum) := rfl
theorem tagN_lies {s : Bs} {i : Nat} (hi : i ≤ s.length) : Lies i (tagN s i).2 (tagN s i).1 ∧ (tagN s i).1 ≤ s.length ∧ (tagN s i).2.length ≤ (tagN s i).1 - i := by
  have hr := runN_le (s.drop i) alnum
  rw [List.length_drop] at hr
  have hl := attrsT_lies (s := s) _ (i + runN (s.drop i) alnum) (Nat.le_refl _) (by omega)
  have h0 := hl.1.le
  rw [tagN_eq]
  split
  · have hx := index_le (lowS (s.drop (attrsT s (i + runN (s.drop i) alnum)).1)) ([60, 47] ++ lowS ((s.drop i).take (runN (s.drop i) alnum)))
    rw [show (lowS (s.drop (attrsT s (i + runN (s.drop i) alnum)).1)).length = s.length - (attrsT s (i + runN (s.drop i) alnum)).1 from by simp [lowS]] at hx
    have h2 := hl.2.1
    have h3 := hl.2.2
    split
    · exact ⟨hl.1.wide (by omega) h2, Nat.le_refl _, by simp only; omega⟩
    · exact ⟨hl.1.wide (by omega) (by simp only; omega), by simp only; omega, by simp only; omega⟩
  · exact ⟨hl.1.wide (by omega) (Nat.le_refl _), hl.2.1, by have := hl.2.2; omega⟩
def linkN (s : Bs) (a : Nat) (c : UInt8) : Nat × List Lnk :=
  if Lib.hasPrefix (s.drop a) [33, 45, 45] then (skipN s [45, 45, 62] (a + 3), [])
  else if c = 47 ∨ c = 33 ∨ c = 63 then (skipN s [62] a, [])
  else if (alnum.take 52).contains c then tagN s a
  else (a, [])
theorem linksF_end {s : Bs} {f i : Nat} (h : s.drop (skipN s [60] i) = []) : linksF s (f + 1) i = [] := by
  unfold linksF
  simp only
  rw [h]
theorem linksF_go {s l : Bs} {f i : Nat} {c : UInt8} (h : s.drop (skipN s [60] i) = c :: l) : linksF s (f + 1) i = (linkN s (skipN s [60] i) c).2 ++ linksF s f (linkN s (skipN s [60] i) c).1 := by
  unfold linkN
  rw [h]
  conv => lhs; unfold linksF
  simp only
  rw [h]
  simp only
  split
  · rfl
  split
  · rfl
  split
  · rfl
  · rfl
theorem linkN_lies {s l : Bs} {a : Nat} {c : UInt8} (h : s.drop a = c :: l) : Lies a (linkN s a c).2 (linkN s a c).1 ∧ (linkN s a c).1 ≤ s.length ∧ (linkN s a c).2.length ≤ (linkN s a c).1 - a := by
  have hlen : a + (l.length + 1) = s.length := by
    have := congrArg List.length h
    rw [List.length_drop, List.length_cons] at this; omega
  unfold linkN
  split
  · rename_i hp
    have h3 : a + 3 ≤ s.length := by
      have := (List.isPrefixOf_iff_prefix.1 (by unfold Lib.hasPrefix at hp; exact hp)).length_le
      rw [List.length_drop] at this; simp at this; omega
    have := skipN_le s [45, 45, 62] (a + 3) h3
    exact ⟨by simp only [Lies]; omega, by simp only; omega, by simp⟩
  split
  · have := skipN_le s [62] a (by omega)
    exact ⟨by simp only [Lies]; omega, by simp only; omega, by simp⟩
  split
  · exact tagN_lies (by omega)
  · exact ⟨Nat.le_refl _, by simp only; omega, by simp⟩
theorem linksF_more {s : Bs} : ∀ f i, i ≤ s.length → s.length - i < f → linksF s f i = linksF s (s.length + 1) i := by
  have key : ∀ f g i, i ≤ s.length → s.length - i < f → s.length - i < g → linksF s f i = linksF s g i := by
    intro f
    induction f with
    | zero => intro g i _ h; omega
    | succ f ih =>
      intro g i hi hf hg
      cases g with
      | zero => omega
      | succ g =>
        have hs := skipN_le s [60] i hi
        cases hd : s.drop (skipN s [60] i) with
        | nil => rw [linksF_end hd, linksF_end hd]
        | cons c l =>
          have hlen : skipN s [60] i + (l.length + 1) = s.length := by
            have := congrArg List.length hd
            rw [List.length_drop, List.length_cons] at this; omega
          have hlt := skipN_lt s [60] i (by omega) (by simp)
          have hl := linkN_lies hd
          have := hl.1.le
          rw [linksF_go hd, linksF_go hd, ih g _ hl.2.1 (by omega) (by omega)]
  exact fun f i hi hf => key f _ i hi hf (by omega)
def linksA (s : Bs) (i : Nat) : List Lnk := linksF s (s.length + 1) i
theorem linksA_end {s : Bs} {i : Nat} (h : s.drop (skipN s [60] i) = []) : linksA s i = [] := linksF_end h
theorem linksA_go {s l : Bs} {i : Nat} {c : UInt8} (hi : i ≤ s.length) (h : s.drop (skipN s [60] i) = c :: l) : linksA s i = (linkN s (skipN s [60] i) c).2 ++ linksA s (linkN s (skipN s [60] i) c).1 := by
  have hs := skipN_le s [60] i hi
  have hlen : skipN s [60] i + (l.length + 1) = s.length := by
    have := congrArg List.length h
    rw [List.length_drop, List.length_cons] at this; omega
  have hlt := skipN_lt s [60] i (by omega) (by simp)
  have hl := linkN_lies h
  have := hl.1.le
  unfold linksA
  rw [linksF_go h, linksF_more s.length _ hl.2.1 (by omega)]
theorem linksA_lies {s : Bs} : ∀ n i, s.length - i ≤ n → i ≤ s.length → Lies i (linksA s i) s.length ∧ (linksA s i).length ≤ s.length - i
  | n, i, hn, hi => by
    have hs := skipN_le s [60] i hi
    cases hd : s.drop (skipN s [60] i) with
    | nil => rw [linksA_end hd]; exact ⟨hi, by simp⟩
    | cons c l =>
      have hlen : skipN s [60] i + (l.length + 1) = s.length := by
        have := congrArg List.length hd
        rw [List.length_drop, List.length_cons] at this; omega
      have hlt := skipN_lt s [60] i (by omega) (by simp)
      have hl := linkN_lies hd
      have h0 := hl.1.le
      rw [linksA_go hi hd]
      cases n with
      | zero => omega
      | succ n =>
        have ih := linksA_lies n (linkN s (skipN s [60] i) c).1 (by omega) hl.2.1
        have a1 := hl.2.2
        refine ⟨(hl.1.wide (by omega) (Nat.le_refl _)).append ih.1, ?_⟩
        rw [List.length_append]
        omega
theorem linksT_lies (s : Bs) : Lies 0 (linksT s) s.length ∧ (linksT s).length ≤ s.length := linksA_lies s.length 0 (by omega) (Nat.zero_le _)
end Go.Proofs.YtignjjnflcpiiaaGreatDoor
