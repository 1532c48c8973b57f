/- page.run, page.unescape, page.Escape. Condition: the text takes at most 10^9 bytes; page's variable signs is as it is laid; page.Escape; the lists of names; slices.Contains. Condition: the text takes at most 10^9 bytes; page's variable signs is as it is laid; The scanner of package page: its state; . -/
import Derived.Test.YtignjjnflcpiiaaGreatDoorR09
namespace Go.Proofs.YtignjjnflcpiiaaGreatDoor
open Go Go.RowKit
set_option maxHeartbeats 2000000 in
set_option maxRecDepth 100000 in
theorem run_any (s of : Bs) (w : World) (hs : s.length ≤ 1000000000000) (hcs : of.length < 4294967281) (hascii : of.all (fun b => decide (b.toNat < 128)) = true) :
    Calls Tryz.prog 184 #[.string ⟨s.toArray⟩, .string ⟨of.toArray⟩] w fun e w' => e = .returned (.int .i64 ((runN s of : Nat) : Int)) ∧ Below w.heap.size w w' := by
  have hT := Lib.hid (runN_trim s of)
  have hle := trimL_le s of
  go_enter Tryz.func184, Tryz.ntmps184
  go_wp2_with fail
  refine (trimL s of _ hcs hascii).mono ?_
  rintro e w1 ⟨rfl, hb⟩
  go_wp2_with fail
  go_ret
  exact ⟨ret_int (by rw [← hT.out]; omega), hb⟩
set_option maxHeartbeats 2000000 in
set_option maxRecDepth 100000 in
theorem unesc1_any (x0 x1 s : Bs) (bx : Nat) (w : World) (hc : w.cell? ⟨bx, 0, none⟩ = some (.string ⟨s.toArray⟩)) :
    Calls Tryz.prog 319 #[.agg #[.string ⟨x0.toArray⟩, .string ⟨x1.toArray⟩], .pointer (some ⟨bx, 0, none⟩)] w fun e w' => e = .returned (.bool (Lib.hasPrefix s x1)) ∧ Below w.heap.size w w' := by
  have hlt : bx < w.heap.size := World.block_lt_of_cell? w _ hc
  have hc2 : (w.alloc (.cells #[.string ⟨x0.toArray⟩, .string ⟨x1.toArray⟩] 249)).cell? ⟨bx, 0, none⟩ = some (.string ⟨s.toArray⟩) := by rw [World.cell?_alloc_past _ _ _ hlt]; exact hc
  have kc := (Blk.new w #[.string ⟨x0.toArray⟩, .string ⟨x1.toArray⟩] 249).cell
  clear hc
  go_enter Tryz.func319, Tryz.ntmps319
  go_wp2_with fail
  refine (hasPre s x1 _).mono ?_
  rintro e w' ⟨rfl, rfl⟩
  go_wp2_with fail
  go_ret
  exact ⟨rfl, (Below.refl _ _).alloc (Nat.le_refl _) _⟩
def sigV (s : Bs) : Int := match sigI s with | none => -1 | some k => (k : Int)
theorem sigI_go (s : Bs) (k : Nat) (h : k < sigT.length) (h1 : ∀ j, j < k → Lib.hasPrefix s (sigT.getD j ([], [])).2 = false) (h2 : Lib.hasPrefix s (sigT.getD k ([], [])).2 = true) : sigI s = some k := by
  unfold sigI
  rw [List.findIdx?_eq_some_iff_getElem]
  refine ⟨h, ?_, fun j hj => ?_⟩
  · simpa [List.getD_eq_getElem?_getD, List.getElem?_eq_getElem h] using h2
  · have hjl : j < sigT.length := by omega
    have := h1 j hj
    rw [List.getD_eq_getElem?_getD, List.getElem?_eq_getElem hjl] at this
    simpa using this
theorem sigI_end (s : Bs) (h1 : ∀ j, j < 5 → Lib.hasPrefix s (sigT.getD j ([], [])).2 = false) : sigI s = none := by
  unfold sigI
  rw [List.findIdx?_eq_none_iff]
  intro x hx
  obtain ⟨j, hj, rfl⟩ := List.getElem_of_mem hx
  have := h1 j hj
  rw [List.getD_eq_getElem?_getD, List.getElem?_eq_getElem hj] at this
  simpa using this
theorem sigRow_at (k : Nat) (h : k < 5) : sigRow[k * 2]? = some (.string ⟨(sigT.getD k ([], [])).1.toArray⟩) ∧ sigRow[k * 2 + 1]? = some (.string ⟨(sigT.getD k ([], [])).2.toArray⟩) := by
  have : k = 0 ∨ k = 1 ∨ k = 2 ∨ k = 3 ∨ k = 4 := by omega
  rcases this with rfl | rfl | rfl | rfl | rfl <;> exact ⟨rfl, rfl⟩
set_option maxHeartbeats 4000000 in
set_option maxRecDepth 100000 in
theorem sigIdx_any (s : Bs) (bx : Nat) (w : World) (hg : Gr w) (hc : w.cell? ⟨bx, 0, none⟩ = some (.string ⟨s.toArray⟩)) :
    Calls Tryz.prog 318 #[.slice (some ⟨1, 0, none⟩) 5 5, .func (.func 319) #[] #[.pointer (some ⟨bx, 0, none⟩)]] w fun e w' => e = .returned (.int .i64 (sigV s)) ∧ Below w.heap.size w w' := by
  have hlt : bx < w.heap.size := World.block_lt_of_cell? w _ hc
  have hgs := hg.size
  have Hs := Lib.hid hg.signs
  go_enter Tryz.func318, Tryz.ntmps318
  go_wp2_with fail
  go_loopw [8] (fun i wr => ∃ k : Nat, i = .int .i64 k ∧ k ≤ 5 ∧ Hid (∀ j, j < k → Lib.hasPrefix s (sigT.getD j ([], [])).2 = false) ∧ Below w.heap.size w wr) (fun i _ => 5 - (intOf i).toNat)
  case atStart => exact ⟨0, rfl, by omega, Lib.hid (fun j hj => by omega), Below.refl _ _⟩
  case round =>
    obtain ⟨k, rfl, hk, hno, B⟩ := hrel
    by_cases h5 : k < 5
    · obtain ⟨r1, r2⟩ := sigRow_at k h5
      have c1 := (B.cell (p := ⟨1, k * 2, none⟩) (by simp only; omega)).trans ((Hs.out _ (by omega)).trans r1)
      have c2 := (B.cell (p := ⟨1, k * 2 + 1, none⟩) (by simp only; omega)).trans ((Hs.out _ (by omega)).trans r2)
      have cx := (B.cell (p := ⟨bx, 0, none⟩) hlt).trans hc
      have HK := Lib.hid (show sigT.getD k ([], []) = sigT.getD k ([], []) from rfl)
      have HGo := Lib.hid (sigI_go s k h5 hno.out)
      have HSt := Lib.hid (fun (h : Lib.hasPrefix s (sigT.getD k ([], [])).2 = false) => show ∀ j, j < k + 1 → Lib.hasPrefix s (sigT.getD j ([], [])).2 = false from fun j hj => by
        by_cases e : j = k
        · rw [e]; exact h
        · exact hno.out j (by omega))
      clear r1 r2 HK
      generalize sigT.getD k ([], []) = x at c1 c2 HGo HSt
      obtain ⟨x0, x1⟩ := x
      simp only at c1 c2 HGo HSt
      have hC := unesc1_any x0 x1 s bx wr cx
      generalize Lib.hasPrefix s x1 = hp at hC HGo HSt
      cases hp with
      | true =>
        have HV := Lib.hid (show sigV s = (k : Int) from by unfold sigV; rw [HGo.out rfl])
        go_wp2_with fail
        refine hC.mono ?_
        rintro e w2 ⟨rfl, hb⟩
        go_wp2_with fail
        go_ret
        exact ⟨ret_int (by rw [HV.out]), B.trans (hb.mono B.size)⟩
      | false =>
        have HS2 := Lib.hid (HSt.out rfl)
        clear HSt HGo
        go_wp2_with fail
        refine hC.mono ?_
        rintro e w2 ⟨rfl, hb⟩
        go_wp2_with fail
        go_roundw
        case rel => exact ⟨k + 1, by go_num, by omega, HS2, B.trans (hb.mono B.size)⟩
        case measure => simp [intOf]; omega
    · obtain rfl : k = 5 := by omega
      have HV := Lib.hid (show sigV s = -1 from by unfold sigV; rw [sigI_end s hno.out])
      go_wp2_with fail
      go_ret
      exact ⟨ret_int (by rw [HV.out]), B⟩
theorem Bld.keep {B b : Nat} {l : Bs} {w w' : World} (h : Bld B b l w) (hk : ∀ g, B ≤ g → g < w.heap.size → w'.heap[g]? = w.heap[g]?) : Bld B b l w' := by
  have hlt : ∀ g o, w.heap[g]? = some o → g < w.heap.size := fun g o h => by
    rcases Nat.lt_or_ge g w.heap.size with h' | h'
    · exact h'
    · rw [Array.getElem?_eq_none h'] at h; cases h
  have go : ∀ p, Lib.BuilderAt 128 5 B b p (Lib.byteCells l) w → Lib.BuilderAt 128 5 B b p (Lib.byteCells l) w' := by
    rintro p ⟨h1, v, h2, h3, h5⟩
    refine ⟨h1, v, (hk b h1 (hlt b _ h2)).trans h2, ?_, h5⟩
    refine rowKeep h3 fun g hg => ?_
    rcases h3.2 with ⟨hv, _⟩ | ⟨g', cap, cur, hv, hgB, hh, _⟩
    · rw [hv] at hg; cases hg
    · rw [hv] at hg; injection hg with hg; simp at hg; subst hg
      exact hk g' hgB (hlt g' _ hh)
  exact h.imp (go _) (go _)
theorem unescF_more : ∀ (f : Nat) (l : Bs), l.length < f → unescF f l = unescF (l.length + 1) l
  | 0, l, h => by omega
  | f + 1, l, h => by
    unfold unescF
    by_cases h0 : l = []
    · rw [if_pos h0, if_pos h0]
    · rw [if_neg h0, if_neg h0]
      have hp := List.length_pos_iff.2 h0
      cases hs : sigI l with
      | none =>
        simp only
        rw [unescF_more f (l.drop 1) (by simp; omega), ← unescF_more l.length (l.drop 1) (by simp; omega)]
      | some j =>
        have hj : j < sigT.length := by
          unfold sigI at hs
          rw [List.findIdx?_eq_some_iff_getElem] at hs
          exact hs.1
        have h1 : 1 ≤ (sigT.getD j ([], [])).2.length := by
          have : j = 0 ∨ j = 1 ∨ j = 2 ∨ j = 3 ∨ j = 4 := by have : sigT.length = 5 := rfl; omega
          rcases this with rfl | rfl | rfl | rfl | rfl <;> decide
        simp only
        rw [unescF_more f _ (by rw [List.length_drop]; omega), ← unescF_more l.length (l.drop (sigT.getD j ([], [])).2.length) (by rw [List.length_drop]; omega)]
  termination_by f _ => f
theorem unesc_none {l : Bs} (h0 : l ≠ []) (h : sigI l = none) : unescT l = l.take 1 ++ unescT (l.drop 1) := by
  have hp := List.length_pos_iff.2 h0
  conv => lhs; unfold unescT unescF
  rw [if_neg h0, h]
  simp only
  rw [unescF_more l.length (l.drop 1) (by simp; omega)]; rfl
theorem unesc_some {l : Bs} {j : Nat} (h0 : l ≠ []) (h : sigI l = some j) : j < 5 ∧ 1 ≤ (sigT.getD j ([], [])).2.length ∧ (sigT.getD j ([], [])).2.length ≤ l.length ∧ (sigT.getD j ([], [])).1.length ≤ 1 ∧ unescT l = (sigT.getD j ([], [])).1 ++ unescT (l.drop (sigT.getD j ([], [])).2.length) := by
  have hp := List.length_pos_iff.2 h0
  have hh := h
  unfold sigI at hh
  rw [List.findIdx?_eq_some_iff_getElem] at hh
  obtain ⟨hj, h2, _⟩ := hh
  have hd : sigT.getD j ([], []) = sigT[j] := by rw [List.getD_eq_getElem?_getD, List.getElem?_eq_getElem hj]; rfl
  have h5 : j = 0 ∨ j = 1 ∨ j = 2 ∨ j = 3 ∨ j = 4 := by have : sigT.length = 5 := rfl; omega
  have h1 : 1 ≤ (sigT.getD j ([], [])).2.length ∧ (sigT.getD j ([], [])).1.length ≤ 1 := by
    rcases h5 with rfl | rfl | rfl | rfl | rfl <;> decide
  refine ⟨by omega, h1.1, ?_, h1.2, ?_⟩
  · rw [hd]
    unfold Lib.hasPrefix at h2
    have := (List.isPrefixOf_iff_prefix.1 h2).length_le
    exact this
  · conv => lhs; unfold unescT unescF
    rw [if_neg h0, h]
    simp only
    rw [unescF_more l.length (l.drop _) (by rw [List.length_drop]; omega)]; rfl
set_option maxHeartbeats 4000000 in
set_option maxRecDepth 100000 in
theorem unescape_any (s : Bs) (w : World) (hg : Gr w) (hs : s.length ≤ 1000000000) :
    Calls Tryz.prog 300 #[.string ⟨s.toArray⟩] w fun e w' => e = .returned (.string ⟨(unescT s).toArray⟩) ∧ Below w.heap.size w w' := by
  have hmf : ∀ (fn : Fn) (first cap : Array Value) (w : World), (Instr.makeFunc fn first cap).run Tryz.prog w = .ok (.func fn first cap) w := fun _ _ _ _ => rfl
  have hgs := hg.size
  have b0 := bldNew (w.alloc (.cells #[.string ⟨s.toArray⟩] 9))
  rw [World.size_alloc] at b0
  have k0 := (Blk.new w #[.string ⟨s.toArray⟩] 9).alloc (.cells #[.pointer none, .slice none 0 0] 128)
  have Hb0 := Lib.hid b0; clear b0
  have Hk0 := Lib.hid k0; clear k0
  go_enter Tryz.func300, Tryz.ntmps300
  go_wp2_with fail
  go_loopg [] s.length (fun g wr => ∃ (l out : Bs), l.length ≤ g ∧ Blk wr w.heap.size #[.string ⟨l.toArray⟩] 9 ∧ Bld (w.heap.size + 1) (w.heap.size + 1) out wr ∧ l.length + out.length ≤ 1000000000 ∧ Hid (out ++ unescT l = unescT s) ∧ Below w.heap.size w wr)
  case atStart => exact ⟨s, [], Nat.le_refl _, Hk0.out, Hb0.out, by simp; omega, Lib.hid rfl, ((Below.refl _ _).alloc (Nat.le_refl _) _).alloc (by simp) _⟩
  case round =>
    obtain ⟨l, out, hlg, hk, hb, hle, Hall, B⟩ := hrel
    have hsz := hk.lt
    by_cases h0 : l = []
    · subst h0
      have kc := hk.cell 0
      have HE := Lib.hid (show unescT s = out from by rw [← Hall.out]; simp [unescT, unescF])
      go_wp2_with fail
      refine (bldStr _ _ _ _ hb (by omega)).mono ?_
      rintro e w2 ⟨rfl, hb2⟩
      go_wp2_with fail
      go_ret
      exact ⟨by rw [HE.out]; rfl, B.trans (hb2.mono (by omega))⟩
    · have hle0 : l.isEmpty = false := by rw [Bool.eq_false_iff]; simpa using h0
      have hp := List.length_pos_iff.2 h0
      have hS := sigIdx_any l w.heap.size wr (hg.next B) ((hk.cell 0).trans rfl)
      cases hsi : sigI l with
      | none =>
        have HU := Lib.hid (unesc_none h0 hsi)
        have hv : sigV l = -1 := by unfold sigV; rw [hsi]
        rw [hv] at hS
        clear hv hsi h0
        cases l with
        | nil => simp at hp
        | cons c l' =>
          have kc := hk.cell 0
          go_wp2_with fail
          refine hS.mono ?_
          rintro e w2 ⟨rfl, hb2⟩
          have hk2 := hk.next hb2 hk.lt
          have hbb2 := hb.next hb2
          have B2 := B.trans (hb2.mono B.size)
          have hsz2 := hk2.lt
          have kc2 := hk2.cell 0
          simp only [List.length_cons] at hle hlg
          go_wp2_with fail
          refine (wrByte (w.heap.size + 1) (w.heap.size + 1) out _ c rfl _ hbb2 (by omega) (by omega)).mono ?_
          rintro e w3 ⟨rfl, hbb3, hb3⟩
          have hk3 := hk2.next hb3 (Nat.lt_succ_self _)
          have B3 := B2.trans (hb3.mono (Nat.le_succ _))
          have kc3 := hk3.cell 0
          have kf3 := hk3.free 0
          have HQ := Lib.hid (show (out ++ [c]) ++ unescT l' = unescT s from by rw [← Hall.out, HU.out]; simp)
          clear hS hb2 hbb2 kc2 hk2 kc hk B HU Hall
          go_wp2_with fail
          have hk4 := hk3.set 0 (.string ⟨l'.toArray⟩)
          have hbb4 := hbb3.keep (w' := w3.setCell ⟨w.heap.size, 0, none⟩ (.string ⟨l'.toArray⟩)) (fun g hgB _ => Below.heap_setCell w3 ⟨w.heap.size, 0, none⟩ _ g (by simp only; omega))
          go_roundg l'.length
          case measure => omega
          case rel => exact ⟨l', out ++ [c], Nat.le_refl _, hk4, hbb4, by simp; omega, HQ, B3.setCell (Nat.le_refl _) _⟩
      | some j =>
        obtain ⟨hj5, hn1, hn2, hn3, hu⟩ := unesc_some h0 hsi
        have HU := Lib.hid hu; clear hu
        have hv : sigV l = (j : Int) := by unfold sigV; rw [hsi]
        rw [hv] at hS
        clear hv hsi h0
        obtain ⟨r1, r2⟩ := sigRow_at j hj5
        have Hs := Lib.hid hg.signs
        have hc1 := (Hs.out _ (by omega)).trans r1
        have hc2 := (Hs.out _ (by omega)).trans r2
        clear r1 r2
        generalize sigT.getD j ([], []) = x at hc1 hc2 hn1 hn2 hn3 HU
        obtain ⟨x0, x1⟩ := x
        simp only at hc1 hc2 hn1 hn2 hn3 HU
        have kc := hk.cell 0
        go_wp2_with fail
        refine hS.mono ?_
        rintro e w2 ⟨rfl, hb2⟩
        have hk2 := hk.next hb2 hk.lt
        have hbb2 := hb.next hb2
        have B2 := B.trans (hb2.mono B.size)
        have hsz2 := hk2.lt
        have d1 := (B2.cell (p := ⟨1, j * 2, none⟩) (by simp only; omega)).trans hc1
        go_wp2_with fail
        refine (wrStr (w.heap.size + 1) (w.heap.size + 1) out x0 _ hbb2 (by omega) (by omega)).mono ?_
        rintro e w3 ⟨rfl, hbb3, hb3⟩
        have hk3 := hk2.next hb3 (Nat.lt_succ_self _)
        have B3 := B2.trans (hb3.mono (Nat.le_succ _))
        have kcd := (Blk.drew hk3).cell 0
        have kfd := (Blk.drew hk3).free 0
        have d2 := (B3.drew.cell (p := ⟨1, j * 2 + 1, none⟩) (by simp only; omega)).trans hc2
        have HQ := Lib.hid (show (out ++ x0) ++ unescT (l.drop x1.length) = unescT s from by rw [← Hall.out, HU.out]; simp)
        clear hS hb2 hbb2 hk2 kc hk B HU Hall d1
        go_wp2_with fail
        go_region
        all_goals
          go_wp2_with fail
          have hk4 := (Blk.drew hk3).set 0 (.string ⟨(l.drop x1.length).toArray⟩)
          have hbb4 := hbb3.drew.keep (w' := w3.drew.setCell ⟨w.heap.size, 0, none⟩ (.string ⟨(l.drop x1.length).toArray⟩)) (fun g hgB _ => Below.heap_setCell w3.drew ⟨w.heap.size, 0, none⟩ _ g (by simp only; omega))
          go_roundg (l.length - x1.length)
          case measure => omega
          case rel => exact ⟨l.drop x1.length, out ++ x0, by simp, hk4, hbb4, by simp; omega, HQ, B3.drew.setCell (Nat.le_refl _) _⟩
def sigP : List Pr := [(38, [38, 97, 109, 112, 59]), (34, [38, 113, 117, 111, 116, 59]), (39, [38, 35, 51, 57, 59]), (60, [38, 108, 116, 59]), (62, [38, 103, 116, 59])]
theorem sigP_ok : PrsOk sigP := PrsOk.of (by decide)
def escT (s : Bs) : Bs := rep (look sigP) s
def sigPair (k : Nat) : Pr := sigP.getD k (0, [])
theorem sigIndex0 (w : World) : (Instr.index 250 (.agg #[.string ⟨#[38]⟩, .string ⟨#[38, 97, 109, 112, 59]⟩, .string ⟨#[34]⟩, .string ⟨#[38, 113, 117, 111, 116, 59]⟩, .string ⟨#[39]⟩, .string ⟨#[38, 35, 51, 57, 59]⟩, .string ⟨#[60]⟩, .string ⟨#[38, 108, 116, 59]⟩, .string ⟨#[62]⟩, .string ⟨#[38, 103, 116, 59]⟩]) (.int .i64 0)).run Tryz.prog w = .ok (.agg #[.string ⟨#[38]⟩, .string ⟨#[38, 97, 109, 112, 59]⟩]) w := by kernel_rfl
theorem sigIndex1 (w : World) : (Instr.index 250 (.agg #[.string ⟨#[38]⟩, .string ⟨#[38, 97, 109, 112, 59]⟩, .string ⟨#[34]⟩, .string ⟨#[38, 113, 117, 111, 116, 59]⟩, .string ⟨#[39]⟩, .string ⟨#[38, 35, 51, 57, 59]⟩, .string ⟨#[60]⟩, .string ⟨#[38, 108, 116, 59]⟩, .string ⟨#[62]⟩, .string ⟨#[38, 103, 116, 59]⟩]) (.int .i64 1)).run Tryz.prog w = .ok (.agg #[.string ⟨#[34]⟩, .string ⟨#[38, 113, 117, 111, 116, 59]⟩]) w := by kernel_rfl
theorem sigIndex2 (w : World) : (Instr.index 250 (.agg #[.string ⟨#[38]⟩, .string ⟨#[38, 97, 109, 112, 59]⟩, .string ⟨#[34]⟩, .string ⟨#[38, 113, 117, 111, 116, 59]⟩, .string ⟨#[39]⟩, .string ⟨#[38, 35, 51, 57, 59]⟩, .string ⟨#[60]⟩, .string ⟨#[38, 108, 116, 59]⟩, .string ⟨#[62]⟩, .string ⟨#[38, 103, 116, 59]⟩]) (.int .i64 2)).run Tryz.prog w = .ok (.agg #[.string ⟨#[39]⟩, .string ⟨#[38, 35, 51, 57, 59]⟩]) w := by kernel_rfl
theorem sigIndex3 (w : World) : (Instr.index 250 (.agg #[.string ⟨#[38]⟩, .string ⟨#[38, 97, 109, 112, 59]⟩, .string ⟨#[34]⟩, .string ⟨#[38, 113, 117, 111, 116, 59]⟩, .string ⟨#[39]⟩, .string ⟨#[38, 35, 51, 57, 59]⟩, .string ⟨#[60]⟩, .string ⟨#[38, 108, 116, 59]⟩, .string ⟨#[62]⟩, .string ⟨#[38, 103, 116, 59]⟩]) (.int .i64 3)).run Tryz.prog w = .ok (.agg #[.string ⟨#[60]⟩, .string ⟨#[38, 108, 116, 59]⟩]) w := by kernel_rfl
theorem sigIndex4 (w : World) : (Instr.index 250 (.agg #[.string ⟨#[38]⟩, .string ⟨#[38, 97, 109, 112, 59]⟩, .string ⟨#[34]⟩, .string ⟨#[38, 113, 117, 111, 116, 59]⟩, .string ⟨#[39]⟩, .string ⟨#[38, 35, 51, 57, 59]⟩, .string ⟨#[60]⟩, .string ⟨#[38, 108, 116, 59]⟩, .string ⟨#[62]⟩, .string ⟨#[38, 103, 116, 59]⟩]) (.int .i64 4)).run Tryz.prog w = .ok (.agg #[.string ⟨#[62]⟩, .string ⟨#[38, 103, 116, 59]⟩]) w := by kernel_rfl
theorem sigIndex (k : Nat) (h : k < 5) (w : World) : (Instr.index 250 (.agg #[.string ⟨#[38]⟩, .string ⟨#[38, 97, 109, 112, 59]⟩, .string ⟨#[34]⟩, .string ⟨#[38, 113, 117, 111, 116, 59]⟩, .string ⟨#[39]⟩, .string ⟨#[38, 35, 51, 57, 59]⟩, .string ⟨#[60]⟩, .string ⟨#[38, 108, 116, 59]⟩, .string ⟨#[62]⟩, .string ⟨#[38, 103, 116, 59]⟩]) (.int .i64 (k : Int))).run Tryz.prog w = .ok (.agg #[.string ⟨#[(sigPair k).1]⟩, .string ⟨(sigPair k).2.toArray⟩]) w := by
  have : k = 0 ∨ k = 1 ∨ k = 2 ∨ k = 3 ∨ k = 4 := by omega
  rcases this with rfl | rfl | rfl | rfl | rfl
  · exact sigIndex0 w
  · exact sigIndex1 w
  · exact sigIndex2 w
  · exact sigIndex3 w
  · exact sigIndex4 w
theorem cellP2 (w : World) (p : Pr) (t : TypeId) : ∀ j u, ((prL [p]).flatMap strC)[j]? = some u → (w.alloc (.cells #[.string ⟨#[p.1]⟩, .string ⟨p.2.toArray⟩] t)).cell? ((⟨w.heap.size, 0, none⟩ : Go.Addr).add j) = some u := fun j u hj => by
  rw [addr_add0, (Blk.new w _ t).cell]
  rw [prL_cells] at hj
  match j, hj with
  | 0, hj => exact hj
  | 1, hj => exact hj
  | j + 2, hj => simp [prC] at hj
theorem cellP2n (w : World) (p : Pr) (t : TypeId) (n : Nat) (hn : w.heap.size = n) : ∀ j u, ((prL [p]).flatMap strC)[j]? = some u → (w.alloc (.cells #[.string ⟨#[p.1]⟩, .string ⟨p.2.toArray⟩] t)).cell? ((⟨n, 0, none⟩ : Go.Addr).add j) = some u := hn ▸ cellP2 w p t
theorem prL_app (a b : List Pr) : prL (a ++ b) = prL a ++ prL b := by unfold prL; rw [List.flatMap_append]
theorem sigP_take (k : Nat) (h : k < 5) : sigP.take (k + 1) = sigP.take k ++ [sigPair k] := by
  have : k = 0 ∨ k = 1 ∨ k = 2 ∨ k = 3 ∨ k = 4 := by omega
  rcases this with rfl | rfl | rfl | rfl | rfl <;> rfl
set_option maxHeartbeats 4000000 in
set_option maxRecDepth 100000 in
theorem escape_any (s : Bs) (w : World) (hg : Gr w) (hs : s.length ≤ 1000000000) :
    Calls Tryz.prog 104 #[.string ⟨s.toArray⟩] w fun e w' => e = .returned (.string ⟨(escT s).toArray⟩) ∧ Below w.heap.size w w' := by
  have c0 : w.cell? ⟨1, 0, none⟩ = some (.string ⟨#[38]⟩) := hg.signs 0 (by decide)
  have c1 : w.cell? ⟨1, 1, none⟩ = some (.string ⟨#[38, 97, 109, 112, 59]⟩) := hg.signs 1 (by decide)
  have c2 : w.cell? ⟨1, 2, none⟩ = some (.string ⟨#[34]⟩) := hg.signs 2 (by decide)
  have c3 : w.cell? ⟨1, 3, none⟩ = some (.string ⟨#[38, 113, 117, 111, 116, 59]⟩) := hg.signs 3 (by decide)
  have c4 : w.cell? ⟨1, 4, none⟩ = some (.string ⟨#[39]⟩) := hg.signs 4 (by decide)
  have c5 : w.cell? ⟨1, 5, none⟩ = some (.string ⟨#[38, 35, 51, 57, 59]⟩) := hg.signs 5 (by decide)
  have c6 : w.cell? ⟨1, 6, none⟩ = some (.string ⟨#[60]⟩) := hg.signs 6 (by decide)
  have c7 : w.cell? ⟨1, 7, none⟩ = some (.string ⟨#[38, 108, 116, 59]⟩) := hg.signs 7 (by decide)
  have c8 : w.cell? ⟨1, 8, none⟩ = some (.string ⟨#[62]⟩) := hg.signs 8 (by decide)
  have c9 : w.cell? ⟨1, 9, none⟩ = some (.string ⟨#[38, 103, 116, 59]⟩) := hg.signs 9 (by decide)
  go_enter Tryz.func104, Tryz.ntmps104
  go_wp2_with fail
  clear c0 c1 c2 c3 c4 c5 c6 c7 c8 c9
  go_loopw [3, 7] (fun v i wr => ∃ k : Nat, i = .int .i64 k ∧ k ≤ 5 ∧ OwnT wr w.heap.size v (prL (sigP.take k)) ∧ Below w.heap.size w wr) (fun _ i _ => 5 - (intOf i).toNat)
  case atStart => exact ⟨0, rfl, by omega, OwnG.nil _ _ _ _ _, Below.refl _ _⟩
  case round =>
    obtain ⟨k, rfl, hk, hown, B⟩ := hrel
    by_cases h5 : k < 5
    · have hI := sigIndex k h5
      have HT := Lib.hid (show prL (sigP.take (k + 1)) = prL (sigP.take k) ++ prL [sigPair k] from by rw [sigP_take k h5, prL_app])
      have hl1 := prL_len (sigP.take k)
      have hl2 : (sigP.take k).length ≤ 5 := by simp; omega
      have hl3 : (prL (sigP.take k)).length ≤ 10 := by omega
      clear hl1 hl2
      generalize prL (sigP.take k) = xs at hown HT hl3
      generalize sigPair k = p at hI HT
      have kp := (Blk.new wr #[.string ⟨#[p.1]⟩, .string ⟨p.2.toArray⟩] 249).cell
      have hown1 := OwnG.alloc hown (.cells #[.string ⟨#[p.1]⟩, .string ⟨p.2.toArray⟩] 249)
      have hown2 := OwnG.alloc hown1 (.cells #[.string ⟨#[p.1]⟩, .string ⟨p.2.toArray⟩] 9)
      have B1 := B.alloc B.size (.cells #[.string ⟨#[p.1]⟩, .string ⟨p.2.toArray⟩] 249)
      have B2 := B1.alloc B1.size (.cells #[.string ⟨#[p.1]⟩, .string ⟨p.2.toArray⟩] 9)
      have hct := cellP2n (wr.alloc (.cells #[.string ⟨#[p.1]⟩, .string ⟨p.2.toArray⟩] 249)) p 9 (wr.heap.size + 1) (by simp)
      have hbs := B2.size
      have hlp : 2 = (prL [p]).length := rfl
      have Hlp := Lib.hid hlp; clear hlp
      go_wp2_with (at_builtin; refine appG (α := Bs) (cs := strC) (size := 1) (z := .string ByteArray.empty) strC_len strC_one infoStr rfl (by decide) Tryz.underlying55 rfl _ _ rfl w.heap.size _ xs (prL [p]) ⟨wr.heap.size + 1, 0, none⟩ 2 2 Hlp.out rfl hown2 rfl hct (by rw [← Hlp.out]; omega) (by rw [← Hlp.out]; unfold maxLen; omega) hbs ?_; intro v' w4 hown4 hg4 hb4)
      go_wp2_with fail
      go_roundw
      case rel => exact ⟨k + 1, by go_num, by omega, by rw [HT.out]; exact hown4, B2.trans hb4⟩
      case measure => simp [intOf]; omega
    · obtain rfl : k = 5 := by omega
      obtain ⟨b, cap, hv, hlt, hc⟩ := OwnT.pr hown (by decide)
      subst hv
      obtain ⟨a2, cap2, hv2, hc2⟩ := OwnG.rd (by decide) strC_len hown
      have hl : (prL (sigP.take 5)).length = 10 := rfl
      obtain ⟨b2, ha2, hlt2, hcell2⟩ := hc2 (by decide)
      injection hv2 with hv2a _ _
      rw [ha2] at hv2a
      injection hv2a with hv2a
      injection hv2a with hv2b _ _
      subst hv2b
      obtain ⟨n, hn⟩ : ∃ n, n = 2 * (sigP.take 5).length := ⟨_, rfl⟩
      rw [← hn]
      have hNR := newRep_any b cap2 sigP wr (fun j u hj => by
        rw [addr_add0]
        have hjl : j < 10 := by
          have := (List.getElem?_eq_some_iff.1 hj).1
          exact this
        rw [hcell2 j (by rw [hl]; omega), prL_cells]; exact hj) (by decide) (by decide) n hn
      have Hn := Lib.hid hn; clear hn
      have HNR := Lib.hid hNR
      clear hNR hc hown hcell2 hc2
      go_wp2_with fail
      with_reducible refine HNR.out.mono ?_
      rintro e w5 ⟨b5, v5, rfl, hB5, hk5, hrd5, hne5, hb5⟩
      have B5 := B.trans (hb5.mono B.size)
      have hRp := replace_any b5 v5 sigP sigP_ok s w5 hk5 hrd5 hne5 hs
      have hwb5 : w.heap.size ≤ b5 := Nat.le_trans B.size hB5
      clear hb5 hk5 hrd5 hne5 hB5
      go_wp2_with fail
      refine hRp.mono ?_
      rintro e w6 ⟨rfl, hb6⟩
      go_wp2_with fail
      go_ret
      exact ⟨rfl, B5.trans (hb6.mono hwb5)⟩
set_option maxHeartbeats 2000000 in
set_option maxRecDepth 100000 in
theorem raws_any (w : World) : Calls Tryz.prog 186 #[] w fun e w' => e = .returned (.agg #[.string ⟨#[115, 99, 114, 105, 112, 116]⟩, .string ⟨#[115, 116, 121, 108, 101]⟩, .string ⟨#[116, 101, 120, 116, 97, 114, 101, 97]⟩, .string ⟨#[116, 105, 116, 108, 101]⟩]) ∧ Below w.heap.size w w' := by
  go_enter Tryz.func186, Tryz.ntmps186
  go_wp2_with fail
  refine bodyPost_ret (v := .agg #[.string ⟨#[115, 99, 114, 105, 112, 116]⟩, .string ⟨#[115, 116, 121, 108, 101]⟩, .string ⟨#[116, 101, 120, 116, 97, 114, 101, 97]⟩, .string ⟨#[116, 105, 116, 108, 101]⟩]) (by simp [results, Tryz.results186, go_sem]) rfl ⟨rfl, (Below.refl _ _).alloc (Nat.le_refl _) _⟩
set_option maxHeartbeats 2000000 in
set_option maxRecDepth 100000 in
theorem leads_any (w : World) : Calls Tryz.prog 299 #[] w fun e w' => e = .returned (.agg #[.string ⟨#[98, 97, 99, 107, 103, 114, 111, 117, 110, 100]⟩, .string ⟨#[104, 114, 101, 102]⟩, .string ⟨#[115, 114, 99]⟩]) ∧ Below w.heap.size w w' := by
  go_enter Tryz.func299, Tryz.ntmps299
  go_wp2_with fail
  refine bodyPost_ret (v := .agg #[.string ⟨#[98, 97, 99, 107, 103, 114, 111, 117, 110, 100]⟩, .string ⟨#[104, 114, 101, 102]⟩, .string ⟨#[115, 114, 99]⟩]) (by simp [results, Tryz.results299, go_sem]) rfl ⟨rfl, (Below.refl _ _).alloc (Nat.le_refl _) _⟩
def lnkC (x : Lnk) : List Value := [.int .i64 (x.1 : Int), .int .i64 (x.2.1 : Int), .string ⟨x.2.2.toArray⟩]
theorem lnkC_len (x : Lnk) : (lnkC x).length = 3 := rfl
theorem lnkC_one (x : Lnk) : ∀ u ∈ lnkC x, u.oneCell' = true := fun u hu => by
  simp [lnkC] at hu
  rcases hu with rfl | rfl | rfl <;> rfl
theorem infoLnk : (Tryz.prog.info? 96).map (fun i => (i.zero, i.size, i.bytes)) = some (some (.agg #[.int .i64 0, .int .i64 0, .string ByteArray.empty]), 3, 32) := by kernel_rfl
abbrev OwnL (w : World) (B : Nat) (v : Value) (l : List Lnk) : Prop := OwnG 96 3 lnkC w B v l
def Sc (B b : Nat) (s : Bs) (i : Nat) (out : List Lnk) (w : World) : Prop :=
  ∃ v, Blk w b #[.string ⟨s.toArray⟩, .int .i64 (i : Int), v] 165 ∧ OwnL w B v out ∧ B ≤ b
theorem Sc.next {B b : Nat} {s : Bs} {i : Nat} {out : List Lnk} {w w' : World} (h : Sc B b s i out w) (hb : Below w.heap.size w w') : Sc B b s i out w' := by
  obtain ⟨v, h1, h2, h3⟩ := h
  exact ⟨v, h1.next hb h1.lt, OwnG.next h2 hb, h3⟩
theorem Sc.drew {B b : Nat} {s : Bs} {i : Nat} {out : List Lnk} {w : World} (h : Sc B b s i out w) : Sc B b s i out w.drew := h
theorem Sc.at {B b : Nat} {s : Bs} {i : Nat} {out : List Lnk} {w : World} (h : Sc B b s i out w) (j : Nat) : Sc B b s j out (w.setCell ⟨b, 1, none⟩ (.int .i64 (j : Int))) := by
  obtain ⟨v, h1, h2, h3⟩ := h
  refine ⟨v, h1.set 1 (.int .i64 (j : Int)), ?_, h3⟩
  exact rowKeep h2 fun g hg => Below.heap_setCell w ⟨b, 1, none⟩ _ g (rowNe h2 h1 (by decide) g hg)
theorem Sc.lt {B b : Nat} {s : Bs} {i : Nat} {out : List Lnk} {w : World} (h : Sc B b s i out w) : b < w.heap.size := by
  obtain ⟨v, h1, _, _⟩ := h; exact h1.lt
theorem Sc.base {B b : Nat} {s : Bs} {i : Nat} {out : List Lnk} {w : World} (h : Sc B b s i out w) : B ≤ w.heap.size := by
  have := h.lt
  obtain ⟨v, _, _, h3⟩ := h; omega
theorem idxStr' (l p : Bs) (w : World) (hl : l.length < 4294967281) (hg : Ground w) :
    Calls Tryz.prog 66 #[.string ⟨l.toArray⟩, .string ⟨p.toArray⟩] w fun e w' => e = .returned (.int .i64 (Lib.index l p)) ∧ w' = w := (idxStr l p w hl hg).mono fun _ _ h => ⟨h.1, h.2.symm⟩
set_option maxHeartbeats 4000000 in
set_option maxRecDepth 100000 in
theorem skips_any (B b : Nat) (s p : Bs) (i : Nat) (out : List Lnk) (w : World) (hg : Gr w) (h : Sc B b s i out w) (hi : i ≤ s.length) (hs : s.length ≤ 1000000000) (hp : p.length ≤ 1000) :
    Calls Tryz.prog 99 #[.pointer (some ⟨b, 0, none⟩), .string ⟨p.toArray⟩] w fun e w' => e = .returned (.tuple #[]) ∧ Sc B b s (skipN s p i) out w' ∧ Below B w w' := by
  have hbase := h.base
  have H := Lib.hid h
  obtain ⟨v, hk, _, hBb⟩ := h
  have kc := hk.cell
  have hil : (i : Int) ≤ s.length := by omega
  have hi0 : (0 : Int) ≤ i := by omega
  have hX := fun n => idxStr' (s.drop i) p (w.drewN n) (by simp; omega) (hg.next (Go.below_drewN (Below.refl w.heap.size w) n)).g
  have HS := Lib.hid (show skipN s p i = if Lib.index (s.drop i) p < 0 then s.length else i + ((Lib.index (s.drop i) p).toNat + p.length) from rfl)
  have hix := index_le (s.drop i) p
  rw [List.length_drop] at hix
  generalize Lib.index (s.drop i) p = z at hX HS hix
  go_enter Tryz.func99, Tryz.ntmps99
  go_wp2_with fail
  go_quiet ((go_at_call 66; exact Calls.quiet_of_same (hX _)))
  have hB := Go.below_drewN (Below.refl B w) nq
  have H2 := H.out.next (Go.below_drewN (Below.refl w.heap.size w) nq)
  have hk2 := hk.next (Go.below_drewN (Below.refl w.heap.size w) nq) hk.lt
  generalize w.drewN nq = w2 at hB H2 hk2 ⊢
  clear kc hX
  have kc := hk2.cell
  have kf := hk2.free
  by_cases hz : z < 0
  · have HE := Lib.hid (show skipN s p i = s.length from by rw [HS.out, if_pos hz])
    go_wp2_with fail
    refine bodyPost_ret (results_none rfl _ _ _) rfl ?_
    exact ⟨rfl, by rw [HE.out]; exact H2.at s.length, hB.setCell hBb _⟩
  · have hz0 : 0 ≤ z := by omega
    obtain ⟨n, rfl⟩ : ∃ n : Nat, z = (n : Int) := ⟨z.toNat, by omega⟩
    have HE := Lib.hid (show skipN s p i = i + (n + p.length) from by rw [HS.out, if_neg hz]; rfl)
    have HV := Lib.hid (show ((i : Int) + ((n : Int) + (p.length : Int))) = ((i + (n + p.length) : Nat) : Int) from by omega)
    have hb1 : n + p.length ≤ s.length := by omega
    have hb2 : i + (n + p.length) ≤ s.length := by omega
    clear hix
    go_wp2_with fail
    go_end0
    exact ⟨rfl, by rw [HE.out, HV.out]; exact H2.at _, hB.setCell hBb _⟩
end Go.Proofs.YtignjjnflcpiiaaGreatDoor
