/- page.Escape; the lists of names; slices.Contains. Condition: the text takes at most 10^9 bytes; page's variable signs is as it is laid; The scanner of package page: its state; raws, leads; skips. Condition: the text takes at most 10^9 bytes; page's value: behind a value of an attribute. Condition: t. -/
import Derived.Test.YtignjjnflcpiiaaGreatDoorQ09
namespace Go.Proofs.YtignjjnflcpiiaaGreatDoor
open Go Go.RowKit
def sigP : List Pr := [(38, [38, 97, 109, 112, 59]), (34, [38, 113, 117, 111, 116, 59]), (39, [38, 35, 51, 57, 59]), (60, [38, 108, 116, 59]), (62, [38, 103, 116, 59])]
theorem sigP_ok : PrsOk sigP := PrsOk.of (by decide)
def escT (s : Bs) : Bs := rep (look sigP) s
def sigPair (k : Nat) : Pr := sigP.getD k (0, [])
theorem sigIndex0 (w : World) : (Instr.index 250 (.agg #[.string ⟨#[38]⟩, .string ⟨#[38, 97, 109, 112, 59]⟩, .string ⟨#[34]⟩, .string ⟨#[38, 113, 117, 111, 116, 59]⟩, .string ⟨#[39]⟩, .string ⟨#[38, 35, 51, 57, 59]⟩, .string ⟨#[60]⟩, .string ⟨#[38, 108, 116, 59]⟩, .string ⟨#[62]⟩, .string ⟨#[38, 103, 116, 59]⟩]) (.int .i64 0)).run Tryz.prog w = .ok (.agg #[.string ⟨#[38]⟩, .string ⟨#[38, 97, 109, 112, 59]⟩]) w := by kernel_rfl
theorem sigIndex1 (w : World) : (Instr.index 250 (.agg #[.string ⟨#[38]⟩, .string ⟨#[38, 97, 109, 112, 59]⟩, .string ⟨#[34]⟩, .string ⟨#[38, 113, 117, 111, 116, 59]⟩, .string ⟨#[39]⟩, .string ⟨#[38, 35, 51, 57, 59]⟩, .string ⟨#[60]⟩, .string ⟨#[38, 108, 116, 59]⟩, .string ⟨#[62]⟩, .string ⟨#[38, 103, 116, 59]⟩]) (.int .i64 1)).run Tryz.prog w = .ok (.agg #[.string ⟨#[34]⟩, .string ⟨#[38, 113, 117, 111, 116, 59]⟩]) w := by kernel_rfl
theorem sigIndex2 (w : World) : (Instr.index 250 (.agg #[.string ⟨#[38]⟩, .string ⟨#[38, 97, 109, 112, 59]⟩, .string ⟨#[34]⟩, .string ⟨#[38, 113, 117, 111, 116, 59]⟩, .string ⟨#[39]⟩, .string ⟨#[38, 35, 51, 57, 59]⟩, .string ⟨#[60]⟩, .string ⟨#[38, 108, 116, 59]⟩, .string ⟨#[62]⟩, .string ⟨#[38, 103, 116, 59]⟩]) (.int .i64 2)).run Tryz.prog w = .ok (.agg #[.string ⟨#[39]⟩, .string ⟨#[38, 35, 51, 57, 59]⟩]) w := by kernel_rfl
theorem sigIndex3 (w : World) : (Instr.index 250 (.agg #[.string ⟨#[38]⟩, .string ⟨#[38, 97, 109, 112, 59]⟩, .string ⟨#[34]⟩, .string ⟨#[38, 113, 117, 111, 116, 59]⟩, .string ⟨#[39]⟩, .string ⟨#[38, 35, 51, 57, 59]⟩, .string ⟨#[60]⟩, .string ⟨#[38, 108, 116, 59]⟩, .string ⟨#[62]⟩, .string ⟨#[38, 103, 116, 59]⟩]) (.int .i64 3)).run Tryz.prog w = .ok (.agg #[.string ⟨#[60]⟩, .string ⟨#[38, 108, 116, 59]⟩]) w := by kernel_rfl
theorem sigIndex4 (w : World) : (Instr.index 250 (.agg #[.string ⟨#[38]⟩, .string ⟨#[38, 97, 109, 112, 59]⟩, .string ⟨#[34]⟩, .string ⟨#[38, 113, 117, 111, 116, 59]⟩, .string ⟨#[39]⟩, .string ⟨#[38, 35, 51, 57, 59]⟩, .string ⟨#[60]⟩, .string ⟨#[38, 108, 116, 59]⟩, .string ⟨#[62]⟩, .string ⟨#[38, 103, 116, 59]⟩]) (.int .i64 4)).run Tryz.prog w = .ok (.agg #[.string ⟨#[62]⟩, .string ⟨#[38, 103, 116, 59]⟩]) w := by kernel_rfl
theorem sigIndex (k : Nat) (h : k < 5) (w : World) : (Instr.index 250 (.agg #[.string ⟨#[38]⟩, .string ⟨#[38, 97, 109, 112, 59]⟩, .string ⟨#[34]⟩, .string ⟨#[38, 113, 117, 111, 116, 59]⟩, .string ⟨#[39]⟩, .string ⟨#[38, 35, 51, 57, 59]⟩, .string ⟨#[60]⟩, .string ⟨#[38, 108, 116, 59]⟩, .string ⟨#[62]⟩, .string ⟨#[38, 103, 116, 59]⟩]) (.int .i64 (k : Int))).run Tryz.prog w = .ok (.agg #[.string ⟨#[(sigPair k).1]⟩, .string ⟨(sigPair k).2.toArray⟩]) w := by
  have : k = 0 ∨ k = 1 ∨ k = 2 ∨ k = 3 ∨ k = 4 := by omega
  rcases this with rfl | rfl | rfl | rfl | rfl
  · exact sigIndex0 w
  · exact sigIndex1 w
  · exact sigIndex2 w
  · exact sigIndex3 w
  · exact sigIndex4 w
theorem cellP2 (w : World) (p : Pr) (t : TypeId) : ∀ j u, ((prL [p]).flatMap strC)[j]? = some u → (w.alloc (.cells #[.string ⟨#[p.1]⟩, .string ⟨p.2.toArray⟩] t)).cell? ((⟨w.heap.size, 0, none⟩ : Addr).add j) = some u := fun j u hj => by
  rw [addr_add0, (Blk.new w _ t).cell]
  rw [prL_cells] at hj
  match j, hj with
  | 0, hj => exact hj
  | 1, hj => exact hj
  | j + 2, hj => simp [prC] at hj
theorem cellP2n (w : World) (p : Pr) (t : TypeId) (n : Nat) (hn : w.heap.size = n) : ∀ j u, ((prL [p]).flatMap strC)[j]? = some u → (w.alloc (.cells #[.string ⟨#[p.1]⟩, .string ⟨p.2.toArray⟩] t)).cell? ((⟨n, 0, none⟩ : Addr).add j) = some u := hn ▸ cellP2 w p t
theorem prL_app (a b : List Pr) : prL (a ++ b) = prL a ++ prL b := by unfold prL; rw [List.flatMap_append]
theorem sigP_take (k : Nat) (h : k < 5) : sigP.take (k + 1) = sigP.take k ++ [sigPair k] := by
  have : k = 0 ∨ k = 1 ∨ k = 2 ∨ k = 3 ∨ k = 4 := by omega
  rcases this with rfl | rfl | rfl | rfl | rfl <;> rfl
set_option maxHeartbeats 4000000 in
set_option maxRecDepth 100000 in
theorem escape_any (s : Bs) (w : World) (hg : Gr w) (hs : s.length ≤ 1000000000) :
    Calls Tryz.prog 104 #[.string ⟨s.toArray⟩] w fun e w' => e = .returned (.string ⟨(escT s).toArray⟩) ∧ Below w.heap.size w w' := by
  have c0 : w.cell? ⟨1, 0, none⟩ = some (.string ⟨#[38]⟩) := hg.signs 0 (by decide)
  have c1 : w.cell? ⟨1, 1, none⟩ = some (.string ⟨#[38, 97, 109, 112, 59]⟩) := hg.signs 1 (by decide)
  have c2 : w.cell? ⟨1, 2, none⟩ = some (.string ⟨#[34]⟩) := hg.signs 2 (by decide)
  have c3 : w.cell? ⟨1, 3, none⟩ = some (.string ⟨#[38, 113, 117, 111, 116, 59]⟩) := hg.signs 3 (by decide)
  have c4 : w.cell? ⟨1, 4, none⟩ = some (.string ⟨#[39]⟩) := hg.signs 4 (by decide)
  have c5 : w.cell? ⟨1, 5, none⟩ = some (.string ⟨#[38, 35, 51, 57, 59]⟩) := hg.signs 5 (by decide)
  have c6 : w.cell? ⟨1, 6, none⟩ = some (.string ⟨#[60]⟩) := hg.signs 6 (by decide)
  have c7 : w.cell? ⟨1, 7, none⟩ = some (.string ⟨#[38, 108, 116, 59]⟩) := hg.signs 7 (by decide)
  have c8 : w.cell? ⟨1, 8, none⟩ = some (.string ⟨#[62]⟩) := hg.signs 8 (by decide)
  have c9 : w.cell? ⟨1, 9, none⟩ = some (.string ⟨#[38, 103, 116, 59]⟩) := hg.signs 9 (by decide)
  go_enter Tryz.func104, Tryz.ntmps104
  go_wp2_with fail
  clear c0 c1 c2 c3 c4 c5 c6 c7 c8 c9
  go_loopw [3, 7] (fun v i wr => ∃ k : Nat, i = .int .i64 k ∧ k ≤ 5 ∧ OwnT wr w.heap.size v (prL (sigP.take k)) ∧ Below w.heap.size w wr) (fun _ i _ => 5 - (intOf i).toNat)
  case atStart => exact ⟨0, rfl, by omega, OwnG.nil _ _ _ _ _, Below.refl _ _⟩
  case round =>
    obtain ⟨k, rfl, hk, hown, B⟩ := hrel
    by_cases h5 : k < 5
    · have hI := sigIndex k h5
      have HT := Lib.hid (show prL (sigP.take (k + 1)) = prL (sigP.take k) ++ prL [sigPair k] from by rw [sigP_take k h5, prL_app])
      have hl1 := prL_len (sigP.take k)
      have hl2 : (sigP.take k).length ≤ 5 := by simp; omega
      have hl3 : (prL (sigP.take k)).length ≤ 10 := by omega
      clear hl1 hl2
      generalize prL (sigP.take k) = xs at hown HT hl3
      generalize sigPair k = p at hI HT
      have kp := (Blk.new wr #[.string ⟨#[p.1]⟩, .string ⟨p.2.toArray⟩] 249).cell
      have hown1 := OwnG.alloc hown (.cells #[.string ⟨#[p.1]⟩, .string ⟨p.2.toArray⟩] 249)
      have hown2 := OwnG.alloc hown1 (.cells #[.string ⟨#[p.1]⟩, .string ⟨p.2.toArray⟩] 9)
      have B1 := B.alloc B.size (.cells #[.string ⟨#[p.1]⟩, .string ⟨p.2.toArray⟩] 249)
      have B2 := B1.alloc B1.size (.cells #[.string ⟨#[p.1]⟩, .string ⟨p.2.toArray⟩] 9)
      have hct := cellP2n (wr.alloc (.cells #[.string ⟨#[p.1]⟩, .string ⟨p.2.toArray⟩] 249)) p 9 (wr.heap.size + 1) (by simp)
      have hbs := B2.size
      have hlp : 2 = (prL [p]).length := rfl
      have Hlp := Lib.hid hlp; clear hlp
      go_wp2_with (at_builtin; refine appG (α := Bs) (cs := strC) (size := 1) (z := .string ByteArray.empty) strC_len strC_one infoStr rfl (by decide) Tryz.underlying55 rfl _ _ rfl w.heap.size _ xs (prL [p]) ⟨wr.heap.size + 1, 0, none⟩ 2 2 Hlp.out rfl hown2 rfl hct (by rw [← Hlp.out]; omega) (by rw [← Hlp.out]; unfold maxLen; omega) hbs ?_; intro v' w4 hown4 hg4 hb4)
      go_wp2_with fail
      go_roundw
      case rel => exact ⟨k + 1, by go_num, by omega, by rw [HT.out]; exact hown4, B2.trans hb4⟩
      case measure => simp [intOf]; omega
    · obtain rfl : k = 5 := by omega
      obtain ⟨b, cap, hv, hlt, hc⟩ := OwnT.pr hown (by decide)
      subst hv
      obtain ⟨a2, cap2, hv2, hc2⟩ := OwnG.rd (by decide) strC_len hown
      have hl : (prL (sigP.take 5)).length = 10 := rfl
      obtain ⟨b2, ha2, hlt2, hcell2⟩ := hc2 (by decide)
      injection hv2 with hv2a _ _
      rw [ha2] at hv2a
      injection hv2a with hv2a
      injection hv2a with hv2b _ _
      subst hv2b
      obtain ⟨n, hn⟩ : ∃ n, n = 2 * (sigP.take 5).length := ⟨_, rfl⟩
      rw [← hn]
      have hNR := newRep_any b cap2 sigP wr (fun j u hj => by
        rw [addr_add0]
        have hjl : j < 10 := by
          have := (List.getElem?_eq_some_iff.1 hj).1
          exact this
        rw [hcell2 j (by rw [hl]; omega), prL_cells]; exact hj) (by decide) (by decide) n hn
      have Hn := Lib.hid hn; clear hn
      have HNR := Lib.hid hNR
      clear hNR hc hown hcell2 hc2
      go_wp2_with fail
      with_reducible refine HNR.out.mono ?_
      rintro e w5 ⟨b5, v5, rfl, hB5, hk5, hrd5, hne5, hb5⟩
      have B5 := B.trans (hb5.mono B.size)
      have hRp := replace_any b5 v5 sigP sigP_ok s w5 hk5 hrd5 hne5 hs
      have hwb5 : w.heap.size ≤ b5 := Nat.le_trans B.size hB5
      clear hb5 hk5 hrd5 hne5 hB5
      go_wp2_with fail
      refine hRp.mono ?_
      rintro e w6 ⟨rfl, hb6⟩
      go_wp2_with fail
      go_ret
      exact ⟨rfl, B5.trans (hb6.mono hwb5)⟩
set_option maxHeartbeats 2000000 in
set_option maxRecDepth 100000 in
theorem raws_any (w : World) : Calls Tryz.prog 186 #[] w fun e w' => e = .returned (.agg #[.string ⟨#[115, 99, 114, 105, 112, 116]⟩, .string ⟨#[115, 116, 121, 108, 101]⟩, .string ⟨#[116, 101, 120, 116, 97, 114, 101, 97]⟩, .string ⟨#[116, 105, 116, 108, 101]⟩]) ∧ Below w.heap.size w w' := by
  go_enter Tryz.func186, Tryz.ntmps186
  go_wp2_with fail
  refine bodyPost_ret (v := .agg #[.string ⟨#[115, 99, 114, 105, 112, 116]⟩, .string ⟨#[115, 116, 121, 108, 101]⟩, .string ⟨#[116, 101, 120, 116, 97, 114, 101, 97]⟩, .string ⟨#[116, 105, 116, 108, 101]⟩]) (by simp [results, Tryz.results186, go_sem]) rfl ⟨rfl, (Below.refl _ _).alloc (Nat.le_refl _) _⟩
set_option maxHeartbeats 2000000 in
set_option maxRecDepth 100000 in
theorem leads_any (w : World) : Calls Tryz.prog 299 #[] w fun e w' => e = .returned (.agg #[.string ⟨#[98, 97, 99, 107, 103, 114, 111, 117, 110, 100]⟩, .string ⟨#[104, 114, 101, 102]⟩, .string ⟨#[115, 114, 99]⟩]) ∧ Below w.heap.size w w' := by
  go_enter Tryz.func299, Tryz.ntmps299
  go_wp2_with fail
  refine bodyPost_ret (v := .agg #[.string ⟨#[98, 97, 99, 107, 103, 114, 111, 117, 110, 100]⟩, .string ⟨#[104, 114, 101, 102]⟩, .string ⟨#[115, 114, 99]⟩]) (by simp [results, Tryz.results299, go_sem]) rfl ⟨rfl, (Below.refl _ _).alloc (Nat.le_refl _) _⟩
def lnkC (x : Lnk) : List Value := [.int .i64 (x.1 : Int), .int .i64 (x.2.1 : Int), .string ⟨x.2.2.toArray⟩]
theorem lnkC_len (x : Lnk) : (lnkC x).length = 3 := rfl
theorem lnkC_one (x : Lnk) : ∀ u ∈ lnkC x, u.oneCell' = true := fun u hu => by
  simp [lnkC] at hu
  rcases hu with rfl | rfl | rfl <;> rfl
theorem infoLnk : (Tryz.prog.info? 96).map (fun i => (i.zero, i.size, i.bytes)) = some (some (.agg #[.int .i64 0, .int .i64 0, .string ByteArray.empty]), 3, 32) := by kernel_rfl
abbrev OwnL (w : World) (B : Nat) (v : Value) (l : List Lnk) : Prop := OwnG 96 3 lnkC w B v l
def Sc (B b : Nat) (s : Bs) (i : Nat) (out : List Lnk) (w : World) : Prop :=
  ∃ v, Blk w b #[.string ⟨s.toArray⟩, .int .i64 (i : Int), v] 165 ∧ OwnL w B v out ∧ B ≤ b
theorem Sc.next {B b : Nat} {s : Bs} {i : Nat} {out : List Lnk} {w w' : World} (h : Sc B b s i out w) (hb : Below w.heap.size w w') : Sc B b s i out w' := by
  obtain ⟨v, h1, h2, h3⟩ := h
  exact ⟨v, h1.next hb h1.lt, OwnG.next h2 hb, h3⟩
theorem Sc.drew {B b : Nat} {s : Bs} {i : Nat} {out : List Lnk} {w : World} (h : Sc B b s i out w) : Sc B b s i out w.drew := h
theorem Sc.at {B b : Nat} {s : Bs} {i : Nat} {out : List Lnk} {w : World} (h : Sc B b s i out w) (j : Nat) : Sc B b s j out (w.setCell ⟨b, 1, none⟩ (.int .i64 (j : Int))) := by
  obtain ⟨v, h1, h2, h3⟩ := h
  refine ⟨v, h1.set 1 (.int .i64 (j : Int)), ?_, h3⟩
  exact rowKeep h2 fun g hg => Below.heap_setCell w ⟨b, 1, none⟩ _ g (rowNe h2 h1 (by decide) g hg)
theorem Sc.lt {B b : Nat} {s : Bs} {i : Nat} {out : List Lnk} {w : World} (h : Sc B b s i out w) : b < w.heap.size := by
  obtain ⟨v, h1, _, _⟩ := h; exact h1.lt
theorem Sc.base {B b : Nat} {s : Bs} {i : Nat} {out : List Lnk} {w : World} (h : Sc B b s i out w) : B ≤ w.heap.size := by
  have := h.lt
  obtain ⟨v, _, _, h3⟩ := h; omega
theorem idxStr' (l p : Bs) (w : World) (hl : l.length < 4294967281) (hg : Ground w) :
    Calls Tryz.prog 66 #[.string ⟨l.toArray⟩, .string ⟨p.toArray⟩] w fun e w' => e = .returned (.int .i64 (Lib.index l p)) ∧ w' = w := (idxStr l p w hl hg).mono fun _ _ h => ⟨h.1, h.2.symm⟩
set_option maxHeartbeats 4000000 in
set_option maxRecDepth 100000 in
theorem skips_any (B b : Nat) (s p : Bs) (i : Nat) (out : List Lnk) (w : World) (hg : Gr w) (h : Sc B b s i out w) (hi : i ≤ s.length) (hs : s.length ≤ 1000000000) (hp : p.length ≤ 1000) :
    Calls Tryz.prog 99 #[.pointer (some ⟨b, 0, none⟩), .string ⟨p.toArray⟩] w fun e w' => e = .returned (.tuple #[]) ∧ Sc B b s (skipN s p i) out w' ∧ Below B w w' := by
  have hbase := h.base
  have H := Lib.hid h
  obtain ⟨v, hk, _, hBb⟩ := h
  have kc := hk.cell
  have hil : (i : Int) ≤ s.length := by omega
  have hi0 : (0 : Int) ≤ i := by omega
  have hX := fun n => idxStr' (s.drop i) p (w.drewN n) (by simp; omega) (hg.next (Go.below_drewN (Below.refl w.heap.size w) n)).g
  have HS := Lib.hid (show skipN s p i = if Lib.index (s.drop i) p < 0 then s.length else i + ((Lib.index (s.drop i) p).toNat + p.length) from rfl)
  have hix := index_le (s.drop i) p
  rw [List.length_drop] at hix
  generalize Lib.index (s.drop i) p = z at hX HS hix
  go_enter Tryz.func99, Tryz.ntmps99
  go_wp2_with fail
  go_quiet ((go_at_call 66; exact Calls.quiet_of_same (hX _)))
  have hB := Go.below_drewN (Below.refl B w) nq
  have H2 := H.out.next (Go.below_drewN (Below.refl w.heap.size w) nq)
  have hk2 := hk.next (Go.below_drewN (Below.refl w.heap.size w) nq) hk.lt
  generalize w.drewN nq = w2 at hB H2 hk2 ⊢
  clear kc hX
  have kc := hk2.cell
  have kf := hk2.free
  by_cases hz : z < 0
  · have HE := Lib.hid (show skipN s p i = s.length from by rw [HS.out, if_pos hz])
    go_wp2_with fail
    refine bodyPost_ret (results_none rfl _ _ _) rfl ?_
    exact ⟨rfl, by rw [HE.out]; exact H2.at s.length, hB.setCell hBb _⟩
  · have hz0 : 0 ≤ z := by omega
    obtain ⟨n, rfl⟩ : ∃ n : Nat, z = (n : Int) := ⟨z.toNat, by omega⟩
    have HE := Lib.hid (show skipN s p i = i + (n + p.length) from by rw [HS.out, if_neg hz]; rfl)
    have HV := Lib.hid (show ((i : Int) + ((n : Int) + (p.length : Int))) = ((i + (n + p.length) : Nat) : Int) from by omega)
    have hb1 : n + p.length ≤ s.length := by omega
    have hb2 : i + (n + p.length) ≤ s.length := by omega
    clear hix
    go_wp2_with fail
    go_end0
    exact ⟨rfl, by rw [HE.out, HV.out]; exact H2.at _, hB.setCell hBb _⟩
theorem stepG {α : Type} {el size : Nat} {cs : α → List Value} {t bytes : Nat} {z : Value} (hcs : ∀ x, (cs x).length = size) (hone : ∀ x, ∀ u ∈ cs x, u.oneCell' = true)
    (hinfo : (Tryz.prog.info? el).map (fun i => (i.zero, i.size, i.bytes)) = some (some z, size, bytes)) (hzs : z.cells.size = size) (hsz : 0 < size) (ht : Tryz.prog.underlying t = some (.slice el))
    {ops : Array Oper} {o : Oper} {a : Act} {w : World} {K : Act → World → Prop} {Q : Exit → Act → World → Prop} {E : Prop} (hgd : o.guard = none) (s x : Operand)
    (ho : o.op = .call { callee := .builtin .append, args := #[s, x], argTypes := #[t, t] }) (B : Nat) (v : Value) (xs ys : List α) (ad : Addr) (m c : Nat) (hm : m = ys.length) (h0 : 0 < m)
    (hs : a.eval s = v) (hown : OwnG el size cs w B v xs) (hx : a.eval x = .slice (some ad) m c) (hc : ∀ j u, (ys.flatMap cs)[j]? = some u → w.cell? (ad.add j) = some u) (hn : (xs.length + ys.length) * bytes ≤ 140737488355328) (hn2 : xs.length + ys.length ≤ maxLen) (hbase : B ≤ w.heap.size)
    (h : ∀ v' w', OwnG el size cs w' B v' (xs ++ ys) → w.grownBy w' v.ownBlock → Below B w w' → K (a.put o.dst v') w') : if Region.wanted o (yielded ops a.tmps) = true then Oper.wp Tryz.prog o a w K Q else E := by
  subst hm
  obtain ⟨i0, hi, hz0, hz1, hz2⟩ := info_parts hinfo
  refine step_append_lies (w := w) hgd s x t ho B el i0 z size bytes ht hi hz0 hz1 hz2 hzs hsz v xs.length _ hs hown ad ys.length c (ys.flatMap cs) hx (flat_len hcs ys) hc (fun u hu => ?_) h0 hn2 hn hbase _ rfl ?_
  · obtain ⟨y, _, hy⟩ := List.mem_flatMap.1 hu
    exact hone y u hy
  · intro g cap w' h1 h2 _ _
    refine h _ w' ?_ h2 ((Below.refl B w).grown h2 hbase fun k hk => ?_)
    · unfold OwnG
      rw [List.flatMap_append, List.length_append]; exact h1
    · rcases hown.2 with ⟨hv, _⟩ | ⟨g, cap, cur, hv, hg, _⟩
      · rw [hv] at hk; cases hk
      · rw [hv] at hk; injection hk with hk; rw [← hk]; exact hg
theorem containsL (bk c n : Nat) (xs : List Bs) (x : Bs) (w : World) (hn : n = xs.length) (hc : ∀ j (h : j < xs.length), w.cell? ⟨bk, j, none⟩ = some (.string ⟨(xs[j]).toArray⟩)) (hbig : n ≤ 1000000000000) :
    Calls Tryz.prog 187 #[.slice (some ⟨bk, 0, none⟩) n c, .string ⟨x.toArray⟩] w fun e w' => e = .returned (.bool (xs.contains x)) ∧ w = w' := by
  subst hn
  refine (Tryz.slices_Contains_string bk 0 xs.length c (xs.map fun y => (⟨y.toArray⟩ : ByteArray)) ⟨x.toArray⟩ w (by simp) (by omega) (fun j hj => ?_)).mono ?_
  · rw [List.length_map] at hj
    rw [Nat.zero_add, hc j hj]
    simp [List.getD_eq_getElem?_getD, hj]
  · rintro e w' ⟨rfl, rfl⟩
    refine ⟨ret_bool ?_, rfl⟩
    rw [List.take_of_length_le (by simp), Bool.eq_iff_iff, Lib.containsS_iff, List.contains_iff_mem, List.mem_map]
    constructor
    · rintro ⟨y, hy, h⟩
      have h2 : y.toArray = x.toArray := congrArg ByteArray.data h
      have : y = x := by simpa using h2
      rw [← this]; exact hy
    · exact fun h => ⟨x, h, rfl⟩
theorem cellL1 (w : World) (x : Lnk) (t : TypeId) : ∀ j u, ([x].flatMap lnkC)[j]? = some u → (w.alloc (.cells #[.int .i64 (x.1 : Int), .int .i64 (x.2.1 : Int), .string ⟨x.2.2.toArray⟩] t)).cell? ((⟨w.heap.size, 0, none⟩ : Addr).add j) = some u := fun j u hj => by
  rw [addr_add0, (Blk.new w _ t).cell]
  match j, hj with
  | 0, hj => exact hj
  | 1, hj => exact hj
  | 2, hj => exact hj
  | j + 3, hj => simp [lnkC] at hj
def quoB (c : UInt8) : Bool := c == 34 || c == 39
def valK (c : UInt8) (l : Bs) : Int := if quoB c then Lib.indexByte l c else Lib.indexAny (c :: l) [32, 9, 13, 10, 62]
def valO (c : UInt8) : Nat := if quoB c then 1 else 0
theorem valueN_nil {s name : Bs} {i : Nat} (h : s.drop i = []) : valueN s name i = (false, i, []) := by unfold valueN; rw [h]
theorem valueN_cons {s name : Bs} {i : Nat} {c : UInt8} {l : Bs} (h : s.drop i = c :: l) : valueN s name i = if valK c l < 0 then (false, s.length, []) else (true, i + (valK c l).toNat + 2 * valO c, if leadsT.contains name then [(i + valO c, (valK c l).toNat, unescT (((c :: l).drop (valO c)).take (valK c l).toNat))] else []) := by
  unfold valueN; rw [h]; rfl
theorem valK_le (c : UInt8) (l : Bs) : valK c l < 0 ∨ (0 ≤ valK c l ∧ (valK c l).toNat + 2 * valO c ≤ l.length + 1) := by
  unfold valK valO
  split
  · rcases indexByte_le l c with h | h
    · exact Or.inl h
    · right; omega
  · rcases indexAny_le (c :: l) [32, 9, 13, 10, 62] with h | h
    · exact Or.inl h
    · right; simp at h; omega
theorem quoB_int (c : UInt8) : quoB c = (((c.toNat : Int) == 34) || ((c.toNat : Int) == 39)) := by
  have h : ∀ d : UInt8, (c == d) = ((c.toNat : Int) == (d.toNat : Int)) := fun d => by
    by_cases e : c = d
    · subst e; simp
    · rw [beq_eq_false_iff_ne.2 e, u8_ne e]
  unfold quoB
  rw [h 34, h 39]; rfl
set_option maxHeartbeats 8000000 in
set_option maxRecDepth 100000 in
theorem pvalue_any (B b : Nat) (s name : Bs) (i : Nat) (out : List Lnk) (w : World) (hg : Gr w) (h : Sc B b s i out w) (hi : i ≤ s.length) (hs : s.length ≤ 1000000000) (hol : out.length ≤ 1000000000) :
    Calls Tryz.prog 264 #[.pointer (some ⟨b, 0, none⟩), .string ⟨name.toArray⟩] w fun e w' => e = .returned (.bool (valueN s name i).1) ∧ Sc B b s (valueN s name i).2.1 (out ++ (valueN s name i).2.2) w' ∧ Below B w w' := by
  have hbase := h.base
  have H := Lib.hid h
  obtain ⟨v, hk, _, hBb⟩ := h
  have kc := hk.cell
  have hil : (i : Int) ≤ s.length := by omega
  have hi0 : (0 : Int) ≤ i := by omega
  go_enter Tryz.func264, Tryz.ntmps264
  go_wp2_with fail
  go_quiet (fail)
  have hB := Go.below_drewN (Below.refl B w) nq
  have H2 := Lib.hid (H.out.next (Go.below_drewN (Below.refl w.heap.size w) nq))
  have hg2 := hg.next (Go.below_drewN (Below.refl w.heap.size w) nq)
  clear kc hk
  generalize w.drewN nq = w2 at hB H2 hg2 ⊢
  cases hd : s.drop i with
  | nil =>
    have HV := Lib.hid (valueN_nil (name := name) hd)
    clear hd
    go_wp2_with fail
    go_ret
    exact ⟨by rw [HV.out]; rfl, by rw [HV.out, List.append_nil]; exact H2.out, hB⟩
  | cons c l =>
    have HV := Lib.hid (valueN_cons (name := name) hd)
    have hlen : i + (l.length + 1) = s.length := by
      have := congrArg List.length hd
      rw [List.length_drop, List.length_cons] at this; omega
    have Hlen := Lib.hid hlen
    have hK := valK_le c l
    have hll : l.length + 1 ≤ 1000000000 := by omega
    have HKd := Lib.hid (show valK c l = if quoB c then Lib.indexByte l c else Lib.indexAny (c :: l) [32, 9, 13, 10, 62] from rfl)
    have HOd := Lib.hid (show valO c = if quoB c then 1 else 0 from rfl)
    have HQ := Lib.hid (quoB_int c)
    have hc256 : (c.toNat : Int) < 256 := by have := c.toNat_lt; omega
    clear hd hlen
    generalize valK c l = kz at HV hK HKd
    generalize valO c = o at HV hK HOd
    go_upto_region 5 with fail
    go_cut [27] (fun t wx => t = .bool (quoB c) ∧ wx = w2)
    case first =>
      by_cases h34 : ((c.toNat : Int) == 34) = true
      · go_wp2_with fail
        go_meet
        exact ⟨by rw [HQ.out, h34]; rfl, rfl⟩
      · have h34 := Bool.eq_false_iff.2 h34
        by_cases h39 : ((c.toNat : Int) == 39) = true
        · go_wp2_with fail
          go_meet
          exact ⟨by rw [HQ.out, h34, h39]; rfl, rfl⟩
        · have h39 := Bool.eq_false_iff.2 h39
          go_wp2_with fail
          go_meet
          exact ⟨by rw [HQ.out, h34, h39]; rfl, rfl⟩
    case rest =>
    obtain ⟨rfl, rfl⟩ := hcut
    obtain ⟨w2, rfl⟩ : ∃ x : World, x = wc := ⟨_, rfl⟩
    clear HQ
    go_upto_if 27 with fail
    go_cut [6, 7] (fun t u wx => t = .int .i64 (o : Int) ∧ u = .int .i64 kz ∧ Below w2.heap.size w2 wx)
    case first =>
      generalize quoB c = q at HKd HOd ⊢
      cases q with
      | true =>
        have HK1 := Lib.hid (show kz = Lib.indexByte l c from by rw [HKd.out]; rfl)
        have HO1 := Lib.hid (show o = 1 from by rw [HOd.out]; rfl)
        go_wp2_with fail
        go_quiet ((go_at_call 100; exact Calls.quiet_of_same (idxByte0 l (c.toNat : Int) c (u8_nat c) _)))
        go_wp2_with fail
        go_meet
        exact ⟨by rw [HO1.out]; rfl, by rw [HK1.out], Go.below_drewN (Below.refl _ _) _⟩
      | false =>
        have HK1 := Lib.hid (show kz = Lib.indexAny (c :: l) [32, 9, 13, 10, 62] from by rw [HKd.out]; rfl)
        have HO1 := Lib.hid (show o = 0 from by rw [HOd.out]; rfl)
        go_wp2_with fail
        refine (idxAny (c :: l) [32, 9, 13, 10, 62] (by decide) (by decide) (by decide) (by simp; omega) _).mono ?_
        rintro e w3 ⟨rfl, hb⟩
        go_wp2_with fail
        go_meet
        exact ⟨by rw [HO1.out]; rfl, by rw [HK1.out], hb⟩
    case rest =>
    obtain ⟨rfl, rfl, hb3⟩ := hcut
    obtain ⟨w3, rfl⟩ : ∃ x : World, x = wc := ⟨_, rfl⟩
    have H3 := H2.out.next hb3
    have hg3 := hg2.next hb3
    have hB3 := hB.trans (hb3.mono (Nat.le_trans hbase hB.size))
    have H3' := Lib.hid H3
    obtain ⟨v3, hk3, hown3, _⟩ := H3
    have ho1 : o ≤ 1 := by have := HOd.out; split at this <;> omega
    clear hb3 hg2 H2 HKd HOd hB
    by_cases hz : kz < 0
    · have HE := Lib.hid (show valueN s name i = (false, s.length, []) from by rw [HV.out, if_pos hz])
      have kc3 := hk3.cell
      have kf3 := hk3.free
      go_wp2_with fail
      go_ret
      exact ⟨by rw [HE.out]; rfl, by rw [HE.out, List.append_nil]; exact H3'.out.at s.length, hB3.setCell hBb _⟩
    · have hz0 : 0 ≤ kz := by omega
      obtain ⟨n, rfl⟩ : ∃ n : Nat, kz = (n : Int) := ⟨kz.toNat, by omega⟩
      have HE := Lib.hid (show valueN s name i = (true, i + n + 2 * o, if leadsT.contains name then [(i + o, n, unescT (((c :: l).drop o).take n))] else []) from by rw [HV.out, if_neg hz]; rfl)
      have hno : n + 2 * o ≤ l.length + 1 := by omega
      clear HV hK hz
      go_wp2_with fail
      refine (leads_any _).mono ?_
      rintro e w4 ⟨rfl, hb4⟩
      have H5 := (H3'.out.next hb4).next ((Below.refl w4.heap.size w4).alloc (Nat.le_refl _) (.cells #[.string ⟨#[98, 97, 99, 107, 103, 114, 111, 117, 110, 100]⟩, .string ⟨#[104, 114, 101, 102]⟩, .string ⟨#[115, 114, 99]⟩] 343))
      have hg5 := (hg3.next hb4).next ((Below.refl w4.heap.size w4).alloc (Nat.le_refl _) (.cells #[.string ⟨#[98, 97, 99, 107, 103, 114, 111, 117, 110, 100]⟩, .string ⟨#[104, 114, 101, 102]⟩, .string ⟨#[115, 114, 99]⟩] 343))
      have hbs := H3'.out.base
      have hB5 := (hB3.trans (hb4.mono hbs)).alloc (Nat.le_trans hbs hb4.size) (.cells #[.string ⟨#[98, 97, 99, 107, 103, 114, 111, 117, 110, 100]⟩, .string ⟨#[104, 114, 101, 102]⟩, .string ⟨#[115, 114, 99]⟩] 343)
      have hCL := containsL w4.heap.size 3 3 leadsT name (w4.alloc (.cells #[.string ⟨#[98, 97, 99, 107, 103, 114, 111, 117, 110, 100]⟩, .string ⟨#[104, 114, 101, 102]⟩, .string ⟨#[115, 114, 99]⟩] 343)) rfl (fun j hj => by
        rw [(Blk.new w4 _ _).cell]
        match j, hj with
        | 0, _ => rfl
        | 1, _ => rfl
        | 2, _ => rfl) (by decide)
      clear hb4 hg3 hB3 hk3 hown3 H3' hbs
      go_wp2_with fail
      refine hCL.mono ?_
      rintro e w' ⟨rfl, rfl⟩
      clear hCL
      generalize (w4.alloc (.cells #[.string ⟨#[98, 97, 99, 107, 103, 114, 111, 117, 110, 100]⟩, .string ⟨#[104, 114, 101, 102]⟩, .string ⟨#[115, 114, 99]⟩] 343)) = w5 at H5 hg5 hB5 ⊢
      have HV2 := Lib.hid (show (i : Int) + ((n : Int) + 2 * (o : Int)) = ((i + n + 2 * o : Nat) : Int) from by omega)
      have hb0 : i + n + 2 * o ≤ s.length := by have := Hlen.out; omega
      have hbase5 := H5.base
      generalize leadsT.contains name = isL at HE ⊢
      cases isL with
      | false =>
        have HE2 := Lib.hid (show valueN s name i = (true, i + n + 2 * o, []) from by rw [HE.out]; rfl)
        have H5' := Lib.hid H5
        obtain ⟨v5, hk5, _, _⟩ := H5
        have kc5 := hk5.cell
        have kf5 := hk5.free
        clear HE
        go_wp2_with fail
        rw [HV2.out]
        go_ret
        exact ⟨by rw [HE2.out]; rfl, by rw [HE2.out, List.append_nil]; exact H5'.out.at (i + n + 2 * o), hB5.setCell hBb _⟩
      | true =>
        have HE2 := Lib.hid (show valueN s name i = (true, i + n + 2 * o, [(i + o, n, unescT (((c :: l).drop o).take n))]) from by rw [HE.out]; rfl)
        obtain ⟨v5, hk5, hown5, _⟩ := H5
        have kcd := (Blk.drew hk5).cell
        have hgd : Gr w5.drew := hg5.next ((Below.refl _ _).drew)
        have hUn := unescape_any (((c :: l).drop o).take n) w5.drew hgd (by simp; omega)
        have hlen2 : (((c :: l).drop o).take n).length ≤ 1000000000 := by simp; omega
        generalize hun : unescT (((c :: l).drop o).take n) = un at hUn HE2
        clear hun HE
        have HV3 := Lib.hid (show (i : Int) + (o : Int) = ((i + o : Nat) : Int) from by omega)
        have HB5 := Lib.hid hB5
        have hne5 := Lib.hid (rowNe hown5 hk5 (by decide))
        go_wp2_with fail
        have z1 : IntKind.i64.wrap ((i : Int) + (o : Int)) = (i : Int) + (o : Int) := IntWalk.i64_in _ (by omega)
        have z2 : IntKind.i64.wrap ((o : Int) + (n : Int)) = (o : Int) + (n : Int) := IntWalk.i64_in _ (by omega)
        have z3 : ((o : Int) + (n : Int)).toNat = o + n := by omega
        have z4 : (0 : Int) ≤ o := by omega
        have z5 : (o : Int) ≤ (o : Int) + (n : Int) := by omega
        have z6 : (o : Int) + (n : Int) ≤ (l.length : Int) + 1 := by omega
        have z7 : o + n - o = n := by omega
        have q1 := Lib.hid (show (out.length + [(i + o, n, un)].length) * 32 ≤ 140737488355328 from by simp; omega)
        have q2 := Lib.hid (show out.length + [(i + o, n, un)].length ≤ maxLen from by unfold maxLen; simp; omega)
        go_region_law ((first
          | (refine stepG (α := Lnk) (cs := lnkC) (size := 3) (z := .agg #[.int .i64 0, .int .i64 0, .string ByteArray.empty]) lnkC_len lnkC_one infoLnk rfl (by decide) Tryz.underlying93 rfl _ _ rfl B _ out [(i + o, n, un)] ⟨w10.heap.size, 0, none⟩ 1 1 rfl (by decide) rfl hown10 rfl hcell10 q1.out q2.out hbase10.out ?_; intro v' w11 hown11 hg11 hb11; have hk11 := hk10.out.grown hg11 hne5.out; have kc11 := hk11.cell 2; have kf11 := hk11.free 2; obtain ⟨a11, cap11, hv11, _⟩ := OwnG.rd (by decide) lnkC_len hown11; subst hv11)
          | (go_simp; with_reducible refine hUn.mono ?_; rintro e w10 ⟨rfl, hb10⟩; have kc10 := ((Blk.drew hk5).next hb10 (Blk.drew hk5).lt).cell; have hk10 := Lib.hid (((Blk.drew hk5).next hb10 (Blk.drew hk5).lt).alloc (.cells #[.int .i64 ((i : Int) + (o : Int)), .int .i64 (n : Int), .string ⟨un.toArray⟩] 96)); have kc10b := hk10.out.cell; have hown10 := OwnG.alloc (OwnG.next (w := w5.drew) hown5 hb10) (.cells #[.int .i64 ((i : Int) + (o : Int)), .int .i64 (n : Int), .string ⟨un.toArray⟩] 96); have hcell10 := (by rw [HV3.out]; exact cellL1 w10 (i + o, n, un) 96 : ∀ j u, ([(i + o, n, un)].flatMap lnkC)[j]? = some u → (w10.alloc (.cells #[.int .i64 ((i : Int) + (o : Int)), .int .i64 (n : Int), .string ⟨un.toArray⟩] 96)).cell? ((⟨w10.heap.size, 0, none⟩ : Addr).add j) = some u); have hbase10 := Lib.hid (show B ≤ (w10.alloc (.cells #[.int .i64 ((i : Int) + (o : Int)), .int .i64 (n : Int), .string ⟨un.toArray⟩] 96)).heap.size from by have := hb10.size; simp at this ⊢; omega))))
        all_goals
          have hk12 := hk11.set 2 (.slice a11 (out.length + 1) cap11)
          have hne11 := rowNe hown11 hk11 (by decide)
          have hsc : Sc B b s i (out ++ [(i + o, n, un)]) (w11.setCell ⟨b, 2, none⟩ (.slice a11 (out.length + 1) cap11)) := by
            refine ⟨.slice a11 (out.length + 1) cap11, hk12, ?_, hBb⟩
            have h := rowKeep (w' := w11.setCell ⟨b, 2, none⟩ (.slice a11 (out.length + 1) cap11)) hown11 (fun g hg => Below.heap_setCell w11 ⟨b, 2, none⟩ _ g (hne11 g hg))
            rw [show Value.slice a11 (out ++ [(i + o, n, un)]).length cap11 = .slice a11 (out.length + 1) cap11 from by simp] at h
            exact h
          have HSc := Lib.hid hsc
          have hB10 : Below B w w10 := HB5.out.drew.trans (hb10.mono hbase5)
          have hB12 : Below B w (w11.setCell ⟨b, 2, none⟩ (.slice a11 (out.length + 1) cap11)) := ((hB10.alloc (Nat.le_trans hbase5 hb10.size) (.cells #[.int .i64 ((i : Int) + (o : Int)), .int .i64 (n : Int), .string ⟨un.toArray⟩] 96)).trans hb11).setCell hBb _
          have kc12 := hk12.cell
          have kf12 := hk12.free
          clear z1 z2 z3 z5 z7 kc11 kf11 kc10 kc10b hcell10 hsc hne11
          generalize w11.setCell ⟨b, 2, none⟩ (.slice a11 (out.length + 1) cap11) = w12 at HSc hB12 kc12 kf12 ⊢
          go_wp2_with fail
          rw [HV2.out]
          go_ret
          exact ⟨by rw [HE2.out]; rfl, by rw [HE2.out]; exact HSc.out.at (i + n + 2 * o), hB12.setCell hBb _⟩
end Go.Proofs.YtignjjnflcpiiaaGreatDoor
