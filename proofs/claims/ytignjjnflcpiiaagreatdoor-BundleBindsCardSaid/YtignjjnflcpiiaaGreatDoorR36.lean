/- (bundle.Bundle).Bind. Condition: what the variables hold; so much in the bundle; binderykeep.bound: the fact of BundleBinds. Condition: what the variables hold; BundleBinds: whatever the text, true. Condition: what the variables hold; a length that fits; A contract of a call run alone gives the leav. -/
import Derived.ChangeMaps5
import Derived.Conc.HoldsTime
import Derived.Handed
import Derived.HandedShaped
import Derived.Leaving
import Derived.ProofKit
import Derived.Test.YtignjjnflcpiiaaGreatDoorR19
import Derived.Test.YtignjjnflcpiiaaGreatDoorR31
import Derived.Test.YtignjjnflcpiiaaGreatDoorR35
namespace Go.Proofs.YtignjjnflcpiiaaGreatDoor
open Go Go.RowKit
def BoundUp (P : Nat → Prop) (w : World) (b : Bnd) (e : Bs) (raws rs : List PRaw) (k : Nat) : Prop :=
  rs.length = raws.length ∧ (∀ j (h1 : j < rs.length) (h2 : j < b.whole.parts.length), j < k → RdPrt P 3 w rs[j] (boundPart b e j b.whole.parts[j])) ∧ ∀ j, k ≤ j → rs[j]? = raws[j]?
theorem BoundUp.next {lb : Nat} {w w' : World} {b : Bnd} {e : Bs} {raws rs : List PRaw} {k : Nat} {P : Nat → Prop} (h : BoundUp P w b e raws rs k) (hb : BelowO lb w.heap.size w w') (hl : ¬ P lb) : BoundUp P w' b e raws rs k :=
  ⟨h.1, fun j h1 h2 hj => (h.2.1 j h1 h2 hj).nextO hb hl, h.2.2⟩
theorem BoundUp.step {P : Nat → Prop} {w : World} {b : Bnd} {e : Bs} {raws rs : List PRaw} {k : Nat} (h : BoundUp P w b e raws rs k) (hk : k < b.whole.parts.length) (r : PRaw) (hr : RdPrt P 3 w r (boundPart b e k b.whole.parts[k])) : BoundUp P w b e raws (rs.set k r) (k + 1) := by
  refine ⟨by rw [List.length_set]; exact h.1, fun j h1 h2 hj => ?_, fun j hj => ?_⟩
  · rw [List.length_set] at h1
    by_cases e : j = k
    · subst e
      rw [List.getElem_set_self]; exact hr
    · rw [List.getElem_set_ne (fun x => e x.symm)]
      exact h.2.1 j h1 h2 (by omega)
  · rw [List.getElem?_set_ne (by omega)]
    exact h.2.2 j (by omega)
set_option maxHeartbeats 16000000 in
set_option maxRecDepth 100000 in
theorem bind_any (P : Nat → Prop) (bp : Nat) (b : Bnd) (w : World) (h : RdBnd P w bp b) (hin : BndIn b) (hroot : b.root ≤ 1000000) (hg : Gz w) :
    Calls Tryz.prog 11 #[.pointer (some ⟨bp, 0, none⟩)] w fun e w' => WrOr (bindB b) e ∧ Below w.heap.size w w' := by
  have hbd := RdBnd.weak (Q := fun c => c < w.heap.size) (fun b _ h => h) h
  have HBD := Lib.hid hbd
  obtain ⟨raw, sa, si, hbplt, hkb, hrw, _⟩ := hbd
  have HN := Lib.hid (show bindB b = writeP (boundWhole b) from rfl)
  have HWI := Lib.hid (boundWhole_in hin hroot)
  have HW := Lib.hid (show boundWhole b = .mk (beginF b.whole.head (nameT (signT b.whole) b.root)) b.whole.body b.whole.many (boundFrom b (signT b.whole) 0 b.whole.parts) from rfl)
  have hC := pclone_any 3 raw b.whole w (RdPrt.weak (fun _ _ _ => trivial) hrw) hin.whole.in
  have hel := signT_len hin.whole
  have hgs := hg.size
  obtain ⟨⟨xa, xn, xc⟩, xb, xm, ⟨xa', xn', xc'⟩⟩ := raw
  unfold bndC at hkb
  simp only [slv] at hkb
  simp only [prtV, slv] at hC
  have kb := hkb.cell
  have hpn := hin.whole.head.2.2
  have hhw := weight_n hin.whole.head.1
  clear h hrw
  go_enter Tryz.func11, Tryz.ntmps11
  go_wp2_with fail
  with_reducible refine hC.mono ?_
  rintro r w1 ⟨⟨raw1, rfl, hcl⟩, b1⟩
  have hgw1 := hg.next b1
  have hs1 := b1.size
  have hrd1 := hcl.rd
  obtain ⟨⟨ha, hn, hc⟩, bd, mn, ⟨pa, pn, pc⟩⟩ := raw1
  obtain ⟨hb1, hb2, hownH, raws, hownP, hrl, hdis, hch⟩ := hcl
  simp only [slv] at hb1 hb2 hownH hownP hdis hch
  have hhn : hn = b.whole.head.length := by
    obtain ⟨a, c, e, _⟩ := OwnG.rd (by decide) fldC_len hownH
    injection e
  have hpn2 : pn = raws.length := by
    obtain ⟨a, c, e, _⟩ := OwnG.rd (by decide) prtC_len hownP
    injection e
  subst hhn hpn2
  subst hb1 hb2
  clear hC kb
  have hlH := OwnG.own_lt hownH
  have hgH := OwnG.own_ge hownH
  have hlP := OwnG.own_lt hownP
  have hgP := OwnG.own_ge hownP
  have k4 := Blk.new w1 #[.slice ha b.whole.head.length hc, .string ⟨(b.whole.body).toArray⟩, .bool b.whole.many, .slice pa raws.length pc] 44
  have BA := (Below.refl w1.heap.size w1).alloc (Nat.le_refl _) (.cells #[.slice ha b.whole.head.length hc, .string ⟨(b.whole.body).toArray⟩, .bool b.whole.many, .slice pa raws.length pc] 44)
  have hrl2 : raws.length ≤ b.whole.parts.length := Nat.le_of_eq hrl
  have hrl3 : b.whole.parts.length ≤ raws.length := Nat.le_of_eq hrl.symm
  clear hrl
  go_upto_region 2 with fail
  generalize World.alloc _ _ = w2 at k4 BA ⊢
  have B2 := b1.trans (BA.mono hs1)
  have hS := sign_any ((ha, b.whole.head.length, hc), b.whole.body, b.whole.many, (pa, raws.length, pc)) b.whole w2 (RdPrt.weak (fun _ _ _ => trivial) (hrd1.next BA)) hin.whole (hg.next B2)
  simp only [prtV, slv] at hS
  have k4c := k4.cell
  have hs2 := BA.size
  generalize signT b.whole = e at hS hel HW
  clear hrd1
  go_wp2_with fail
  with_reducible refine hS.mono ?_
  rintro r w3 ⟨rfl, b3⟩
  have k4 := k4.next b3 k4.lt
  have B3 := B2.trans (b3.mono B2.size)
  have B13 := BA.trans (b3.mono hs2)
  have kbe := Blk.new w3 #[.string ⟨e.toArray⟩] 9
  have BB := (Below.refl w3.heap.size w3).alloc (Nat.le_refl _) (.cells #[.string ⟨e.toArray⟩] 9)
  have hs3 := b3.size
  go_upto_region 3 with fail
  generalize World.alloc _ _ = w4 at kbe BB ⊢
  have k4 := k4.next BB k4.lt
  have B4 := B3.trans (BB.mono B3.size)
  have B14 := B13.trans (BB.mono B13.size)
  have hs4 := BB.size
  have hs14 := B14.size
  have k4l := k4.lt
  have kbel := kbe.lt
  have hw4 := B4.size
  clear hS b3 BA B13 k4c B3 B2
  have hgpx : ∃ gp, (0 < raws.length → pa = some ⟨gp, 0, none⟩ ∧ gp < w1.heap.size) ∧ w.heap.size ≤ gp ∧ (∀ c, c < w1.heap.size → (Value.slice pa raws.length pc).ownBlock ≠ some c → c ≠ gp) ∧ gp ≠ w1.heap.size ∧ gp ≠ w3.heap.size ∧ (Value.slice ha b.whole.head.length hc).ownBlock ≠ some gp := by
    rcases hownP.2 with ⟨_, h0⟩ | ⟨g, cap, cur, hv, hg0, _⟩
    · refine ⟨w4.heap.size, fun h => by omega, hw4, fun c hc _ => by omega, by omega, by omega, fun e => ?_⟩
      have := hlH _ e
      omega
    · injection hv with hv _ _
      subst hv
      have h1 := hlP g rfl
      exact ⟨g, fun _ => ⟨rfl, h1⟩, hg0, fun c _ hne e => hne (by rw [e]; rfl), by omega, by omega, fun e => hdis g e rfl⟩
  obtain ⟨gp, hgp1, hgp2, hgp3, hgp4, hgp5, hgp6⟩ := hgpx
  have HCH := Lib.hid hch
  have HGP := Lib.hid hgp1
  have HG3 := Lib.hid hgp3
  have HG6 := Lib.hid hgp6
  have HLH := Lib.hid hlH
  have HGH := Lib.hid hgH
  have HDIS := Lib.hid hdis
  have HK4 := Lib.hid k4
  have hownP4 := OwnG.next hownP B14
  have hownH4 := OwnG.next hownH B14
  have HHW := Lib.hid hhw
  have k4c := k4.cell
  have hg4 := hg.next B4
  have hkb4 := hkb.next B4 hbplt
  have hBD4 := Lib.hid (HBD.out.next B4)
  clear hch hgp1 hgp3 hgp6 hlH hgH hlP hgP hdis hownP hownH k4 hkb
  go_wp2_with fail
  go_loopw [31] (fun iv wr => ∃ (k : Nat) (rs : List PRaw), iv = .int .i64 k ∧ k ≤ b.whole.parts.length ∧ OwnPr wr w.heap.size (.slice pa raws.length pc) rs ∧ Hid (BoundUp (fun c => w.heap.size ≤ c ∧ (Value.slice ha b.whole.head.length hc).ownBlock ≠ some c ∧ c ≠ gp) wr b e raws rs k) ∧ BelowO gp w4.heap.size w4 wr) (fun iv _ => b.whole.parts.length - (intOf iv).toNat)
  case atStart => exact ⟨0, raws, rfl, by omega, hownP4, Lib.hid ⟨rfl, fun j _ _ h => by omega, fun _ _ => rfl⟩, BelowO.refl _ _ _⟩
  case round =>
    clear hownP4
    obtain ⟨k, rs, rfl, hk, hownP, HB, BO⟩ := hrel
    have hsO := BO.size
    by_cases hlt : k < b.whole.parts.length
    · obtain ⟨hpa, hgpl⟩ := HGP.out (by omega)
      subst hpa
      have hL := HB.out.1
      have hkr : k < rs.length := by omega
      have hrk : rs[k] = raws[k]'(by omega) := by
        have := HB.out.2.2 k (Nat.le_refl _)
        rw [List.getElem?_eq_getElem hkr, List.getElem?_eq_getElem (by omega)] at this
        exact Option.some.inj this
      have hq := (((RdPrt.weak (Q := fun c => w.heap.size ≤ c ∧ (Value.slice ha b.whole.head.length hc).ownBlock ≠ some c ∧ c ≠ gp) (fun c h hc => ⟨h.1, h.2.1, HG3.out c hc h.2.2⟩) (HCH.out k (by omega) hlt)).next B14).nextO BO (by omega))
      have hbd := ((RdBnd.weak (Q := fun c => c ≠ gp ∧ c < w4.heap.size) (fun c (h : c < w.heap.size) _ => ⟨by omega, by omega⟩) hBD4.out).keep hsO (fun c hP _ => BO.block c hP.2 hP.1))
      have hbd := RdBnd.weak (Q := fun c => c ≠ gp) (fun c h _ => h.1) hbd
      have hbw := HK4.out.nextO BO (fun e => hgp4 e.symm)
      have hcbr := (kbe.nextO BO (fun e => hgp5 e.symm)).cell 0
      rw [← hL] at hownP hbw
      have HLE := fun a => leadsAt_bd hin b.whole.parts[k] a
      have HPT := Lib.hid (fun (wz : World) (r : PRaw) (hz : BelowO gp wr.heap.size wr wz) (hr : RdPrt (fun c => w.heap.size ≤ c ∧ (Value.slice ha b.whole.head.length hc).ownBlock ≠ some c ∧ c ≠ gp) 3 wz r (boundPart b e k b.whole.parts[k])) => (HB.out.next hz (by omega)).step hlt r hr)
      rw [← hrk] at hq
      have hqb := hq.body
      have hqm := hq.mn
      obtain ⟨rws, hp1, hp2, hp3⟩ := hq.parts
      have hrh := hq.hd
      generalize hraw : rs[k] = raw at hq hqb hqm hp1 hrh
      obtain ⟨⟨qa, qn, qc⟩, qb, qm, qp⟩ := raw
      simp only [slv] at hqb hqm hp1 hrh
      have hqn : qn = (b.whole.parts[k]).head.length := by
        obtain ⟨a, c, e, _⟩ := hrh.rd
        injection e
      subst hqb hqm hqn
      have HP1 := Lib.hid hp1
      have HP3 := Lib.hid hp3
      have hgr := hg4.nextO BO (by omega)
      have hrh := hrh.weak (Q := fun c => c ≠ gp) (fun c h _ => h.2.2)
      have HRR := Lib.hid hraw
      clear hp1 hp3 hq hrk HB hkb4
      go_upto_block 1 with fail
      refine wp_block (bind_round _ bp w1.heap.size gp w3.heap.size k pc w.heap.size b b.whole.parts[k] rs qa qc (b.whole.parts[k]).many qp e _ _ _ wr hbd hin hlt rfl hkr HRR.out hbw hownP hrh hcbr (fun e => hgp5 e.symm) (by omega) hgr hgs HLE ?_ ?_)
      all_goals
        intros
        rename_i wz v ho hrv hb
        have hrz : RdPrt (fun c => w.heap.size ≤ c ∧ (Value.slice ha b.whole.head.length hc).ownBlock ≠ some c ∧ c ≠ gp) 3 wz (v, boundBody e (b.whole.parts[k]).body ((leadsB b (k : Int)).getD []), (b.whole.parts[k]).many, qp) (boundPart b e k b.whole.parts[k]) := by
          unfold boundPart
          refine ⟨rfl, rfl, hrv.weak (fun c h _ => ⟨by omega, fun e => by have := HLH.out c e; omega, by omega⟩), rws, HP1.out.nextO hb (by omega), hp2, fun j h1 h2 => (HP3.out j h1 h2).nextO hb (by omega)⟩
        have HBZ := Lib.hid (HPT.out wz _ hb hrz)
        have BZ := BO.trans (hb.mono hsO)
        rw [hL] at ho
        clear hrz hrv
        simp only [Exit.inBlock, Exit.then, if_true]
        go_wp2_with fail
        go_roundw
        case rel => exact ⟨_, _, _, _, _, _, _, _, _, _, _, _, .int .i64 ((k : Int) + 1), _, _, _, _, _, _, _, _, _, _, _, _, _, _, _, _, _, _, _, _, _, _, _, _, _, _, _, _, _, _, _, _, _, _, _, _, _, _, _, _, _, _, _, _, _, _, _, _, _, _, _, _, _, _, _, _, _, _, _, _, _, _, _, _, _, _, _, _, _, _, _, _, _, _, _, _, _, _, _, _, _, _, _, _, _, _, _, _, _, _, _, _, _, _, _, _, _, _, _, _, _, _, _, _, _, _, _, ⟨k + 1, rs.set k (v, boundBody e (b.whole.parts[k]).body ((leadsB b (k : Int)).getD []), (b.whole.parts[k]).many, qp), by go_num, by omega, ho, HBZ, BZ⟩, rfl⟩
        case measure => simp [intOf]; omega
    · obtain rfl : k = b.whole.parts.length := by omega
      have hL := HB.out.1
      have hLe : rs.length ≤ b.whole.parts.length := by omega
      have hgr := hg4.nextO BO (by omega)
      have hrootc := (hkb4.nextO BO (by omega)).cell
      have hcbr := (kbe.nextO BO (fun e => hgp5 e.symm)).cell 0
      have hbw := HK4.out.nextO BO (fun e => hgp4 e.symm)
      have hNm := bname_any (b.root : Int) e w3.heap.size wr (by omega) (by omega) hcbr (by omega) hgr
      have hnl := nameT_len e b.root (by omega)
      generalize nameT e (b.root : Int) = nm at hNm hnl HW
      have hownH := hownH4.keepB (w' := wr) (fun c hc => BO.block c (by have := HLH.out c hc; omega) (fun e => HG6.out (e ▸ hc)))
      clear hL
      go_wp2_with fail
      with_reducible refine hNm.mono ?_
      rintro r w5 ⟨rfl, b5⟩
      have hbw5 := hbw.next b5 hbw.lt
      have hownH5 := OwnG.next hownH b5
      have hg5 := hgr.next b5
      have hBe := begin_any w1.heap.size ha hc b.whole.head _ _ _ nm w.heap.size w5 hbw5 hownH5 (by omega) (fun g hg e => by subst hg; have := HLH.out g rfl; omega) (HHW.out.mono (by decide)) (by omega) hg5.r
      clear hNm hrootc hcbr hkb4
      go_wp2_with fail
      with_reducible refine hBe.mono ?_
      rintro r w6 ⟨rfl, hownH6, hb6⟩
      clear hBe
      have hx : ∃ gh, gh ≠ w1.heap.size ∧ gh ≠ gp ∧ w.heap.size ≤ gh ∧ ((Value.slice ha b.whole.head.length hc).ownBlock = some gh ∨ w6.heap.size ≤ gh) ∧ BelowO gh w5.heap.size w5 w6 := by
        rcases hb6 with hb6 | ⟨gh, hgh, hb6⟩
        · refine ⟨w6.heap.size + gp + 1, ?_, by omega, ?_, Or.inr (by omega), BelowO.of hb6⟩
          · have := hbw5.lt; have := hb6.size; omega
          · have := hb6.size; have := b5.size; omega
        · subst hgh
          have h1 := HLH.out gh rfl
          exact ⟨gh, by omega, fun e => HG6.out (by rw [← e]; rfl), HGH.out gh rfl, Or.inl rfl, hb6⟩
      obtain ⟨gh, hgh1, hgh2, hgh3, hgh4, b6⟩ := hx
      have hbw6 := hbw5.nextO b6 (fun e => hgh1 e.symm)
      have hg6 := hg5.nextO b6 (by omega)
      have hbwc := hbw6.cell
      have hownP6 := ((OwnG.next hownP b5)).keepB (w' := w6) (fun c hc => by
        have h1 := OwnG.own_lt hownP c hc
        refine b6.block c (by have := b5.size; omega) (fun e => ?_)
        subst e
        rcases hgh4 with h | h
        · exact HDIS.out _ h hc
        · have := b5.size; have := b6.size; omega)
      have hPRT : RdPrt (fun _ => True) 4 w6 ((ha, b.whole.head.length, hc), b.whole.body, b.whole.many, (pa, raws.length, pc)) (boundWhole b) := by
        rw [HW.out]
        have hs5 := b5.size
        have hs6 := b6.size
        have hrl := HB.out.1
        refine ⟨rfl, rfl, (OwnG.rdB (by decide) fldC_len hownH6).weak (fun _ _ _ => trivial), rs, (OwnG.rdB (by decide) prtC_len hownP6).weak (fun _ _ _ => trivial), by rw [boundFrom_len]; omega, fun j h1 h2 => ?_⟩
        rw [boundFrom_len] at h2
        have h5 := boundFrom_at b e b.whole.parts 0 j h2
        rw [Nat.zero_add] at h5
        have h6 : (boundFrom b e 0 b.whole.parts)[j]'(by rw [boundFrom_len]; exact h2) = boundPart b e j b.whole.parts[j] := by
          have := List.getElem?_eq_getElem (l := boundFrom b e 0 b.whole.parts) (i := j) (by rw [boundFrom_len]; exact h2)
          rw [this] at h5
          exact Option.some.inj h5
        rw [h6]
        have h7 := (HB.out.2.1 j h1 h2 h2).next b5
        have h8 := RdPrt.weak (Q := fun c => (Value.slice ha b.whole.head.length hc).ownBlock ≠ some c ∧ c < w5.heap.size) (fun c h hc => ⟨h.2.1, hc⟩) h7
        refine RdPrt.weak (fun _ _ _ => trivial) (h8.nextO b6 (fun h => ?_))
        rcases hgh4 with h9 | h9
        · exact h.1 h9
        · have := h.2; omega
      have hPW := pWrite_any 4 _ (boundWhole b) w6 hPRT HWI.out hg6
      rw [← HN.out] at hPW
      simp only [prtV, slv] at hPW
      have B6 : Below w.heap.size w w6 := (B4.trans ((BO.mono hw4).shut hgp2)).trans (((b5.mono (by omega)) : Below w.heap.size wr w5).trans ((b6.mono (by have := b5.size; omega)).shut hgh3))
      clear hPRT hownP6 hownH6 hbw6 hbw5
      go_wp2_with fail
      with_reducible refine hPW.mono ?_
      rintro r w7 ⟨hh, b7⟩
      have B7 := B6.trans (b7.mono B6.size)
      rcases hh with ⟨s, hr, hsl, rfl⟩ | ⟨c, hr, rfl⟩
      · have hRR := Lib.hid hr
        clear hr
        go_wp2_with fail
        go_ret2
        exact ⟨Or.inl ⟨s, hRR.out, hsl, rfl⟩, B7⟩
      · have hRR := Lib.hid hr
        clear hr
        go_wp2_with fail
        go_ret2
        exact ⟨Or.inr ⟨c, hRR.out, rfl⟩, B7⟩
set_option maxHeartbeats 16000000 in
set_option maxRecDepth 100000 in
theorem fact_any (w : World) (hg : Gz w) :
    Calls Tryz.prog 9 #[] w fun e w' => e = .returned (.bool true) ∧ Below w.heap.size w w' := by
  have hO := open_any smpI w (by decide) hg.r
  have hin := openB_in smp_open
  rw [smp_open] at hO
  obtain ⟨hb1, hb2⟩ := smp_bound
  have hlen : smpT.length ≤ 20000 ∨ True := Or.inr trivial
  have hL := fun bp W (h : RdBnd (fun k => w.heap.size ≤ k) W bp smpB) (hW : Gz W) => bleads_any _ bp smpB 0 W h hin hW.r (by decide) (by decide)
  have hB := fun bp W (h : RdBnd (fun k => w.heap.size ≤ k) W bp smpB) (hW : Gz W) => bind_any _ bp smpB W h hin (by decide) hW
  rw [smp_leads] at hL
  rw [hb1] at hB
  clear hb1 hlen hin
  have hC := fun W (hW : Gz W) (hl : smpT.length < 4294967281) => containsS smpT smpW W hl hW.r.g
  rw [hb2] at hC
  clear hb2
  generalize smpT = t at hB hC
  generalize smpB = bb at hO hL hB
  unfold smpI at hO
  unfold smpA at hL
  unfold smpW at hC
  go_enter Tryz.func9, Tryz.ntmps9
  go_wp2_with fail
  with_reducible refine hO.mono ?_
  rintro e w1 ⟨he, b1⟩
  rcases he with ⟨b', bp, h1, rfl, hR⟩ | ⟨c, h1, _⟩
  case inr => cases h1
  injection h1 with h1
  subst h1
  have hg1 := hg.next b1
  go_wp2_with fail
  with_reducible refine (hL bp w1 hR hg1).mono ?_
  rintro e w2 ⟨he, b2⟩
  rcases he with ⟨l, v, h1, rfl, hown⟩ | ⟨h1, _⟩
  case inr => cases h1
  injection h1 with h1
  subst h1
  have hLB := OwnG.rdB (by decide) ledC_len hown
  obtain ⟨la, lc, hv, _⟩ := hLB.rd
  subst hv
  obtain ⟨lb, rfl, _, hlb, hcell⟩ := hLB.at ledC_len 0 (by decide)
  have e0 := hcell 0 (by decide)
  have e1 := hcell 1 (by decide)
  simp only [ledC, List.getElem_cons_zero, Nat.zero_mul, Nat.add_zero, Nat.zero_add, List.getElem?_cons_zero, List.getElem?_cons_succ] at e0 e1
  have hR2 := hR.next b2
  have hg2 := hg1.next b2
  clear hcell hLB hown hL hO
  go_wp2_with fail
  with_reducible refine (hB bp w2 hR2 hg2).mono ?_
  rintro e w3 ⟨he, b3⟩
  rcases he with ⟨s, h1, hs, rfl⟩ | ⟨c, h1, _⟩
  case inr => cases h1
  injection h1 with h1
  subst h1
  have hg3 := hg2.next b3
  have hC := hC w3 hg3 (by omega)
  go_wp2_with fail
  with_reducible refine hC.mono ?_
  rintro e w4 ⟨rfl, rfl⟩
  go_wp2_with fail
  go_ret
  have B2 := b1.trans (b2.mono b1.size)
  exact ⟨rfl, B2.trans (b3.mono B2.size)⟩
structure BbIn (w : World) (bp cp : Nat) (b c : Bnd) (a1 a2 : Option Go.Addr) (n c1 c2 : Nat) : Prop where
  hb : RdBnd (fun _ => True) w bp b
  hc : RdBnd (fun _ => True) w cp c
  hg : Gz w
  row : ∀ k (p q : Prt), b.whole.parts[k]? = some p → c.whole.parts[k]? = some q → ∃ g1 g2, a1 = some ⟨g1, 0, none⟩ ∧ a2 = some ⟨g2, 0, none⟩ ∧ w.cell? ⟨g1, k * 4 + 1, none⟩ = some (.string ⟨p.body.toArray⟩) ∧ w.cell? ⟨g2, k * 4 + 1, none⟩ = some (.string ⟨q.body.toArray⟩)
theorem BbIn.next {w w' : World} {bp cp : Nat} {b c : Bnd} {a1 a2 : Option Go.Addr} {n c1 c2 : Nat} (h : BbIn w bp cp b c a1 a2 n c1 c2) (hB : Below w.heap.size w w') : BbIn w' bp cp b c a1 a2 n c1 c2 :=
  ⟨h.hb.next hB, h.hc.next hB, h.hg.next hB, fun k p q h1 h2 => by
    obtain ⟨g1, g2, e1, e2, e3, e4⟩ := h.row k p q h1 h2
    exact ⟨g1, g2, e1, e2, (hB.cell (World.block_lt_of_cell? w _ e3)).trans e3, (hB.cell (World.block_lt_of_cell? w _ e4)).trans e4⟩⟩
theorem leads_many {b : Bnd} {i : Nat} {l : List (Bs × Int)} (hin : BndIn b) (h : leadsB b (i : Int) = some l) : l.length ≤ 60002 := by
  unfold leadsB at h
  rw [if_neg (by omega), Int.toNat_natCast] at h
  cases hp : b.whole.parts[i]? with
  | none => rw [hp] at h; cases h
  | some p =>
    rw [hp] at h
    cases ha : b.places[i]? with
    | none => rw [ha] at h; cases h
    | some a =>
      rw [ha] at h
      simp only [Option.some.injEq] at h
      have hb := (hin.whole.part (List.mem_of_getElem? hp)).head.2.1
      have hl := (linksT_lies p.body).2
      rw [← h]
      unfold leadsAt
      split
      · rw [List.length_map]; omega
      · simp
theorem hpre_any (ya : Bs) (w : World) (h : Hid (Lib.hasPrefix ya cidW = true)) (n : Nat) :
    Calls Tryz.prog 17 #[.string ⟨ya.toArray⟩, .string ⟨#[99, 105, 100, 58, 112, 97, 114, 116]⟩] (w.drewN n) fun e w' => e = .returned (.bool true) ∧ w' = w.drewN n := by
  have h1 := hasPre ya cidW (w.drewN n)
  rw [h.out] at h1
  refine Calls.mono h1 ?_
  rintro e w' ⟨rfl, rfl⟩
  exact ⟨rfl, rfl⟩
theorem row_body {P Q : Nat → Prop} {w : World} {a : Option Go.Addr} {n c : Nat} {raws : List PRaw} {ps : List Prt} {m : Nat} (h : RdB 4 prtC P w (.slice a n c) raws) (hl : raws.length = ps.length)
    (hp : ∀ k (h1 : k < raws.length) (h2 : k < ps.length), RdPrt Q (m + 1) w raws[k] ps[k]) {k : Nat} {p : Prt} (hk : ps[k]? = some p) : ∃ g, a = some ⟨g, 0, none⟩ ∧ w.cell? ⟨g, k * 4 + 1, none⟩ = some (.string ⟨p.body.toArray⟩) := by
  obtain ⟨hk2, rfl⟩ := List.getElem?_eq_some_iff.1 hk
  obtain ⟨g, e, _, _, hcell⟩ := h.at prtC_len k (by omega)
  refine ⟨g, e, ?_⟩
  have h1 := hcell 1 (by decide)
  rw [h1]
  have := (hp k (by omega) hk2).body
  simp only [prtC, List.getElem?_cons_succ, List.getElem?_cons_zero, this]
set_option maxHeartbeats 16000000 in
set_option maxRecDepth 100000 in
theorem binds_any (s : Bs) (w : World) (hg : Gz w) (hs : s.length ≤ 4611686018427387903) :
    Calls Tryz.prog 3 #[.string ⟨s.toArray⟩] w fun e w' => e = .returned (.bool true) ∧ Below w.heap.size w w' := by
  by_cases h : s.length ≤ 2500
  case neg =>
    have h2 : (2500 : Int) < (s.length : Int) := by omega
    go_enter Tryz.func3, Tryz.ntmps3
    go_wp2_with fail
    go_ret
    exact ⟨rfl, Below.refl _ _⟩
  have h2 : ¬ (2500 : Int) < (s.length : Int) := by omega
  have hBd := fact_any w hg
  have hO1 := fun W (hW : Gz W) => open_any s W (by omega) hW.r
  cases hob : openB s with
  | error n =>
    rw [hob] at hO1
    go_enter Tryz.func3, Tryz.ntmps3
    go_wp2_with fail
    with_reducible refine hBd.mono ?_
    rintro e w1 ⟨rfl, b1⟩
    go_wp2_with fail
    with_reducible refine (hO1 w1 (hg.next b1)).mono ?_
    rintro e w2 ⟨he, b2⟩
    rcases he with ⟨b', bp, h1, _⟩ | ⟨n', h1, rfl⟩
    case inl => cases h1
    go_wp2_with fail
    go_ret
    exact ⟨rfl, b1.trans (b2.mono b1.size)⟩
  | ok b =>
  have hin := openB_in hob
  have hroot := openB_root hob
  have hlaw := bind_law hob
  rw [hob] at hO1
  have hBi := fun P bp W h hW => bind_any P bp b W h hin (by omega) hW
  clear hob
  cases hbb : bindB b with
  | error n =>
    have hn : n = 4 := by
      rcases hlaw with e | ⟨t, c, e, _⟩
      · rw [hbb] at e; injection e
      · rw [hbb] at e; cases e
    subst hn
    rw [hbb] at hBi
    clear hlaw hin hbb
    go_enter Tryz.func3, Tryz.ntmps3
    go_wp2_with fail
    with_reducible refine hBd.mono ?_
    rintro e w1 ⟨rfl, b1⟩
    have hg1 := hg.next b1
    go_wp2_with fail
    with_reducible refine (hO1 w1 hg1).mono ?_
    rintro e w2 ⟨he, b2⟩
    rcases he with ⟨b', bp, h1, rfl, hR⟩ | ⟨n', h1, _⟩
    case inr => cases h1
    injection h1 with h1
    subst h1
    have hg2 := hg1.next b2
    go_wp2_with fail
    with_reducible refine (hBi _ bp w2 hR hg2).mono ?_
    rintro e w3 ⟨he, b3⟩
    rcases he with ⟨s', h1, _⟩ | ⟨n', h1, rfl⟩
    case inl => cases h1
    injection h1 with h1
    subst h1
    have hT := tell_any (.iface 30 (.int .i64 4)) 4 w3 (Or.inr (Or.inl rfl)) (hg2.next b3).r
    go_wp2_with fail
    with_reducible refine hT.mono ?_
    rintro e w4 ⟨rfl, b4⟩
    go_wp2_with fail
    go_ret
    have B2 := b1.trans (b2.mono b1.size)
    have B3 := B2.trans (b3.mono B2.size)
    exact ⟨rfl, B3.trans (b4.mono B3.size)⟩
  | ok t =>
  obtain ⟨c, hoc, l1, l2, l3, l4, l5⟩ : ∃ c, openB t = .ok c ∧ BindLaw b c := by
    rcases hlaw with e | ⟨t', c, e, h1, h2⟩
    · rw [hbb] at e; cases e
    · rw [hbb] at e; injection e with e; subst e; exact ⟨c, h1, h2⟩
  rw [hbb] at hBi
  have hinc := openB_in hoc
  have hO2 := fun W (hW : Gz W) (ht : t.length ≤ 20000) => open_any t W (by omega) hW.r
  rw [hoc] at hO2
  clear hoc hlaw hbb
  have hR1 := fun P bp W h => root_any P bp b W h
  have hR2 := fun P bp W h => root_any P bp c W h
  rw [l1] at hR2
  have hP1 := fun P bp W h => parts_any P bp b W h hin.whole
  have hP2 := fun P bp W h => parts_any P bp c W h hinc.whole
  have L5 := Lib.hid l5
  have L2 := Lib.hid l2
  have L4 := Lib.hid l4
  clear l5 l2 l1 l4
  obtain ⟨n, hn⟩ : ∃ n, n = b.whole.parts.length := ⟨_, rfl⟩
  rw [← hn] at l3
  have hnb : n ≤ 20002 := by rw [hn]; exact hin.whole.head.2.2
  go_enter Tryz.func3, Tryz.ntmps3
  go_wp2_with fail
  with_reducible refine hBd.mono ?_
  rintro e w1 ⟨rfl, b1⟩
  have hg1 := hg.next b1
  clear hBd
  go_wp2_with fail
  with_reducible refine (hO1 w1 hg1).mono ?_
  rintro e w2 ⟨he, b2⟩
  rcases he with ⟨b', bp, h1, rfl, hR⟩ | ⟨n', h1, _⟩
  case inr => cases h1
  injection h1 with h1
  subst h1
  have hg2 := hg1.next b2
  have hRb := RdBnd.weak (Q := fun _ => True) (fun _ _ _ => trivial) hR
  have B2 := b1.trans (b2.mono b1.size)
  clear hO1 hR hg1
  go_wp2_with fail
  with_reducible refine (hBi _ bp w2 hRb hg2).mono ?_
  rintro e w3 ⟨he, b3⟩
  rcases he with ⟨s', h1, ht, rfl⟩ | ⟨n', h1, _⟩
  case inr => cases h1
  injection h1 with h1
  subst h1
  have hg3 := hg2.next b3
  have hRb := hRb.next b3
  have B3 := B2.trans (b3.mono B2.size)
  clear hBi hg2 b2 b3 b1 B2
  go_wp2_with fail
  with_reducible refine (hO2 w3 hg3 ht).mono ?_
  rintro e w4 ⟨he, b4⟩
  rcases he with ⟨c', cp, h1, rfl, hR⟩ | ⟨n', h1, _⟩
  case inr => cases h1
  injection h1 with h1
  subst h1
  have hg4 := hg3.next b4
  have hRb := hRb.next b4
  have hRc := RdBnd.weak (Q := fun _ => True) (fun _ _ _ => trivial) hR
  have B4 := B3.trans (b4.mono B3.size)
  clear hO2 hg3 hR ht b4 B3
  go_wp2_with fail
  with_reducible refine (hR2 _ cp w4 hRc).mono ?_
  rintro e w5 ⟨rfl, rfl⟩
  go_wp2_with fail
  with_reducible refine (hR1 _ bp w4 hRb).mono ?_
  rintro e w5 ⟨rfl, rfl⟩
  clear hR1 hR2
  go_wp2_with fail
  with_reducible refine (hP1 _ bp w4 hRb).mono ?_
  rintro e w6 ⟨⟨v1, raws1, rfl, own1, len1, rd1⟩, b6⟩
  have hLB1 := OwnG.rdB (by decide) prtC_len own1
  obtain ⟨a1, c1, hv1, _⟩ := hLB1.rd
  subst hv1
  rw [len1, ← hn]
  have hRb := hRb.next b6
  have hRc := hRc.next b6
  have hg6 := hg4.next b6
  have B6 := B4.trans (b6.mono B4.size)
  clear hP1 own1 hg4 B4
  go_wp2_with fail
  with_reducible refine (hP2 _ cp w6 hRc).mono ?_
  rintro e w7 ⟨⟨v2, raws2, rfl, own2, len2, rd2⟩, b7⟩
  have hLB2 := OwnG.rdB (by decide) prtC_len own2
  obtain ⟨a2, c2, hv2, _⟩ := hLB2.rd
  subst hv2
  rw [len2, l3]
  have hI : BbIn w7 bp cp b c a1 a2 n c1 c2 := ⟨hRb.next b7, hRc.next b7, hg6.next b7, fun k p q h1 h2 => by
    obtain ⟨g1, e1, e2⟩ := row_body hLB1 len1 rd1 h1
    obtain ⟨g2, e3, e4⟩ := row_body hLB2 len2 rd2 h2
    exact ⟨g1, g2, e1, e3, (b7.cell (World.block_lt_of_cell? w6 _ e2)).trans e2, e4⟩⟩
  have B7 := B6.trans (b7.mono B6.size)
  clear hP2 own2 hLB1 hLB2 rd1 rd2 hRb hRc hg6 b6 b7 B6 len1 len2
  go_wp2_with fail
  have hs7 := B7.size
  go_loopw [9] (fun iv wr => ∃ k : Nat, iv = .int .i64 k ∧ k ≤ n ∧ Below w7.heap.size w7 wr) (fun iv _ => n - (intOf iv).toNat)
  case atStart => exact ⟨0, rfl, by omega, Below.refl _ _⟩
  case round =>
    obtain ⟨k, rfl, hk, B⟩ := hrel
    by_cases hlt : k < n
    · have hIr := hI.next B
      obtain ⟨p, q, l, m, hp, hq, hl, hm, hlen, hbody, hlead⟩ := L5.out k (by omega)
      obtain ⟨g1, g2, rfl, rfl, e1, e2⟩ := hIr.row k p q hp hq
      have hpl : k < b.places.length := by rw [L4.out]; omega
      have hab : atB b (k : Int) = some b.places[k] := by
        unfold atB
        rw [if_neg (by omega), Int.toNat_natCast, List.getElem?_eq_getElem hpl]
      have hac : atB c (k : Int) = some b.places[k] := by
        unfold atB
        rw [if_neg (by omega), Int.toNat_natCast, L2.out, List.getElem?_eq_getElem hpl]
      have hA1 := fun P bp W h => at_any P bp b (k : Int) W h (by omega) (by omega)
      have hA2 := fun P bp W h => at_any P bp c (k : Int) W h (by omega) (by omega)
      rw [hab] at hA1
      rw [hac] at hA2
      have hL1 := fun P bp W h hg => bleads_any P bp b (k : Int) W h hin hg (by omega) (by omega)
      have hL2 := fun P bp W h hg => bleads_any P bp c (k : Int) W h hinc hg (by omega) (by omega)
      have hlb := leads_many hin hl
      rw [hl] at hL1
      rw [hm] at hL2
      clear hab hac hp hq hl hm
      generalize b.places[k] = a at hA1 hA2
      unfold atV at hA1 hA2
      simp only [Addr.val] at hA1 hA2
      have HI := Lib.hid hIr
      have HB := Lib.hid hbody
      have HLd := Lib.hid hlead
      have E1 := Lib.hid e1
      have E2 := Lib.hid e2
      have HLn := Lib.hid hlen
      have hsr := B.size
      clear hbody hlead hIr e1 e2 hpl hlen
      go_wp2_with fail
      with_reducible refine (hA1 _ bp wr HI.out.hb).mono ?_
      rintro e x1 ⟨rfl, y1⟩
      have k10 := Blk.new x1 a.cells 36
      have BA := y1.alloc y1.size (.cells a.cells 36)
      have hlt1 := y1.size
      clear hA1 y1
      go_upto_region 21 with fail
      generalize World.alloc _ _ = x2 at k10 BA ⊢
      have HI2 := Lib.hid (HI.out.next BA)
      go_wp2_with fail
      with_reducible refine (hA2 _ cp x2 HI2.out.hc).mono ?_
      rintro e x3 ⟨rfl, y3⟩
      have k12 := Blk.new x3 a.cells 36
      have BA3 := y3.alloc y3.size (.cells a.cells 36)
      have k10 := (k10.next y3 k10.lt).alloc (.cells a.cells 36)
      clear hA2 y3
      go_upto_region 22 with fail
      generalize World.alloc _ _ = x4 at k10 k12 BA3 ⊢
      have B4 := BA.trans (BA3.mono BA.size)
      have HI4 := Lib.hid (HI.out.next B4)
      clear HI2 BA BA3
      go_wp2_with fail
      with_reducible refine (hL1 _ bp x4 HI4.out.hb HI4.out.hg.r).mono ?_
      rintro e x5 ⟨he, y5⟩
      rcases he with ⟨l', v1, h1, rfl, own1⟩ | ⟨h1, _⟩
      case inr => cases h1
      injection h1 with h1
      subst h1
      have hLB1 := OwnG.rdB (by decide) ledC_len own1
      obtain ⟨la, lc, hv1, _⟩ := hLB1.rd
      subst hv1
      have HI5 := Lib.hid (HI4.out.next y5)
      have k10 := k10.next y5 k10.lt
      have k12 := k12.next y5 k12.lt
      have B5 := B4.trans (y5.mono B4.size)
      clear hL1 own1 HI4 B4 y5
      go_wp2_with fail
      with_reducible refine (hL2 _ cp x5 HI5.out.hc HI5.out.hg.r).mono ?_
      rintro e x6 ⟨he, y6⟩
      rcases he with ⟨m', v2, h1, rfl, own2⟩ | ⟨h1, _⟩
      case inr => cases h1
      injection h1 with h1
      subst h1
      have hLB2 := OwnG.rdB (by decide) ledC_len own2
      obtain ⟨ma, mc, hv2, _⟩ := hLB2.rd
      subst hv2
      rw [← HLn.out]
      have B6 := B5.trans (y6.mono B5.size)
      have k10c := (k10.next y6 k10.lt).cell
      have k12c := (k12.next y6 k12.lt).cell
      have hLB1 := hLB1.keep y6.size (fun b _ hlt => y6.block b hlt)
      have f1 := (B6.cell (World.block_lt_of_cell? wr _ E1.out)).trans E1.out
      have f2 := (B6.cell (World.block_lt_of_cell? wr _ E2.out)).trans E2.out
      have hk0 : (0 : Int) ≤ (k : Int) := by omega
      have hk1 : (k : Int) < (n : Int) := by omega
      clear hL2 own2 HI5 B5 y6 k10 k12
      go_wp2_with fail
      go_cut [141] (fun x wx => x = .bool false ∧ Below x6.heap.size x6 wx)
      case first =>
        clear hLB1 hLB2 B6
        by_cases hl0 : l.length = 0
        · have hbe := HB.out (List.length_eq_zero_iff.1 hl0)
          rw [hbe] at f2
          have hlf : ((l.length : Int) == 0) = true := by rw [hl0]; rfl
          clear hl0
          go_wp2_with fail
          go_quiet (fail)
          go_wp2_with fail
          go_meet
          exact ⟨rfl, Go.below_drewN (Below.refl _ _) _⟩
        · have hlf : ((l.length : Int) == 0) = false := by rw [beq_eq_false_iff_ne]; omega
          go_wp2_with fail
          go_quiet (fail)
          go_wp2_with fail
          go_meet
          exact ⟨rfl, Go.below_drewN (Below.refl _ _) _⟩
      case rest =>
      obtain ⟨rfl, BC⟩ := hcut
      obtain ⟨x7, rfl⟩ : ∃ x : World, x = wc := ⟨_, rfl⟩
      have hLB1 := hLB1.keep BC.size (fun b _ hlt => BC.block b hlt)
      have hLB2 := hLB2.keep BC.size (fun b _ hlt => BC.block b hlt)
      have B7' := B6.trans (BC.mono B6.size)
      have hs7' := B7'.size
      clear BC B6 k10c k12c f1 f2 HB E1 E2
      go_wp2_with fail
      go_loopw [18] (fun jv wz => ∃ j : Nat, jv = .int .i64 j ∧ j ≤ l.length ∧ Below x7.heap.size x7 wz) (fun jv _ => l.length - (intOf jv).toNat)
      case atStart => exact ⟨0, rfl, by omega, Below.refl _ _⟩
      case round =>
        obtain ⟨j, rfl, hj, BZ⟩ := hrel
        by_cases hlt2 : j < l.length
        · obtain ⟨lb, rfl, _, hlb, hc1⟩ := hLB1.at ledC_len j hlt2
          have hltm : j < m.length := by rw [← HLn.out]; exact hlt2
          obtain ⟨mb, rfl, _, hmb, hc2⟩ := hLB2.at ledC_len j hltm
          have q0 := (BZ.cell (p := ⟨lb, j * 2 + 0, none⟩) hlb).trans (hc1 0 (by decide))
          have q1 := (BZ.cell (p := ⟨lb, j * 2 + 1, none⟩) hlb).trans (hc1 1 (by decide))
          have r0 := (BZ.cell (p := ⟨mb, j * 2 + 0, none⟩) hmb).trans (hc2 0 (by decide))
          have r1 := (BZ.cell (p := ⟨mb, j * 2 + 1, none⟩) hmb).trans (hc2 1 (by decide))
          obtain ⟨z1, z2, z3⟩ := HLd.out j l[j] m[j] (List.getElem?_eq_getElem hlt2) (List.getElem?_eq_getElem hltm)
          clear hc1 hc2
          generalize l[j] = x at q0 q1 z1 z2 z3
          generalize m[j] = y at r0 r1 z1 z2 z3
          obtain ⟨xa, xb⟩ := x
          obtain ⟨ya, yb⟩ := y
          simp only at z1 z2 z3
          subst z1
          simp only [ledC, Nat.add_zero, List.getElem?_cons_zero, List.getElem?_cons_succ] at q0 q1 r0 r1
          have i0 : (0 : Int) ≤ (j : Int) := by omega
          have i1 : (j : Int) < (l.length : Int) := by omega
          have HJ := Lib.hid hlt2
          by_cases hneg : xb < 0
          · have hxy := z2 hneg
            subst hxy
            have d1 : decide (0 ≤ xb) = false := by rw [decide_eq_false_iff_not]; omega
            clear z2 z3
            go_wp2_with fail
            go_quiet (fail)
            go_wp2_with fail
            have hlt3 := HJ.out
            go_roundw
            case rel => exact ⟨j + 1, by go_num, hlt3, BZ.trans (Go.below_drewN (Below.refl _ _) _)⟩
            case measure => simp [intOf]; omega
          · have HZ := Lib.hid (z3 (by omega))
            have d1 : decide (xb < 0) = false := by rw [decide_eq_false_iff_not]; omega
            have d2 : 0 ≤ xb := by omega
            clear z2 z3 hneg
            go_wp2_with fail
            go_quiet ((go_at_call 17; exact Calls.quiet_of_same (hpre_any ya _ HZ _)))
            go_wp2_with fail
            have hlt3 := HJ.out
            go_roundw
            case rel => exact ⟨j + 1, by go_num, hlt3, BZ.trans (Go.below_drewN (Below.refl _ _) _)⟩
            case measure => simp [intOf]; omega
        · obtain rfl : j = l.length := by omega
          go_wp2_with fail
          exact ⟨⟨k + 1, by go_num, by omega, B.trans ((B7'.trans (BZ.mono hs7')).mono hsr)⟩, by simp [intOf]; omega⟩
    · obtain rfl : k = n := by omega
      go_wp2_with fail
      go_ret
      exact ⟨rfl, B7.trans (B.mono hs7)⟩
theorem leaving_of_alone {P : Program} {last : Machine} {w : World} {t : Trace} (h : aloneAtReturn P last w t) : leavingAtReturn P last w t := by
  obtain ⟨h1, h2, h3⟩ := h
  exact ⟨h2, onlyLeaving_of_quiet h1, h3⟩
theorem returnsInLeavingWide_of_calls {a : Assume} {C : Checked} {os : Os} {f : FuncId} {r : Reach} {Pre : World → Array Value → Prop} {Post : World → Array Value → Value → World → Prop}
    (own : ownKnob C.prog.godebug = none) (started : os.Started) (noInit : C.prog.inits.idxOf? f = none)
    (witness : ∃ (w : World) (tape : Tape) (i : Input), w.os = os ∧ (w.forCall tape i).Shaped C.prog ∧ i.vars = [] ∧ Input.okWide C.prog (w.forCall tape i) r w.heap.size f i ∧ Pre (w.forCall tape i).memory i.args ∧
      a.holds C.prog (lone (Frame.enter C.prog f i.args .normal) [] (w.forCall tape i)))
    (contract : ∀ (w : World) (tape : Tape) (i : Input), w.os = os → (w.forCall tape i).ShapedOpen C.prog → i.vars = [] → Input.okWide C.prog (w.forCall tape i) r w.heap.size f i → Pre (w.forCall tape i).memory i.args →
      a.holds C.prog (lone (Frame.enter C.prog f i.args .normal) [] (w.forCall tape i)) →
      Calls C.prog f i.args (w.forCall tape i) fun
        | .returned v, w' => Post (w.forCall tape i).blind i.args v w'.blind
        | _, _ => False) :
    ReturnsInLeavingWide a C os f r Pre Post := fun enter => by
  obtain ⟨w0, t0, i0, a1, a2, a3, a4, a5, a6⟩ := witness
  refine ⟨enter, own, started, ⟨w0, t0, i0, a1, a2, a3, a4, a5, a6, trivial⟩, fun w tape i h => ?_⟩
  obtain ⟨n, v, w', fr, hn, hend, hp⟩ := (contract w tape i h.1 h.2.1 h.2.2.1 h.2.2.2.1 h.2.2.2.2.1 h.2.2.2.2.2.1).done_lone noInit
  exact ⟨n + 1, v, w', hend, (clean_of_lone hn).2, roomy_placeholder .., hp, ⟨n, _, hn, step_of_runs hn hend, leaving_of_alone (alone_of_lone hn)⟩, fun _ _ _ => trivial⟩
end Go.Proofs.YtignjjnflcpiiaaGreatDoor
namespace Go.Proofs.YtignjjnflcpiiaaGreatDoor
open Go Go.ChangeShapes Go.WideShapes Go.ChangeAt Go.RowKit Go.Conc Go.ConcM
theorem wrapLv {H : Type} {enc : TypeId × Value → H} {a : Assume} {C : Checked} {os : Os} {f : FuncId} {fn : Func} {s : ChangeSpec} {F : Stop.Interp} {conds : List PathCond} {apart fresh handsOn : Bool} {X : World → Array Value → Prop}
    (hX : ∀ (w w' : World) (args : Array Value), w.heap = w'.heap → X w args → X w' args)
    (own : ownKnob C.prog.godebug = none) (started : os.Started) (noInit : C.prog.inits.idxOf? f = none) (hfn : C.prog.funcs[f]? = some fn)
    (witness : ∃ (w : World) (tape : Tape) (i : Input), w.os = os ∧ (w.forCall tape i).Shaped C.prog ∧ i.vars = [] ∧ Input.okWide C.prog (w.forCall tape i) .any w.heap.size f i ∧
      ((s.pre enc C.prog fn conds apart (w.forCall tape i).memory i.args ∧ X (w.forCall tape i).memory i.args) ∧ sizedMet enc C.prog fn (OpenSpec.ofChange s) apart (w.forCall tape i).memory i.args) ∧ a.holds C.prog (lone (Frame.enter C.prog f i.args .normal) [] (w.forCall tape i)))
    (contract : ∀ (W : World) (base : Nat) (args : Array Value) (ds gs : List (DataW H)) (before : List MemPlace),
      (∀ (j : Nat) t v, fn.params[j]? = some t → args[j]? = some v → Value.okWide C.prog W .any base t v) →
      DataW.Whole enc C.prog fn.params.toList s.vars apart W args.toList ds gs before →
      (DataW.weightsEach C.prog (fn.params.toList ++ s.plain.varTypes C.prog) (ds ++ gs)).all (· ≤ reachBytes) = true → X W args →
      W.ShapedOpen C.prog →
      Calls C.prog f args W fun e W' => ∃ v, e = .returned v ∧ s.post enc C.prog fn apart fresh handsOn false W args v W' ∧ W'.os = W.os) :
    ReturnsInLeavingWide a C os f .any (fun w args => (s.pre enc C.prog fn conds apart w args ∧ X w args) ∧ sizedMet enc C.prog fn (OpenSpec.ofChange s) apart w args) ((OpenSpec.ofChange s).postWith enc C.prog fn F (outsideKept [.timePasses]) apart fresh handsOn) := by
  refine returnsInLeavingWide_of_calls own started noInit witness ?_
  intro w tape i _ hsh _ hok hpre hholds
  obtain ⟨_, _, _, fn', hfn', _, _, _, _, hval⟩ := hok
  have e : fn' = fn := Option.some.inj (hfn'.symm.trans hfn)
  subst e
  obtain ⟨⟨⟨ds, gs, before, hw, hc⟩, hx⟩, hz⟩ := hpre
  have hw' := DataW.Whole.of_heap (w' := w.forCall tape i) (by rfl) hw
  refine (contract (w.forCall tape i) w.heap.size i.args ds gs before hval hw' (hz.weights hw) (hX _ _ _ (by rfl) hx) hsh).mono fun e W' ⟨v, he, hp, ho⟩ => ?_
  subst he
  refine postWith_blind (postWith_of_post ?_ (ho ▸ OsLater.refl _))
  rw [← ho]
  exact hp
end Go.Proofs.YtignjjnflcpiiaaGreatDoor
