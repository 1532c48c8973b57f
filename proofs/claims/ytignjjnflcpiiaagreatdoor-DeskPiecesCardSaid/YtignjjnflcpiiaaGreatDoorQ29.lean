/- (bundle.Bundle).Bind. Condition: what the variables hold; so much in the bundle; A region that draws its order, under a condition that holds until a named operation (a store, say) has come up: loads that it waits for may be taken first. No program, no condition. -/
import Derived.Test.YtignjjnflcpiiaaGreatDoorQ28
namespace Go.Proofs.YtignjjnflcpiiaaGreatDoor
open Go Go.RowKit
def BoundUp (P : Nat → Prop) (w : World) (b : Bnd) (e : Bs) (raws rs : List PRaw) (k : Nat) : Prop :=
  rs.length = raws.length ∧ (∀ j (h1 : j < rs.length) (h2 : j < b.whole.parts.length), j < k → RdPrt P 3 w rs[j] (boundPart b e j b.whole.parts[j])) ∧ ∀ j, k ≤ j → rs[j]? = raws[j]?
theorem BoundUp.next {lb : Nat} {w w' : World} {b : Bnd} {e : Bs} {raws rs : List PRaw} {k : Nat} {P : Nat → Prop} (h : BoundUp P w b e raws rs k) (hb : BelowO lb w.heap.size w w') (hl : ¬ P lb) : BoundUp P w' b e raws rs k :=
  ⟨h.1, fun j h1 h2 hj => (h.2.1 j h1 h2 hj).nextO hb hl, h.2.2⟩
theorem BoundUp.step {P : Nat → Prop} {w : World} {b : Bnd} {e : Bs} {raws rs : List PRaw} {k : Nat} (h : BoundUp P w b e raws rs k) (hk : k < b.whole.parts.length) (r : PRaw) (hr : RdPrt P 3 w r (boundPart b e k b.whole.parts[k])) : BoundUp P w b e raws (rs.set k r) (k + 1) := by
  refine ⟨by rw [List.length_set]; exact h.1, fun j h1 h2 hj => ?_, fun j hj => ?_⟩
  · rw [List.length_set] at h1
    by_cases e : j = k
    · subst e
      rw [List.getElem_set_self]; exact hr
    · rw [List.getElem_set_ne (fun x => e x.symm)]
      exact h.2.1 j h1 h2 (by omega)
  · rw [List.getElem?_set_ne (by omega)]
    exact h.2.2 j (by omega)
set_option maxHeartbeats 16000000 in
set_option maxRecDepth 100000 in
theorem bind_any (P : Nat → Prop) (bp : Nat) (b : Bnd) (w : World) (h : RdBnd P w bp b) (hin : BndIn b) (hroot : b.root ≤ 1000000) (hg : Gz w) :
    Calls Tryz.prog 11 #[.pointer (some ⟨bp, 0, none⟩)] w fun e w' => WrOr (bindB b) e ∧ Below w.heap.size w w' := by
  have hbd := RdBnd.weak (Q := fun c => c < w.heap.size) (fun b _ h => h) h
  have HBD := Lib.hid hbd
  obtain ⟨raw, sa, si, hbplt, hkb, hrw, _⟩ := hbd
  have HN := Lib.hid (show bindB b = writeP (boundWhole b) from rfl)
  have HWI := Lib.hid (boundWhole_in hin hroot)
  have HW := Lib.hid (show boundWhole b = .mk (beginF b.whole.head (nameT (signT b.whole) b.root)) b.whole.body b.whole.many (boundFrom b (signT b.whole) 0 b.whole.parts) from rfl)
  have hC := pclone_any 3 raw b.whole w (RdPrt.weak (fun _ _ _ => trivial) hrw) hin.whole.in
  have hel := signT_len hin.whole
  have hgs := hg.size
  obtain ⟨⟨xa, xn, xc⟩, xb, xm, ⟨xa', xn', xc'⟩⟩ := raw
  unfold bndC at hkb
  simp only [slv] at hkb
  simp only [prtV, slv] at hC
  have kb := hkb.cell
  have hpn := hin.whole.head.2.2
  have hhw := weight_n hin.whole.head.1
  clear h hrw
  go_enter Tryz.func11, Tryz.ntmps11
  go_wp2_with fail
  with_reducible refine hC.mono ?_
  rintro r w1 ⟨⟨raw1, rfl, hcl⟩, b1⟩
  have hgw1 := hg.next b1
  have hs1 := b1.size
  have hrd1 := hcl.rd
  obtain ⟨⟨ha, hn, hc⟩, bd, mn, ⟨pa, pn, pc⟩⟩ := raw1
  obtain ⟨hb1, hb2, hownH, raws, hownP, hrl, hdis, hch⟩ := hcl
  simp only [slv] at hb1 hb2 hownH hownP hdis hch
  have hhn : hn = b.whole.head.length := by
    obtain ⟨a, c, e, _⟩ := OwnG.rd (by decide) fldC_len hownH
    injection e
  have hpn2 : pn = raws.length := by
    obtain ⟨a, c, e, _⟩ := OwnG.rd (by decide) prtC_len hownP
    injection e
  subst hhn hpn2
  subst hb1 hb2
  clear hC kb
  have hlH := OwnG.own_lt hownH
  have hgH := OwnG.own_ge hownH
  have hlP := OwnG.own_lt hownP
  have hgP := OwnG.own_ge hownP
  have k4 := Blk.new w1 #[.slice ha b.whole.head.length hc, .string ⟨(b.whole.body).toArray⟩, .bool b.whole.many, .slice pa raws.length pc] 44
  have BA := (Below.refl w1.heap.size w1).alloc (Nat.le_refl _) (.cells #[.slice ha b.whole.head.length hc, .string ⟨(b.whole.body).toArray⟩, .bool b.whole.many, .slice pa raws.length pc] 44)
  have hrl2 : raws.length ≤ b.whole.parts.length := Nat.le_of_eq hrl
  have hrl3 : b.whole.parts.length ≤ raws.length := Nat.le_of_eq hrl.symm
  clear hrl
  go_upto_region 2 with fail
  generalize World.alloc _ _ = w2 at k4 BA ⊢
  have B2 := b1.trans (BA.mono hs1)
  have hS := sign_any ((ha, b.whole.head.length, hc), b.whole.body, b.whole.many, (pa, raws.length, pc)) b.whole w2 (RdPrt.weak (fun _ _ _ => trivial) (hrd1.next BA)) hin.whole (hg.next B2)
  simp only [prtV, slv] at hS
  have k4c := k4.cell
  have hs2 := BA.size
  generalize signT b.whole = e at hS hel HW
  clear hrd1
  go_wp2_with fail
  with_reducible refine hS.mono ?_
  rintro r w3 ⟨rfl, b3⟩
  have k4 := k4.next b3 k4.lt
  have B3 := B2.trans (b3.mono B2.size)
  have B13 := BA.trans (b3.mono hs2)
  have kbe := Blk.new w3 #[.string ⟨e.toArray⟩] 9
  have BB := (Below.refl w3.heap.size w3).alloc (Nat.le_refl _) (.cells #[.string ⟨e.toArray⟩] 9)
  have hs3 := b3.size
  go_upto_region 3 with fail
  generalize World.alloc _ _ = w4 at kbe BB ⊢
  have k4 := k4.next BB k4.lt
  have B4 := B3.trans (BB.mono B3.size)
  have B14 := B13.trans (BB.mono B13.size)
  have hs4 := BB.size
  have hs14 := B14.size
  have k4l := k4.lt
  have kbel := kbe.lt
  have hw4 := B4.size
  clear hS b3 BA B13 k4c B3 B2
  have hgpx : ∃ gp, (0 < raws.length → pa = some ⟨gp, 0, none⟩ ∧ gp < w1.heap.size) ∧ w.heap.size ≤ gp ∧ (∀ c, c < w1.heap.size → (Value.slice pa raws.length pc).ownBlock ≠ some c → c ≠ gp) ∧ gp ≠ w1.heap.size ∧ gp ≠ w3.heap.size ∧ (Value.slice ha b.whole.head.length hc).ownBlock ≠ some gp := by
    rcases hownP.2 with ⟨_, h0⟩ | ⟨g, cap, cur, hv, hg0, _⟩
    · refine ⟨w4.heap.size, fun h => by omega, hw4, fun c hc _ => by omega, by omega, by omega, fun e => ?_⟩
      have := hlH _ e
      omega
    · injection hv with hv _ _
      subst hv
      have h1 := hlP g rfl
      exact ⟨g, fun _ => ⟨rfl, h1⟩, hg0, fun c _ hne e => hne (by rw [e]; rfl), by omega, by omega, fun e => hdis g e rfl⟩
  obtain ⟨gp, hgp1, hgp2, hgp3, hgp4, hgp5, hgp6⟩ := hgpx
  have HCH := Lib.hid hch
  have HGP := Lib.hid hgp1
  have HG3 := Lib.hid hgp3
  have HG6 := Lib.hid hgp6
  have HLH := Lib.hid hlH
  have HGH := Lib.hid hgH
  have HDIS := Lib.hid hdis
  have HK4 := Lib.hid k4
  have hownP4 := OwnG.next hownP B14
  have hownH4 := OwnG.next hownH B14
  have HHW := Lib.hid hhw
  have k4c := k4.cell
  have hg4 := hg.next B4
  have hkb4 := hkb.next B4 hbplt
  have hBD4 := Lib.hid (HBD.out.next B4)
  clear hch hgp1 hgp3 hgp6 hlH hgH hlP hgP hdis hownP hownH k4 hkb
  go_wp2_with fail
  go_loopw [31] (fun iv wr => ∃ (k : Nat) (rs : List PRaw), iv = .int .i64 k ∧ k ≤ b.whole.parts.length ∧ OwnPr wr w.heap.size (.slice pa raws.length pc) rs ∧ Hid (BoundUp (fun c => w.heap.size ≤ c ∧ (Value.slice ha b.whole.head.length hc).ownBlock ≠ some c ∧ c ≠ gp) wr b e raws rs k) ∧ BelowO gp w4.heap.size w4 wr) (fun iv _ => b.whole.parts.length - (intOf iv).toNat)
  case atStart => exact ⟨0, raws, rfl, by omega, hownP4, Lib.hid ⟨rfl, fun j _ _ h => by omega, fun _ _ => rfl⟩, BelowO.refl _ _ _⟩
  case round =>
    clear hownP4
    obtain ⟨k, rs, rfl, hk, hownP, HB, BO⟩ := hrel
    have hsO := BO.size
    by_cases hlt : k < b.whole.parts.length
    · obtain ⟨hpa, hgpl⟩ := HGP.out (by omega)
      subst hpa
      have hL := HB.out.1
      have hkr : k < rs.length := by omega
      have hrk : rs[k] = raws[k]'(by omega) := by
        have := HB.out.2.2 k (Nat.le_refl _)
        rw [List.getElem?_eq_getElem hkr, List.getElem?_eq_getElem (by omega)] at this
        exact Option.some.inj this
      have hq := (((RdPrt.weak (Q := fun c => w.heap.size ≤ c ∧ (Value.slice ha b.whole.head.length hc).ownBlock ≠ some c ∧ c ≠ gp) (fun c h hc => ⟨h.1, h.2.1, HG3.out c hc h.2.2⟩) (HCH.out k (by omega) hlt)).next B14).nextO BO (by omega))
      have hbd := ((RdBnd.weak (Q := fun c => c ≠ gp ∧ c < w4.heap.size) (fun c (h : c < w.heap.size) _ => ⟨by omega, by omega⟩) hBD4.out).keep hsO (fun c hP _ => BO.block c hP.2 hP.1))
      have hbd := RdBnd.weak (Q := fun c => c ≠ gp) (fun c h _ => h.1) hbd
      have hbw := HK4.out.nextO BO (fun e => hgp4 e.symm)
      have hcbr := (kbe.nextO BO (fun e => hgp5 e.symm)).cell 0
      rw [← hL] at hownP hbw
      have HLE := fun a => leadsAt_bd hin b.whole.parts[k] a
      have HPT := Lib.hid (fun (wz : World) (r : PRaw) (hz : BelowO gp wr.heap.size wr wz) (hr : RdPrt (fun c => w.heap.size ≤ c ∧ (Value.slice ha b.whole.head.length hc).ownBlock ≠ some c ∧ c ≠ gp) 3 wz r (boundPart b e k b.whole.parts[k])) => (HB.out.next hz (by omega)).step hlt r hr)
      rw [← hrk] at hq
      have hqb := hq.body
      have hqm := hq.mn
      obtain ⟨rws, hp1, hp2, hp3⟩ := hq.parts
      have hrh := hq.hd
      generalize hraw : rs[k] = raw at hq hqb hqm hp1 hrh
      obtain ⟨⟨qa, qn, qc⟩, qb, qm, qp⟩ := raw
      simp only [slv] at hqb hqm hp1 hrh
      have hqn : qn = (b.whole.parts[k]).head.length := by
        obtain ⟨a, c, e, _⟩ := hrh.rd
        injection e
      subst hqb hqm hqn
      have HP1 := Lib.hid hp1
      have HP3 := Lib.hid hp3
      have hgr := hg4.nextO BO (by omega)
      have hrh := hrh.weak (Q := fun c => c ≠ gp) (fun c h _ => h.2.2)
      have HRR := Lib.hid hraw
      clear hp1 hp3 hq hrk HB hkb4
      go_upto_block 1 with fail
      refine wp_block (bind_round _ bp w1.heap.size gp w3.heap.size k pc w.heap.size b b.whole.parts[k] rs qa qc (b.whole.parts[k]).many qp e _ _ _ wr hbd hin hlt rfl hkr HRR.out hbw hownP hrh hcbr (fun e => hgp5 e.symm) (by omega) hgr hgs HLE ?_ ?_)
      all_goals
        intros
        rename_i wz v ho hrv hb
        have hrz : RdPrt (fun c => w.heap.size ≤ c ∧ (Value.slice ha b.whole.head.length hc).ownBlock ≠ some c ∧ c ≠ gp) 3 wz (v, boundBody e (b.whole.parts[k]).body ((leadsB b (k : Int)).getD []), (b.whole.parts[k]).many, qp) (boundPart b e k b.whole.parts[k]) := by
          unfold boundPart
          refine ⟨rfl, rfl, hrv.weak (fun c h _ => ⟨by omega, fun e => by have := HLH.out c e; omega, by omega⟩), rws, HP1.out.nextO hb (by omega), hp2, fun j h1 h2 => (HP3.out j h1 h2).nextO hb (by omega)⟩
        have HBZ := Lib.hid (HPT.out wz _ hb hrz)
        have BZ := BO.trans (hb.mono hsO)
        rw [hL] at ho
        clear hrz hrv
        simp only [Exit.inBlock, Exit.then, if_true]
        go_wp2_with fail
        go_roundw
        case rel => exact ⟨_, _, _, _, _, _, _, _, _, _, _, _, .int .i64 ((k : Int) + 1), _, _, _, _, _, _, _, _, _, _, _, _, _, _, _, _, _, _, _, _, _, _, _, _, _, _, _, _, _, _, _, _, _, _, _, _, _, _, _, _, _, _, _, _, _, _, _, _, _, _, _, _, _, _, _, _, _, _, _, _, _, _, _, _, _, _, _, _, _, _, _, _, _, _, _, _, _, _, _, _, _, _, _, _, _, _, _, _, _, _, _, _, _, _, _, _, _, _, _, _, _, _, _, _, _, _, _, ⟨k + 1, rs.set k (v, boundBody e (b.whole.parts[k]).body ((leadsB b (k : Int)).getD []), (b.whole.parts[k]).many, qp), by go_num, by omega, ho, HBZ, BZ⟩, rfl⟩
        case measure => simp [intOf]; omega
    · obtain rfl : k = b.whole.parts.length := by omega
      have hL := HB.out.1
      have hLe : rs.length ≤ b.whole.parts.length := by omega
      have hgr := hg4.nextO BO (by omega)
      have hrootc := (hkb4.nextO BO (by omega)).cell
      have hcbr := (kbe.nextO BO (fun e => hgp5 e.symm)).cell 0
      have hbw := HK4.out.nextO BO (fun e => hgp4 e.symm)
      have hNm := bname_any (b.root : Int) e w3.heap.size wr (by omega) (by omega) hcbr (by omega) hgr
      have hnl := nameT_len e b.root (by omega)
      generalize nameT e (b.root : Int) = nm at hNm hnl HW
      have hownH := hownH4.keepB (w' := wr) (fun c hc => BO.block c (by have := HLH.out c hc; omega) (fun e => HG6.out (e ▸ hc)))
      clear hL
      go_wp2_with fail
      with_reducible refine hNm.mono ?_
      rintro r w5 ⟨rfl, b5⟩
      have hbw5 := hbw.next b5 hbw.lt
      have hownH5 := OwnG.next hownH b5
      have hg5 := hgr.next b5
      have hBe := begin_any w1.heap.size ha hc b.whole.head _ _ _ nm w.heap.size w5 hbw5 hownH5 (by omega) (fun g hg e => by subst hg; have := HLH.out g rfl; omega) (HHW.out.mono (by decide)) (by omega) hg5.r
      clear hNm hrootc hcbr hkb4
      go_wp2_with fail
      with_reducible refine hBe.mono ?_
      rintro r w6 ⟨rfl, hownH6, hb6⟩
      clear hBe
      have hx : ∃ gh, gh ≠ w1.heap.size ∧ gh ≠ gp ∧ w.heap.size ≤ gh ∧ ((Value.slice ha b.whole.head.length hc).ownBlock = some gh ∨ w6.heap.size ≤ gh) ∧ BelowO gh w5.heap.size w5 w6 := by
        rcases hb6 with hb6 | ⟨gh, hgh, hb6⟩
        · refine ⟨w6.heap.size + gp + 1, ?_, by omega, ?_, Or.inr (by omega), BelowO.of hb6⟩
          · have := hbw5.lt; have := hb6.size; omega
          · have := hb6.size; have := b5.size; omega
        · subst hgh
          have h1 := HLH.out gh rfl
          exact ⟨gh, by omega, fun e => HG6.out (by rw [← e]; rfl), HGH.out gh rfl, Or.inl rfl, hb6⟩
      obtain ⟨gh, hgh1, hgh2, hgh3, hgh4, b6⟩ := hx
      have hbw6 := hbw5.nextO b6 (fun e => hgh1 e.symm)
      have hg6 := hg5.nextO b6 (by omega)
      have hbwc := hbw6.cell
      have hownP6 := ((OwnG.next hownP b5)).keepB (w' := w6) (fun c hc => by
        have h1 := OwnG.own_lt hownP c hc
        refine b6.block c (by have := b5.size; omega) (fun e => ?_)
        subst e
        rcases hgh4 with h | h
        · exact HDIS.out _ h hc
        · have := b5.size; have := b6.size; omega)
      have hPRT : RdPrt (fun _ => True) 4 w6 ((ha, b.whole.head.length, hc), b.whole.body, b.whole.many, (pa, raws.length, pc)) (boundWhole b) := by
        rw [HW.out]
        have hs5 := b5.size
        have hs6 := b6.size
        have hrl := HB.out.1
        refine ⟨rfl, rfl, (OwnG.rdB (by decide) fldC_len hownH6).weak (fun _ _ _ => trivial), rs, (OwnG.rdB (by decide) prtC_len hownP6).weak (fun _ _ _ => trivial), by rw [boundFrom_len]; omega, fun j h1 h2 => ?_⟩
        rw [boundFrom_len] at h2
        have h5 := boundFrom_at b e b.whole.parts 0 j h2
        rw [Nat.zero_add] at h5
        have h6 : (boundFrom b e 0 b.whole.parts)[j]'(by rw [boundFrom_len]; exact h2) = boundPart b e j b.whole.parts[j] := by
          have := List.getElem?_eq_getElem (l := boundFrom b e 0 b.whole.parts) (i := j) (by rw [boundFrom_len]; exact h2)
          rw [this] at h5
          exact Option.some.inj h5
        rw [h6]
        have h7 := (HB.out.2.1 j h1 h2 h2).next b5
        have h8 := RdPrt.weak (Q := fun c => (Value.slice ha b.whole.head.length hc).ownBlock ≠ some c ∧ c < w5.heap.size) (fun c h hc => ⟨h.2.1, hc⟩) h7
        refine RdPrt.weak (fun _ _ _ => trivial) (h8.nextO b6 (fun h => ?_))
        rcases hgh4 with h9 | h9
        · exact h.1 h9
        · have := h.2; omega
      have hPW := pWrite_any 4 _ (boundWhole b) w6 hPRT HWI.out hg6
      rw [← HN.out] at hPW
      simp only [prtV, slv] at hPW
      have B6 : Below w.heap.size w w6 := (B4.trans ((BO.mono hw4).shut hgp2)).trans (((b5.mono (by omega)) : Below w.heap.size wr w5).trans ((b6.mono (by have := b5.size; omega)).shut hgh3))
      clear hPRT hownP6 hownH6 hbw6 hbw5
      go_wp2_with fail
      with_reducible refine hPW.mono ?_
      rintro r w7 ⟨hh, b7⟩
      have B7 := B6.trans (b7.mono B6.size)
      rcases hh with ⟨s, hr, hsl, rfl⟩ | ⟨c, hr, rfl⟩
      · have hRR := Lib.hid hr
        clear hr
        go_wp2_with fail
        go_ret2
        exact ⟨Or.inl ⟨s, hRR.out, hsl, rfl⟩, B7⟩
      · have hRR := Lib.hid hr
        clear hr
        go_wp2_with fail
        go_ret2
        exact ⟨Or.inr ⟨c, hRR.out, rfl⟩, B7⟩
section
variable {P : Program} {ops : Array Oper} {Q : Exit → Act → World → Prop} {md : Region.Mode} {S : World → Prop} {s : Nat}
def wpAnyG (P : Program) (md : Region.Mode) (ops : Array Oper) (Q : Exit → Act → World → Prop) (S : World → Prop) (s : Nat) : Nat → Array Bool → Act → World → Prop
  | 0, listed, a, w => Region.ready md ops listed = [] ∧ Q .normal a w
  | n + 1, listed, a, w => (Region.ready md ops listed = [] → Q .normal a w) ∧
    ∀ i ∈ Region.ready md ops listed, wpOp P ops Q i (fun a' w' => if i = s then wpAny P md ops Q n (listed.setIfInBounds i true) a' w' else S w' ∧ wpAnyG P md ops Q S s n (listed.setIfInBounds i true) a' w') a w
theorem wpAnyG.any : ∀ {n : Nat} {listed : Array Bool} {a : Act} {w : World}, wpAnyG P md ops Q S s n listed a w → wpAny P md ops Q n listed a w
  | 0, _, _, _, h => h
  | n + 1, _, _, _, h => ⟨h.1, fun i hi => wpOp_mono (fun a' w' k => by
      by_cases e : i = s
      · rwa [if_pos e] at k
      · rw [if_neg e] at k
        exact k.2.any) (h.2 i hi)⟩
def waitsFor (md : Region.Mode) (ops : Array Oper) (i : Nat) : Nat → Nat → Bool
  | 0, _ => false
  | n + 1, s => match ops[s]? with
    | none => false
    | some o => o.after.any fun e => Region.binds md e && (e.on == i || waitsFor md ops i n e.on)
def ClosedL (md : Region.Mode) (ops : Array Oper) (listed : Array Bool) : Prop := ∀ j o, ops[j]? = some o → listed.getD j false = true → ∀ e ∈ o.after, Region.binds md e = true → listed.getD e.on false = true
theorem ClosedL.none (n : Nat) : ClosedL md ops (Array.replicate n false) := fun j o _ hl => by
  rw [Array.getD_eq_getD_getElem?, Array.getElem?_replicate] at hl
  split at hl
  · cases hl
  · cases hl
theorem ClosedL.set {listed : Array Bool} {i : Nat} (h : ClosedL md ops listed) (hr : i ∈ Region.ready md ops listed) : ClosedL md ops (listed.setIfInBounds i true) := fun j o hj hl e he hb => by
  by_cases hji : j = i
  · subst hji
    obtain ⟨_, o', ho', hall⟩ := mem_ready.1 hr
    rw [hj] at ho'
    cases ho'
    exact getD_set_true (hall e he hb)
  · exact getD_set_true (h j o hj (by rwa [getD_set_ne false (fun e => hji e.symm)] at hl) e he hb)
theorem ClosedL.waits {listed : Array Bool} {i : Nat} (h : ClosedL md ops listed) : ∀ (n s : Nat), listed.getD s false = true → waitsFor md ops i n s = true → listed.getD i false = true
  | 0, _, _, hw => by cases hw
  | n + 1, s, hl, hw => by
    unfold waitsFor at hw
    cases ho : ops[s]? with
    | none => rw [ho] at hw; cases hw
    | some o =>
      rw [ho] at hw
      obtain ⟨x, hx, hb⟩ := Array.any_eq_true'.1 hw
      simp only [Bool.and_eq_true, Bool.or_eq_true, beq_iff_eq] at hb
      have h1 := h s o ho hl x hx hb.1
      rcases hb.2 with e | e
      · rw [e] at h1; exact h1
      · exact h.waits n x.on h1 e
theorem ClosedL.ready {listed : Array Bool} {i s : Nat} (h : ClosedL md ops listed) (n : Nat) (hr : s ∈ Region.ready md ops listed) (hw : waitsFor md ops i n s = true) : listed.getD i false = true := by
  cases n with
  | zero => cases hw
  | succ n =>
    obtain ⟨_, o, ho, hall⟩ := mem_ready.1 hr
    unfold waitsFor at hw
    rw [ho] at hw
    obtain ⟨x, hx, hb⟩ := Array.any_eq_true'.1 hw
    simp only [Bool.and_eq_true, Bool.or_eq_true, beq_iff_eq] at hb
    have h1 := hall x hx hb.1
    rcases hb.2 with e | e
    · rw [e] at h1; exact h1
    · exact h.waits n x.on h1 e
theorem unlisted {listed : Array Bool} {i : Nat} (h0 : listed.getD i true = false) (h1 : listed.getD i false = true) : False := by
  rcases Nat.lt_or_ge i listed.size with h' | h'
  · simp [h'] at h0 h1; rw [h0] at h1; cases h1
  · simp [Array.getElem?_eq_none h'] at h1
theorem not_on {listed : Array Bool} {i : Nat} {oj : Oper} (hrun : listed.getD i true = false) (hall : ∀ e ∈ oj.after, Region.binds md e = true → listed.getD e.on false = true) : ∀ e ∈ oj.after, Region.binds md e = true → e.on ≠ i := fun e he hb hei => by
  have h1 := hall e he hb
  rw [hei] at h1
  exact unlisted hrun h1
theorem wpAnyG.first {i : Nat} {oi : Oper} {v : Value} (hi : ops[i]? = some oi) (hsel : Region.noSelect ops = true) (d : Nat) (hw : waitsFor md ops i d s = true) (his : i ≠ s)
    (hQ : ∀ c a w, Q (.panic c) (a.put oi.dst v) w → Q (.panic c) a w) : ∀ (n : Nat) (listed : Array Bool) (a : Act) (w : World), ClosedL md ops listed →
    (∀ j oj, ops[j]? = some oj → j ≠ i → listed.getD j true = false → (∀ e ∈ oj.after, Region.binds md e = true → e.on ≠ i) → oi.apart ops oj = true) →
    i ∈ Region.ready md ops listed → YieldsIf P ops S oi v a → S w → wpAnyG P md ops Q S s n (listed.setIfInBounds i true) (a.put oi.dst v) w → wpAnyG P md ops Q S s (n + 1) listed a w
  | n, listed, a, w, hcl, hfree, hr, hy, hS, H => by
    refine ⟨fun h => (by rw [h] at hr; cases hr), fun j hj => ?_⟩
    by_cases hji : j = i
    · subst hji
      refine hy.wpOp hi hS ?_
      rw [if_neg his]
      exact ⟨hS, H⟩
    · obtain ⟨hun, oj, hoj, hall⟩ := mem_ready.1 hj
      have hrun : listed.getD i true = false := (mem_ready.1 hr).1
      have hnot := not_on hrun hall
      have hjs : j ≠ s := fun e => by
        subst e
        exact unlisted hrun (hcl.ready d hj hw)
      have hjr := ready_mono hj hji
      cases n with
      | zero => rw [H.1] at hjr; cases hjr
      | succ n =>
        have h1 := H.2 j hjr
        simp only [if_neg hjs] at h1 ⊢
        have h2 := wpOp_putIf hoj (hfree j oj hoj hji hun hnot) (fun cs b => Region.noSelect_spec hsel i oi cs b hi) (fun cs b => Region.noSelect_spec hsel j oj cs b hoj) hQ hy h1
        refine wpOp_mono (fun a' w' k => ⟨k.2.1, wpAnyG.first hi hsel d hw his hQ n _ a' w' (hcl.set hj) (fun q oq hq hqi hqu hqn => ?_) (ready_mono hr (Ne.symm hji)) k.1 k.2.1 ?_⟩) h2
        · refine hfree q oq hq hqi ?_ hqn
          by_cases hjq : j = q
          · subst hjq; exact hun
          · rwa [getD_set_ne true hjq] at hqu
        · rw [Array.setIfInBounds_comm _ _ hji]
          exact k.2.2
theorem wpAnyG.firstU {i : Nat} {oi : Oper} {v : Value} (hi : ops[i]? = some oi) (hsel : Region.noSelect ops = true) (his : i ≠ s)
    (hQ : ∀ c a w, Q (.panic c) (a.put oi.dst v) w → Q (.panic c) a w) : ∀ (n : Nat) (listed : Array Bool) (a : Act) (w : World),
    (∀ j oj, ops[j]? = some oj → j ≠ i → listed.getD j true = false → (∀ e ∈ oj.after, Region.binds md e = true → e.on ≠ i) → oi.apart ops oj = true) →
    i ∈ Region.ready md ops listed → Yields P ops oi v a → S w → wpAnyG P md ops Q S s n (listed.setIfInBounds i true) (a.put oi.dst v) w → wpAnyG P md ops Q S s (n + 1) listed a w
  | n, listed, a, w, hfree, hr, hy, hS, H => by
    refine ⟨fun h => (by rw [h] at hr; cases hr), fun j hj => ?_⟩
    by_cases hji : j = i
    · subst hji
      refine hy.wpOp hi ?_
      rw [if_neg his]
      exact ⟨hS, H⟩
    · obtain ⟨hun, oj, hoj, hall⟩ := mem_ready.1 hj
      have hrun : listed.getD i true = false := (mem_ready.1 hr).1
      have hnot := not_on hrun hall
      have hjr := ready_mono hj hji
      have hfree' : ∀ k ok, ops[k]? = some ok → k ≠ i → (listed.setIfInBounds j true).getD k true = false → (∀ e ∈ ok.after, Region.binds md e = true → e.on ≠ i) → oi.apart ops ok = true := fun q oq hq hqi hqu hqn => by
        refine hfree q oq hq hqi ?_ hqn
        by_cases hjq : j = q
        · subst hjq; exact hun
        · rwa [getD_set_ne true hjq] at hqu
      cases n with
      | zero => rw [H.1] at hjr; cases hjr
      | succ n =>
        have h1 := H.2 j hjr
        have h2 := wpOp_put hoj (hfree j oj hoj hji hun hnot) (fun cs b => Region.noSelect_spec hsel i oi cs b hi) (fun cs b => Region.noSelect_spec hsel j oj cs b hoj) hQ hy h1
        by_cases hjs : j = s
        · simp only [if_pos hjs] at h2 ⊢
          refine wpOp_mono (fun a' w' k => wpAny_first hi (Region.noSelect_spec hsel) hQ n _ a' w' hfree' (ready_mono hr (Ne.symm hji)) k.1 ?_) h2
          rw [Array.setIfInBounds_comm _ _ hji]
          exact k.2
        · simp only [if_neg hjs] at h2 ⊢
          refine wpOp_mono (fun a' w' k => ⟨k.2.1, wpAnyG.firstU hi hsel his hQ n _ a' w' hfree' (ready_mono hr (Ne.symm hji)) k.1 k.2.1 ?_⟩) h2
          rw [Array.setIfInBounds_comm _ _ hji]
          exact k.2.2
def GoesG (P : Program) (md : Region.Mode) (ops : Array Oper) (Q : Exit → Act → World → Prop) (S : World → Prop) (s : Nat) (n : Nat) (listed : Array Bool) (a : Act) (w : World) : Prop := ClosedL md ops listed → wpAnyG P md ops Q S s n listed a w
theorem GoesG.take {i : Nat} {oi : Oper} {v : Value} {n : Nat} {listed : Array Bool} {a : Act} {w : World} (hi : ops[i]? = some oi) (hsel : Region.noSelect ops = true) (hf : Region.free md ops listed i = true) (hr : (Region.ready md ops listed).contains i = true)
    (hw : waitsFor md ops i 40 s = true) (his : i ≠ s) (hQ : ∀ c a w, Q (.panic c) (a.put oi.dst v) w → Q (.panic c) a w) (hy : YieldsIf P ops S oi v a) (hS : S w)
    (h : GoesG P md ops Q S s n (listed.setIfInBounds i true) (a.put oi.dst v) w) : GoesG P md ops Q S s (n + 1) listed a w := fun hcl =>
  have hr' : i ∈ Region.ready md ops listed := by simpa using hr
  wpAnyG.first hi hsel 40 hw his hQ n listed a w hcl (Region.free_spec hi hf) hr' hy hS (h (hcl.set hr'))
theorem GoesG.takeU {i : Nat} {oi : Oper} {v : Value} {n : Nat} {listed : Array Bool} {a : Act} {w : World} (hi : ops[i]? = some oi) (hsel : Region.noSelect ops = true) (hf : Region.free md ops listed i = true) (hr : (Region.ready md ops listed).contains i = true)
    (his : i ≠ s) (hQ : ∀ c a w, Q (.panic c) (a.put oi.dst v) w → Q (.panic c) a w) (hy : Yields P ops oi v a) (hS : S w)
    (h : GoesG P md ops Q S s n (listed.setIfInBounds i true) (a.put oi.dst v) w) : GoesG P md ops Q S s (n + 1) listed a w := fun hcl =>
  have hr' : i ∈ Region.ready md ops listed := by simpa using hr
  wpAnyG.firstU hi hsel his hQ n listed a w (Region.free_spec hi hf) hr' hy hS (h (hcl.set hr'))
theorem GoesG.one {j : Nat} {o : Oper} {n : Nat} {listed : Array Bool} {a : Act} {w : World} (hr : Region.ready md ops listed = [j]) (ho : ops[j]? = some o) (hjs : j ≠ s)
    (h : ∀ K' : Act → World → Prop, Shut (∀ a w, S w → GoesG P md ops Q S s n (listed.setIfInBounds j true) a w → K' a w) → if Region.wanted o (yielded ops a.tmps) = true then Oper.wp P o a w K' Q else K' (a.put o.dst undef) w) : GoesG P md ops Q S s (n + 1) listed a w := fun hcl => by
  have hcl2 := hcl
  refine ⟨fun h0 => (by rw [hr] at h0; cases h0), fun i hi => ?_⟩
  rw [hr] at hi
  obtain rfl := List.mem_singleton.1 hi
  simp only [if_neg hjs]
  exact wpOp_step ho fun K' hK => h K' fun a w hS hW => hK a w ⟨hS, hW (hcl2.set (by rw [hr]; simp))⟩
theorem GoesG.stop {o : Oper} {n : Nat} {listed : Array Bool} {a : Act} {w : World} (hr : Region.ready md ops listed = [s]) (ho : ops[s]? = some o)
    (h : ∀ K' : Act → World → Prop, Shut (∀ a w, wpAny P md ops Q n (listed.setIfInBounds s true) a w → K' a w) → if Region.wanted o (yielded ops a.tmps) = true then Oper.wp P o a w K' Q else K' (a.put o.dst undef) w) : GoesG P md ops Q S s (n + 1) listed a w := fun hcl => by
  have hcl2 := hcl
  refine ⟨fun h0 => (by rw [hr] at h0; cases h0), fun i hi => ?_⟩
  rw [hr] at hi
  obtain rfl := List.mem_singleton.1 hi
  simp only [if_true]
  exact wpOp_step ho fun K' hK => h K' fun a w hW => hK a w hW
def ReadyG (P : Program) (md : Region.Mode) (ops : Array Oper) (Q : Exit → Act → World → Prop) (S : World → Prop) (s : Nat) (n : Nat) (listed : Array Bool) (a : Act) (w : World) (rs : List Nat) : Prop :=
  ∀ i ∈ rs, wpOp P ops Q i (fun a' w' => S w' ∧ GoesG P md ops Q S s n (listed.setIfInBounds i true) a' w') a w
theorem ReadyG.nil {n : Nat} {listed : Array Bool} {a : Act} {w : World} : ReadyG P md ops Q S s n listed a w [] := fun _ h => by cases h
theorem ReadyG.cons {n : Nat} {listed : Array Bool} {a : Act} {w : World} {i : Nat} {o : Oper} {rs : List Nat} (ho : ops[i]? = some o)
    (h : ∀ K' : Act → World → Prop, Shut (∀ a w, S w → GoesG P md ops Q S s n (listed.setIfInBounds i true) a w → K' a w) → if Region.wanted o (yielded ops a.tmps) = true then Oper.wp P o a w K' Q else K' (a.put o.dst undef) w)
    (hs : ReadyG P md ops Q S s n listed a w rs) : ReadyG P md ops Q S s n listed a w (i :: rs) := fun j hj => by
  rcases List.mem_cons.1 hj with rfl | hj
  · exact wpOp_step ho (fun K' hK => h K' (fun a w hS hW => hK a w ⟨hS, hW⟩))
  · exact hs j hj
theorem GoesG.all (rs : List Nat) {n : Nat} {listed : Array Bool} {a : Act} {w : World} (hr : Region.ready md ops listed = rs) (hne : rs ≠ []) (hns : s ∉ rs) (h : ReadyG P md ops Q S s n listed a w rs) : GoesG P md ops Q S s (n + 1) listed a w := fun hcl => by
  refine ⟨fun h0 => absurd (hr ▸ h0) hne, fun i hi => ?_⟩
  have hi2 : i ∈ rs := hr ▸ hi
  have his : i ≠ s := fun e => hns (e ▸ hi2)
  simp only [if_neg his]
  exact wpOp_mono (fun a' w' k => ⟨k.1, k.2 (hcl.set hi)⟩) (h i hi2)
theorem wpAny_alone {j : Nat} {o : Oper} {n : Nat} {listed : Array Bool} {a : Act} {w : World} (hr : Region.ready md ops listed = [j]) (ho : ops[j]? = some o)
    (h : ∀ K' : Act → World → Prop, Shut (∀ a w, wpAny P md ops Q n (listed.setIfInBounds j true) a w → K' a w) → if Region.wanted o (yielded ops a.tmps) = true then Oper.wp P o a w K' Q else K' (a.put o.dst undef) w) : wpAny P md ops Q (n + 1) listed a w := by
  refine ⟨fun h0 => (by rw [hr] at h0; cases h0), fun i hi => ?_⟩
  rw [hr] at hi
  obtain rfl := List.mem_singleton.1 hi
  exact wpOp_step ho fun K' hK => h K' fun a w hW => hK a w hW
theorem wp_region_stop {id : Nat} {a : Act} {w : World} (s : Nat) (S : World → Prop) (hm : P.follows .mixedOrders = true) (h : GoesG P .any ops Q S s ops.size (Array.replicate ops.size false) a w.drew) : (Code.region id ops true).wp P Q a w := wp_region_any hm (h (ClosedL.none _)).any
end
end Go.Proofs.YtignjjnflcpiiaaGreatDoor
