/-
  binderylaw.AddressResolves returns true. Condition: each string takes at most 2^47 bytes; the library's variables MaxLen and errorType hold a number and the type error.
-/
import Derived.Test.YtignjjnflcpiiaaDoorRefRes
import Derived.Test.YtignjjnflcpiiaaDoorRefRead
import Derived.Test.YtignjjnflcpiiaaDoorTell
import Derived.Test.YtignjjnflcpiiaaDoorLeadsP
import Derived.Test.YtignjjnflcpiiaaDoorResolve
import Derived.Test.YtignjjnflcpiiaaDoorAddrRight
import Derived.Deep.RegionHeld3
namespace Go.Proofs.YtignjjnflcpiiaaDoor
open Go Go.RowKit

theorem readA_path {s : Bs} {x : Addr} (h : readA s = some x) : x.path.length ≤ s.length := by
  have := writeA_bits x
  rw [(read_WF h).2] at this
  have e := congrArg List.length this
  simp only [List.length_append] at e
  omega

/-- What both readers make of a text. -/
theorem bothRead (s : Bs) (hs : s.length ≤ 500) : ∃ (x : Addr) (n : Int) (v : Value), refReadV s = .tuple #[x.val, .int .i64 n] ∧ errNo v n ∧ x.path.length ≤ 500 ∧
    (∀ W : World, Ground W → Calls Tryd.prog 6 #[.string ⟨s.toArray⟩] W fun e w' => e = .returned (.tuple #[x.val, v]) ∧ Below W.heap.size W w') := by
  cases h : readA s with
  | none =>
    refine ⟨Addr.zero, 3, .iface 36 (.int .i64 3), by simp [refReadV, h], Or.inr rfl, by decide, fun W hg => (addrRead_any s W (by omega) hg).mono ?_⟩
    rintro e w' ⟨rfl, hb⟩
    rw [h]
    exact ⟨rfl, hb⟩
  | some x =>
    have := readA_path h
    refine ⟨x, 0, .nilIface, by simp [refReadV, h], Or.inl ⟨rfl, rfl⟩, by omega, fun W hg => (addrRead_any s W (by omega) hg).mono ?_⟩
    rintro e w' ⟨rfl, hb⟩
    rw [h]
    exact ⟨rfl, hb⟩

/-- The two addresses of one round lie in a block. -/
abbrev pCells (a b : Addr) : Array Value := #[.string ⟨a.scheme.toArray⟩, .bool a.hasAuth, .string ⟨a.auth.toArray⟩, .string ⟨a.path.toArray⟩, .bool a.hasQuery, .string ⟨a.query.toArray⟩, .bool a.hasFrag, .string ⟨a.frag.toArray⟩,
  .string ⟨b.scheme.toArray⟩, .bool b.hasAuth, .string ⟨b.auth.toArray⟩, .string ⟨b.path.toArray⟩, .bool b.hasQuery, .string ⟨b.query.toArray⟩, .bool b.hasFrag, .string ⟨b.frag.toArray⟩]

abbrev allCells (x z a b : Addr) : Array Value := #[.string ⟨x.scheme.toArray⟩, .bool x.hasAuth, .string ⟨x.auth.toArray⟩, .string ⟨x.path.toArray⟩, .bool x.hasQuery, .string ⟨x.query.toArray⟩, .bool x.hasFrag, .string ⟨x.frag.toArray⟩,
  .string ⟨z.scheme.toArray⟩, .bool z.hasAuth, .string ⟨z.auth.toArray⟩, .string ⟨z.path.toArray⟩, .bool z.hasQuery, .string ⟨z.query.toArray⟩, .bool z.hasFrag, .string ⟨z.frag.toArray⟩,
  .string ⟨a.scheme.toArray⟩, .bool a.hasAuth, .string ⟨a.auth.toArray⟩, .string ⟨a.path.toArray⟩, .bool a.hasQuery, .string ⟨a.query.toArray⟩, .bool a.hasFrag, .string ⟨a.frag.toArray⟩,
  .string ⟨z.scheme.toArray⟩, .bool z.hasAuth, .string ⟨z.auth.toArray⟩, .string ⟨z.path.toArray⟩, .bool z.hasQuery, .string ⟨z.query.toArray⟩, .bool z.hasFrag, .string ⟨z.frag.toArray⟩,
  .string ⟨x.scheme.toArray⟩, .bool x.hasAuth, .string ⟨x.auth.toArray⟩, .string ⟨x.path.toArray⟩, .bool x.hasQuery, .string ⟨x.query.toArray⟩, .bool x.hasFrag, .string ⟨x.frag.toArray⟩,
  .string ⟨a.scheme.toArray⟩, .bool a.hasAuth, .string ⟨a.auth.toArray⟩, .string ⟨a.path.toArray⟩, .bool a.hasQuery, .string ⟨a.query.toArray⟩, .bool a.hasFrag, .string ⟨a.frag.toArray⟩,
  .string ⟨a.scheme.toArray⟩, .bool a.hasAuth, .string ⟨a.auth.toArray⟩, .string ⟨a.path.toArray⟩, .bool a.hasQuery, .string ⟨a.query.toArray⟩, .bool a.hasFrag, .string ⟨a.frag.toArray⟩,
  .string ⟨b.scheme.toArray⟩, .bool b.hasAuth, .string ⟨b.auth.toArray⟩, .string ⟨b.path.toArray⟩, .bool b.hasQuery, .string ⟨b.query.toArray⟩, .bool b.hasFrag, .string ⟨b.frag.toArray⟩]
set_option maxRecDepth 100000
@[go_sem high] theorem idxPair0 (x z a b : Addr) (w : World) : (Instr.index 41 (.agg (allCells x z a b)) (.int .i64 0)).run Tryd.prog w = .ok (.agg (pCells x z)) w := by kernel_rfl
@[go_sem high] theorem idxPair1 (x z a b : Addr) (w : World) : (Instr.index 41 (.agg (allCells x z a b)) (.int .i64 1)).run Tryd.prog w = .ok (.agg (pCells a z)) w := by kernel_rfl
@[go_sem high] theorem idxPair2 (x z a b : Addr) (w : World) : (Instr.index 41 (.agg (allCells x z a b)) (.int .i64 2)).run Tryd.prog w = .ok (.agg (pCells x a)) w := by kernel_rfl
@[go_sem high] theorem idxPair3 (x z a b : Addr) (w : World) : (Instr.index 41 (.agg (allCells x z a b)) (.int .i64 3)).run Tryd.prog w = .ok (.agg (pCells a b)) w := by kernel_rfl

set_option maxHeartbeats 16000000 in
set_option maxRecDepth 100000 in
theorem resolves_any (s t : Bs) (a b : Addr) (w : World) (hs : s.length ≤ 140737488355328) (ht : t.length ≤ 140737488355328) (hal : a.len ≤ 9223372036854775807) (hbl : b.len ≤ 9223372036854775807) (hg : Ground w) (hE : ET w) :
    Calls Tryd.prog 4 #[.string ⟨s.toArray⟩, .string ⟨t.toArray⟩, a.val, b.val] w fun e w' => e = .returned (.bool true) ∧ Below w.heap.size w w' := by
  have B0 : Below w.heap.size w _ := ((Below.refl w.heap.size w).alloc (Nat.le_refl _) (.cells a.cells 24)).alloc (by go_size) (.cells b.cells 24)
  have ka := (Blk.new w a.cells 24).alloc (.cells b.cells 24)
  have kb := Blk.new (w.alloc (.cells a.cells 24)) b.cells 24
  rw [World.size_alloc] at kb
  have kac := ka.cell
  have kbc := kb.cell
  by_cases hlen : 500 < s.length + t.length
  · go_enter Tryd.func4, Tryd.ntmps4
    go_wp2_with fail
    go_ret
    exact ⟨rfl, B0⟩
  go_enter Tryd.func4, Tryd.ntmps4
  go_wp2_with fail
  refine (tiny_any a _ hal).mono ?_
  rintro e w1 ⟨rfl, hb1⟩
  have B1 := B0.trans (hb1.mono B0.size)
  have ka := ka.next hb1 ka.lt
  have kb := kb.next hb1 kb.lt
  clear B0 hb1 kac kbc
  have kbc := kb.cell
  by_cases hta : a.len ≤ 400
  case neg =>
    rw [decide_eq_false hta]
    go_wp2_with fail
    go_ret
    exact ⟨rfl, B1⟩
  rw [decide_eq_true hta]
  go_wp2_with fail
  refine (tiny_any b _ hbl).mono ?_
  rintro e w2 ⟨rfl, hb2⟩
  have B2 := B1.trans (hb2.mono B1.size)
  have ka := ka.next hb2 ka.lt
  have kb := kb.next hb2 kb.lt
  clear B1 hb2 kbc
  by_cases htb : b.len ≤ 400
  case neg =>
    rw [decide_eq_false htb]
    go_wp2_with fail
    go_ret
    exact ⟨rfl, B2⟩
  rw [decide_eq_true htb]
  obtain ⟨x, n1, v1, hV1, hN1, hx, hR1⟩ := bothRead s (by omega)
  obtain ⟨z, n2, v2, hV2, hN2, hz, hR2⟩ := bothRead t (by omega)
  have hV1 := Lib.hid hV1
  have hV2 := Lib.hid hV2
  have hap : a.path.length ≤ 400 := by unfold Addr.len at hta; omega
  have hbp : b.path.length ≤ 400 := by unfold Addr.len at htb; omega
  obtain ⟨iE, hE1, hE2⟩ := Option.map_eq_some_iff.1 (show (Tryd.prog.info? 26).map (·.comparable) = some true by kernel_rfl)
  have hgd := eqGuardAddr
  go_wp2_with fail
  refine (refRead_any s _ (by omega)).mono ?_
  rintro e w3 ⟨rfl, hb3⟩
  rw [hV1.out]
  have B3 := (B2.trans (hb3.mono B2.size)).alloc (B2.trans (hb3.mono B2.size)).size (.cells x.cells 24)
  have ka := (ka.next hb3 ka.lt).alloc (.cells x.cells 24)
  have kb := (kb.next hb3 kb.lt).alloc (.cells x.cells 24)
  have kx := Blk.new w3 x.cells 24
  clear B2 hb3
  go_wp2_with fail
  refine (hR1 _ (hg.next B3)).mono ?_
  rintro e w4 ⟨rfl, hb4⟩
  have B4 := (B3.trans (hb4.mono B3.size)).alloc (B3.trans (hb4.mono B3.size)).size (.cells x.cells 24)
  have ka := (ka.next hb4 ka.lt).alloc (.cells x.cells 24)
  have kb := (kb.next hb4 kb.lt).alloc (.cells x.cells 24)
  have kx := (kx.next hb4 kx.lt).alloc (.cells x.cells 24)
  have ky := Blk.new w4 x.cells 24
  clear B3 hb4
  go_wp2_with fail
  refine (bare_any v1 n1 n1 hN1 _ (hE.next B4)).mono ?_
  rintro e w5 ⟨rfl, hb5⟩
  rw [decide_eq_true (rfl : n1 = n1)]
  have B5 := B4.trans (hb5.mono B4.size)
  have ka := ka.next hb5 ka.lt
  have kb := kb.next hb5 kb.lt
  have kx := kx.next hb5 kx.lt
  have ky := ky.next hb5 ky.lt
  clear B4 hb5
  have kxc := kx.cell
  have kyc := ky.cell
  go_wp2_with fail
  refine (refRead_any t _ (by omega)).mono ?_
  rintro e w6 ⟨rfl, hb6⟩
  rw [hV2.out]
  clear kxc kyc
  have B6 := (B5.trans (hb6.mono B5.size)).alloc (B5.trans (hb6.mono B5.size)).size (.cells z.cells 24)
  have ka := (ka.next hb6 ka.lt).alloc (.cells z.cells 24)
  have kb := (kb.next hb6 kb.lt).alloc (.cells z.cells 24)
  have kx := (kx.next hb6 kx.lt).alloc (.cells z.cells 24)
  have kz := Blk.new w6 z.cells 24
  clear B5 hb6
  go_wp2_with fail
  refine (hR2 _ (hg.next B6)).mono ?_
  rintro e w7 ⟨rfl, hb7⟩
  have B7 := (B6.trans (hb7.mono B6.size)).alloc (B6.trans (hb7.mono B6.size)).size (.cells z.cells 24)
  have ka := (ka.next hb7 ka.lt).alloc (.cells z.cells 24)
  have kb := (kb.next hb7 kb.lt).alloc (.cells z.cells 24)
  have kx := (kx.next hb7 kx.lt).alloc (.cells z.cells 24)
  have kz := (kz.next hb7 kz.lt).alloc (.cells z.cells 24)
  have ky := Blk.new w7 z.cells 24
  clear B6 hb7
  go_wp2_with fail
  refine (bare_any v2 n2 n2 hN2 _ (hE.next B7)).mono ?_
  rintro e w8 ⟨rfl, hb8⟩
  rw [decide_eq_true (rfl : n2 = n2)]
  have B8 := B7.trans (hb8.mono B7.size)
  have ka := ka.next hb8 ka.lt
  have kb := kb.next hb8 kb.lt
  have kx := kx.next hb8 kx.lt
  have ky := ky.next hb8 ky.lt
  have kz := kz.next hb8 kz.lt
  clear B7 hb8 hR1 hR2 hN1 hN2
  have kac := ka.cell
  have kbc := kb.cell
  have kxc := kx.cell
  have kyc := ky.cell
  have kzc := kz.cell
  go_wp2_with fail
  go_loopw [86] (fun i wx => ∃ k : Nat, k ≤ 4 ∧ i = .int .i64 k ∧ Blk wx w.heap.size a.cells 24 ∧ Below w.heap.size w wx) (fun i _ => 4 - (intOf i).toNat)
  case atStart => exact ⟨0, by omega, rfl, ka, B8⟩
  case round =>
    clear kac kbc kxc kyc kzc ka kb kx ky kz B8
    obtain ⟨k, hk, rfl, ka, B⟩ := hrel
    by_cases hlt : k < 4
    · go_upto_region 13 with fail
      go_cut [16] (fun s16 wx => ∃ p0 p1 : Addr, ∃ bb : Nat, s16 = .pointer (some ⟨bb, 0, none⟩) ∧ p0.path.length ≤ 500 ∧ p1.path.length ≤ 500 ∧ Blk wx bb (pCells p0 p1) 40 ∧ Blk wx w.heap.size a.cells 24 ∧ Below w.heap.size w wx)
      case first =>
        have hk4 : k = 0 ∨ k = 1 ∨ k = 2 ∨ k = 3 := by omega
        rcases hk4 with rfl | rfl | rfl | rfl
        · go_wp2_with fail
          go_meet
          exact ⟨x, z, wr.heap.size, rfl, hx, hz, Blk.new wr (pCells x z) _, ka.alloc _, B.alloc B.size _⟩
        · go_wp2_with fail
          go_meet
          exact ⟨a, z, wr.heap.size, rfl, by omega, hz, Blk.new wr (pCells a z) _, ka.alloc _, B.alloc B.size _⟩
        · go_wp2_with fail
          go_meet
          exact ⟨x, a, wr.heap.size, rfl, hx, by omega, Blk.new wr (pCells x a) _, ka.alloc _, B.alloc B.size _⟩
        · go_wp2_with fail
          go_meet
          exact ⟨a, b, wr.heap.size, rfl, by omega, by omega, Blk.new wr (pCells a b) _, ka.alloc _, B.alloc B.size _⟩
      case rest =>
        clear ka B
        obtain ⟨p0, p1, bb, rfl, hp0, hp1, kp, ka, B⟩ := hcut
        obtain ⟨w1, rfl⟩ : ∃ w1 : World, w1 = wc := ⟨_, rfl⟩
        have hC1 := fun W h => resolve_any p0 p1 W (by omega) (by omega) h
        have hC2 := fun W h => refResolve_any p0 p1 W (by omega) (by omega) h
        generalize resolveA p0 p1 = r at hC1 hC2
        have kpc := (Blk.drew kp).cell
        have K0 := (Below.refl w1.heap.size w1).drew
        go_upto_region 14 with fail
        go_region_held3 (fun W => (∀ k, W.cell? ⟨bb, k, none⟩ = (pCells p0 p1)[k]?) ∧ Below w1.heap.size w1 W)
          (first
            | with_reducible exact ⟨kpc, K0⟩
            | with_reducible exact ⟨(kp.next K kp.lt).cell, K⟩)
          ((first
            | (go_at_call 9; go_split_ands; with_reducible refine (hC1 _ (hg.next (B.trans (Below.mono (by assumption) B.size)))).mono ?_; rintro e w10 ⟨rfl, hb⟩; have K := belowStep hb (w0 := w1) (by assumption))
            | (go_at_call 15; go_split_ands; with_reducible refine (hC2 _ (hg.next (B.trans (Below.mono (by assumption) B.size)))).mono ?_; rintro e w10 ⟨rfl, hb⟩; have K := belowStep hb (w0 := w1) (by assumption))))
        all_goals go_split_ands
        all_goals go_wp2_with fail
        all_goals
          go_roundw
          case rel => exact ⟨k + 1, by omega, by go_num, ka.next (B := w1.heap.size) (by assumption) ka.lt, B.trans (Below.mono (B := w1.heap.size) (by assumption) B.size)⟩
          case measure => simp [intOf]; omega
    · obtain rfl : k = 4 := by omega
      clear hlt hk
      have hwl := writeA_len a
      have hq : ∃ (y : Addr) (n : Int), Hid (refReadV (writeA a) = .tuple #[y.val, .int .i64 n]) ∧ Hid ((decide (n = 0) && decide (y = a)) = rightA a) := by
        cases h : readA (writeA a) with
        | none => exact ⟨Addr.zero, 3, Lib.hid (by simp [refReadV, h]), Lib.hid (by simp [rightA, h])⟩
        | some y => exact ⟨y, 0, Lib.hid (by simp [refReadV, h]), Lib.hid (by simp [rightA, h])⟩
      obtain ⟨y, n, hY, hRt⟩ := hq
      have kac := ka.cell
      go_wp2_with fail
      refine (refWrite_any a _ (by omega)).mono ?_
      rintro e w2 ⟨rfl, hb2⟩
      have B2 := B.trans (hb2.mono B.size)
      have ka := ka.next hb2 ka.lt
      clear kac hb2 B
      go_wp2_with fail
      refine (refRead_any (writeA a) _ (by omega)).mono ?_
      rintro e w3 ⟨rfl, hb3⟩
      rw [hY.out]
      have B3 := B2.trans (hb3.mono B2.size)
      have ka := ka.next hb3 ka.lt
      clear hb3 B2
      go_upto_region 18 with fail
      have B3' := B3.alloc B3.size (.cells y.cells 24)
      have ka := ka.alloc (.cells y.cells 24)
      have ky := Blk.new w3 y.cells 24
      go_cut [18] (fun s18 wx => s18 = .bool (rightA a) ∧ Blk wx w.heap.size a.cells 24 ∧ Below w.heap.size w wx)
      case first =>
        have kac := ka.cell
        have kyc := ky.cell
        by_cases hn : n = 0
        · subst hn
          go_wp2_with fail
          go_meet
          exact ⟨by rw [← hRt.out]; simp, ka, B3'⟩
        · have hnb : (n == 0) = false := by rw [beq_eq_false_iff_ne]; exact hn
          go_wp2_with fail
          go_meet
          exact ⟨by rw [← hRt.out]; simp [hn], ka, B3'⟩
      case rest =>
        clear ka ky B3 B3' hY hRt
        obtain ⟨rfl, ka, B⟩ := hcut
        obtain ⟨w1, rfl⟩ : ∃ w1 : World, w1 = wc := ⟨_, rfl⟩
        have hW1 := fun W => addrWrite_any a W (by omega)
        have hW2 := fun W => refWrite_any a W (by omega)
        have hH1 := fun W => addrWhole_any a W (by unfold Addr.len at hta; omega) (by unfold Addr.len at hta; omega)
        have hH2 := fun W => refWhole_any a W (by unfold Addr.len at hta; omega) (by unfold Addr.len at hta; omega)
        have hD1 := fun W h => dots_any s W (by omega) h
        have hD2 := fun W h => refDots_any s W (by omega) h
        have hT := fun W h => addrRight_any a W (by omega) h
        generalize writeA a = wa at hW1 hW2
        generalize wholeA a = va at hH1 hH2
        generalize dotsA s = ds at hD1 hD2
        generalize rightA a = ra at hT ⊢
        have kac := (Blk.drew ka).cell
        have K0 := (Below.refl w1.heap.size w1).drew
        go_upto_region 19 with fail
        go_region_held3 (fun W => (∀ k, W.cell? ⟨w.heap.size, k, none⟩ = a.cells[k]?) ∧ Below w1.heap.size w1 W)
          (first
            | with_reducible exact ⟨kac, K0⟩
            | with_reducible exact ⟨(ka.next K ka.lt).cell, K⟩)
          ((first
            | (go_at_call 7; go_split_ands; with_reducible refine (hW1 _).mono ?_; rintro e w10 ⟨rfl, hb⟩; have K := belowStep hb (w0 := w1) (by assumption))
            | (go_at_call 16; go_split_ands; with_reducible refine (hW2 _).mono ?_; rintro e w10 ⟨rfl, hb⟩; have K := belowStep hb (w0 := w1) (by assumption))
            | (go_at_call 11; go_split_ands; with_reducible refine (hH1 _).mono ?_; rintro e w10 ⟨rfl, hb⟩; have K := belowStep hb (w0 := w1) (by assumption))
            | (go_at_call 17; go_split_ands; with_reducible refine (hH2 _).mono ?_; rintro e w10 ⟨rfl, hb⟩; have K := belowStep hb (w0 := w1) (by assumption))
            | (go_at_call 18; go_split_ands; with_reducible refine (hD1 _ (hg.next (B.trans (Below.mono (by assumption) B.size)))).mono ?_; rintro e w10 ⟨rfl, hb⟩; have K := belowStep hb (w0 := w1) (by assumption))
            | (go_at_call 19; go_split_ands; with_reducible refine (hD2 _ (hg.next (B.trans (Below.mono (by assumption) B.size)))).mono ?_; rintro e w10 ⟨rfl, hb⟩; have K := belowStep hb (w0 := w1) (by assumption))
            | (go_at_call 8; go_split_ands; with_reducible refine (hT _ (hg.next (B.trans (Below.mono (by assumption) B.size)))).mono ?_; rintro e w10 ⟨rfl, hb⟩; have K := belowStep hb (w0 := w1) (by assumption))))
        all_goals go_split_ands
        all_goals go_wp2_with fail
        all_goals go_ret
        all_goals exact ⟨ret_bool (by simp), B.trans (Below.mono (B := w1.heap.size) (by assumption) B.size)⟩
end Go.Proofs.YtignjjnflcpiiaaDoor
