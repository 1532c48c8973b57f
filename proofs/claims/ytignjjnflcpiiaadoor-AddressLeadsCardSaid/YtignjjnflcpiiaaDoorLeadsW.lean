/-
  binderykeep.AddressLeads returns true. Condition: each argument takes at most 2^47 bytes; the library's variable MaxLen holds a number.
-/
import Derived.Test.YtignjjnflcpiiaaDoorLed
import Derived.Test.YtignjjnflcpiiaaDoorLeadsQ
namespace Go.Proofs.YtignjjnflcpiiaaDoor
open Go Go.RowKit

theorem readA_len {s : Bs} {x : Addr} (h : readA s = some x) : x.len ≤ s.length := by
  have := writeA_bits x
  rw [(read_WF h).2] at this
  have e := congrArg List.length this
  have WFx := (read_WF h).1
  have h1 : (bits (!x.scheme.isEmpty) (x.scheme ++ [58])).length ≥ x.scheme.length := by
    cases hs : x.scheme <;> simp [bits]
  have h2 : (bits x.hasAuth (47 :: 47 :: x.auth)).length ≥ x.auth.length := by
    cases hh : x.hasAuth with
    | true => simp [bits]; omega
    | false => rw [WFx.noU hh]; simp
  have h3 : (bits x.hasQuery (63 :: x.query)).length ≥ x.query.length := by
    cases hh : x.hasQuery with
    | true => simp [bits]
    | false => rw [WFx.noQ hh]; simp
  have h4 : (bits x.hasFrag (35 :: x.frag)).length ≥ x.frag.length := by
    cases hh : x.hasFrag with
    | true => simp [bits]
    | false => rw [WFx.noF hh]; simp
  simp only [List.length_append] at e
  unfold Addr.len
  omega

theorem resolve_len (x y : Addr) : (resolveA x y).len ≤ 2 * x.len + 2 * y.len + 4 ∧ (resolveA x y).path.length ≤ 2 * x.len + 2 * y.len + 4 := by
  have h1 := dotsA_len y.path
  have h2 := dotsA_len (ahead x ++ y.path)
  have h3 := ahead_len x
  simp only [List.length_append] at h2
  unfold resolveA Addr.len
  split
  · simp only; omega
  · split
    · simp only; omega
    · split
      · rename_i hp
        cases hq : y.hasQuery <;> simp <;> omega
      · rename_i c l hp
        rw [hp] at h1 h2
        rw [hp]
        split <;> simp only <;> omega

set_option maxHeartbeats 16000000 in
set_option maxRecDepth 100000 in
theorem leads_any (s t u : Bs) (w : World) (hs : s.length ≤ 140737488355328) (ht : t.length ≤ 140737488355328) (hu : u.length ≤ 140737488355328) (hg : Ground w) :
    Calls Tryd.prog 3 #[.string ⟨s.toArray⟩, .string ⟨t.toArray⟩, .string ⟨u.toArray⟩] w fun e w' => e = .returned (.bool true) ∧ Below w.heap.size w w' := by
  by_cases hlen : 500 < s.length + t.length + u.length
  · go_enter Tryd.func3, Tryd.ntmps3
    go_wp2_with fail
    go_ret
    exact ⟨rfl, Below.refl _ _⟩
  · obtain ⟨iE, hE1, hE2⟩ := Option.map_eq_some_iff.1 (show (Tryd.prog.info? 26).map (·.comparable) = some true by kernel_rfl)
    have hgd := eqGuardAddr
    cases hx : readA s with
    | none =>
      have hX := fun W h => addrRead_no s W (by omega) h hx
      go_enter Tryd.func3, Tryd.ntmps3
      go_wp2_with fail
      refine (led_any w hg).mono ?_
      rintro e w1 ⟨rfl, B1⟩
      go_wp2_with fail
      refine (hX _ (hg.next B1)).mono ?_
      rintro e w2 ⟨rfl, hb2⟩
      have B2 := B1.trans (hb2.mono B1.size)
      go_wp2_with fail
      go_ret
      exact ⟨rfl, by have := B2.size; go_grown⟩
    | some x =>
      have hX := fun W h => addrRead_yes s x W (by omega) h hx
      have hxl := readA_len hx
      have hW := fun W => addrWrite_any x W (by omega)
      rw [(read_WF hx).2] at hW
      have hR := fun W h => addrRight_any x W (by omega) h
      rw [right_read hx] at hR
      have hT := fun W h => addrRead_any t W (by omega) h
      have hU := fun W h => addrRead_any u W (by omega) h
      go_enter Tryd.func3, Tryd.ntmps3
      go_wp2_with fail
      refine (led_any w hg).mono ?_
      rintro e w1 ⟨rfl, B1⟩
      go_wp2_with fail
      refine (hX _ (hg.next B1)).mono ?_
      rintro e w2 ⟨rfl, hb2⟩
      have B2 := B1.trans (hb2.mono B1.size)
      have B2' : Below w.heap.size w (w2.alloc (.cells x.cells 24)) := B2.alloc B2.size _
      have kx := Blk.new w2 x.cells 24
      go_wp2_with fail
      refine (hW _).mono ?_
      rintro e w3 ⟨rfl, hb3⟩
      have B3 := B2'.trans (hb3.mono B2'.size)
      have kx := kx.next hb3 kx.lt
      have kxc := kx.cell
      have kxl := kx.lt
      go_wp2_with fail
      refine (hR _ (hg.next B3)).mono ?_
      rintro e w4 ⟨rfl, hb4⟩
      have B4 := B3.trans (hb4.mono B3.size)
      have kx := kx.next hb4 kx.lt
      clear kxc B3 hb3 hb4 B2' hb2 B1
      go_wp2_with fail
      refine (hT _ (hg.next B4)).mono ?_
      rintro e w5 ⟨he5, hb5⟩
      have B5 := B4.trans (hb5.mono B4.size)
      have kx := kx.next hb5 kx.lt
      cases hy : readA t with
      | none =>
        rw [hy] at he5
        obtain rfl := he5
        go_wp2_with fail
        refine (hU _ (hg.next (B5.alloc B5.size _))).mono ?_
        rintro e w6 ⟨he6, hb6⟩
        have B6 := (B5.alloc B5.size _).trans (hb6.mono (by have := B5.size; go_size))
        cases hz : readA u with
        | none =>
          rw [hz] at he6
          obtain rfl := he6
          go_wp2_with fail
          go_ret
          exact ⟨rfl, by have := B6.size; go_grown⟩
        | some z =>
          rw [hz] at he6
          obtain rfl := he6
          go_wp2_with fail
          go_ret
          exact ⟨rfl, by have := B6.size; go_grown⟩
      | some y =>
        rw [hy] at he5
        obtain rfl := he5
        have B5' : Below w.heap.size w (w5.alloc (.cells y.cells 24)) := B5.alloc B5.size _
        have ky := Blk.new w5 y.cells 24
        have kx := kx.alloc (.cells y.cells 24)
        go_wp2_with fail
        refine (hU _ (hg.next B5')).mono ?_
        rintro e w6 ⟨he6, hb6⟩
        have B6 := B5'.trans (hb6.mono B5'.size)
        have kx := kx.next hb6 kx.lt
        have ky := ky.next hb6 ky.lt
        cases hz : readA u with
        | none =>
          rw [hz] at he6
          obtain rfl := he6
          go_wp2_with fail
          go_ret
          exact ⟨rfl, by have := B6.size; go_grown⟩
        | some z =>
          rw [hz] at he6
          obtain rfl := he6
          have B6' : Below w.heap.size w (w6.alloc (.cells z.cells 24)) := B6.alloc B6.size _
          have kz := Blk.new w6 z.cells 24
          have kx := kx.alloc (.cells z.cells 24)
          have ky := ky.alloc (.cells z.cells 24)
          have kxc := kx.cell
          have kyc := ky.cell
          by_cases hsx : x.scheme = []
          · have hsb : x.scheme.isEmpty = true := by rw [hsx]; rfl
            go_wp2_with fail
            go_ret
            exact ⟨rfl, by have := B6.size; go_grown⟩
          · have hsb : x.scheme.isEmpty = false := by rw [Bool.eq_false_iff]; simpa using hsx
            obtain ⟨hwf, hrs⟩ := resolve_WF (read_WF hx).1 (read_WF hy).1 hsx
            have hyl := readA_len hy
            have hzl := readA_len hz
            obtain ⟨hrl, hrp⟩ := resolve_len x y
            have hS := Lib.hid (fun h : saysP y = true => And.intro (fun z => resolve_again (z := z) h hrs) (resolve_clean (x := x) h))
            have hC := fun W h => resolve_any x y W (by unfold Addr.len at *; omega) (by unfold Addr.len at *; omega) h
            generalize resolveA x y = r at hwf hrs hrl hrp hS hC
            have hRr := fun W h => addrRight_any r W (by omega) h
            rw [right_of hwf hrs] at hRr
            go_wp2_with fail
            refine (hC _ (hg.next B6')).mono ?_
            rintro e w7 ⟨rfl, hb7⟩
            have B7 := B6'.trans (hb7.mono B6'.size)
            have kx := (kx.next hb7 kx.lt).alloc (.cells r.cells 24)
            have ky := (ky.next hb7 ky.lt).alloc (.cells r.cells 24)
            have kz := (kz.next hb7 kz.lt).alloc (.cells r.cells 24)
            have kr := Blk.new w7 r.cells 24
            have B7' : Below w.heap.size w (w7.alloc (.cells r.cells 24)) := B7.alloc B7.size _
            clear kxc kyc hb5 hb6 hb7 hX hW hR hT hU hC B2 B4 B5 B5' B6
            go_wp2_with fail
            refine (hRr _ (hg.next B7')).mono ?_
            rintro e w8 ⟨rfl, hb8⟩
            have B8 := B7'.trans (hb8.mono B7'.size)
            have kx := kx.next hb8 kx.lt
            have ky := ky.next hb8 ky.lt
            have kz := kz.next hb8 kz.lt
            have kr := kr.next hb8 kr.lt
            clear hb8 B7' B6'
            have kyc := ky.cell
            go_upto_region 17 with fail
            go_cut [81] (fun s81 wx => s81 = .bool (saysP y) ∧ Blk wx w2.heap.size x.cells 24 ∧ Blk wx w5.heap.size y.cells 24 ∧ Blk wx w6.heap.size z.cells 24 ∧ Blk wx w7.heap.size r.cells 24 ∧ Below w.heap.size w wx)
            case first =>
              go_wp2_with fail
              all_goals go_meet
              all_goals
                refine ⟨?_, kx, ky, kz, kr, B8⟩
                simp_all [saysP]
            case rest =>
              clear kyc
              obtain ⟨rfl, kx, ky, kz, kr, B⟩ := hcut
              go_upto_if 81 with fail
              go_cut [6] (fun s6 wx => s6 = .bool false ∧ Blk wx w2.heap.size x.cells 24 ∧ Blk wx w5.heap.size y.cells 24 ∧ Blk wx w6.heap.size z.cells 24 ∧ Blk wx w7.heap.size r.cells 24 ∧ Below w.heap.size w wx)
              case first =>
                cases hsay : saysP y with
                | false =>
                  go_wp2_with fail
                  go_meet
                  exact ⟨rfl, kx, ky, kz, kr, B⟩
                | true =>
                  obtain ⟨hag, hcl⟩ := hS.out hsay
                  have HZ := Lib.hid (fun (b : Addr) (W : World) (hb : b.path.length ≤ 1073741824) (h : Ground W) => (show Calls Tryd.prog 9 #[b.val, r.val] W fun e w' => e = .returned r.val ∧ Below W.heap.size W w' from by
                    have h := resolve_any b r W hb (by unfold Addr.len at *; omega) h
                    rw [hag b] at h
                    exact h))
                  have hxp : x.path.length ≤ 1073741824 := by unfold Addr.len at *; omega
                  have hzp : z.path.length ≤ 1073741824 := by unfold Addr.len at *; omega
                  clear hag
                  obtain ⟨w9, rfl⟩ : ∃ w9 : World, w9 = wc := ⟨_, rfl⟩
                  go_upto_region 18 with fail
                  go_cut [93] (fun s93 wx => s93 = .bool false ∧ Blk wx w2.heap.size x.cells 24 ∧ Blk wx w5.heap.size y.cells 24 ∧ Blk wx w6.heap.size z.cells 24 ∧ Blk wx w7.heap.size r.cells 24 ∧ Below w.heap.size w wx)
                  case first =>
                    as_aux_lemma =>
                    have kxc := (Blk.drew kx).cell
                    have kzc := (Blk.drew kz).cell
                    have krc := (Blk.drew kr).cell
                    have K0 := (Below.refl w9.heap.size w9).drew
                    go_region_held3 (fun W => (∀ k, W.cell? ⟨w2.heap.size, k, none⟩ = x.cells[k]?) ∧ (∀ k, W.cell? ⟨w6.heap.size, k, none⟩ = z.cells[k]?) ∧ (∀ k, W.cell? ⟨w7.heap.size, k, none⟩ = r.cells[k]?) ∧ Below w9.heap.size w9 W)
                      (first
                        | with_reducible exact ⟨kxc, kzc, krc, K0⟩
                        | with_reducible exact ⟨(kx.next K kx.lt).cell, (kz.next K kz.lt).cell, (kr.next K kr.lt).cell, K⟩)
                      ((go_at_call 9; go_split_ands; with_reducible refine (HZ.out _ _ (by assumption) (hg.next (B.trans (Below.mono (by assumption) B.size)))).mono ?_; rintro e w10 ⟨rfl, hb⟩; have K := belowStep hb (w0 := w9) (by assumption)))
                    all_goals go_split_ands
                    all_goals go_wp2_with fail
                    all_goals
                      go_meet
                      exact ⟨rfl, kx.next (B := w9.heap.size) (by assumption) kx.lt, ky.next (B := w9.heap.size) (by assumption) ky.lt, kz.next (B := w9.heap.size) (by assumption) kz.lt, kr.next (B := w9.heap.size) (by assumption) kr.lt, B.trans (Below.mono (B := w9.heap.size) (by assumption) B.size)⟩
                  case rest =>
                    obtain ⟨rfl, kx, ky, kz, kr, B⟩ := hcut
                    have krc := kr.cell
                    have hpos : 0 < (splitC 47 r.path).length := List.length_pos_iff.2 (splitC_ne 47 r.path)
                    have hcnt : (splitC 47 r.path).length ≤ r.path.length + 1 := by rw [splitC_count]; have := List.count_le_length (a := (47 : UInt8)) (l := r.path); omega
                    have hSp := fun W h => splitOne r.path 47 W (by unfold Addr.len at *; omega) h
                    generalize splitC 47 r.path = l at hSp hcl hpos hcnt
                    go_wp2_with fail
                    refine (hSp _ (hg.next B)).mono ?_
                    rintro e w11 ⟨rfl, rfl⟩
                    have kl := Blk.new wc (strRow l) 9
                    have klc := kl.cell
                    go_wp2_with fail
                    have B' : Below w.heap.size w (wc.alloc (.cells (strRow l) 9)) := B.alloc B.size _
                    go_loop [6, 14] (fun b i => b = .bool false ∧ ∃ k : Nat, k ≤ l.length ∧ i = .int .i64 k) (fun _ i => l.length - (intOf i).toNat)
                    case atStart => exact ⟨rfl, 0, Nat.zero_le _, rfl⟩
                    case round =>
                      obtain ⟨rfl, k, hk, rfl⟩ := hrel
                      by_cases hlt : k < l.length
                      · have hc : (wc.alloc (.cells (strRow l) 9)).cell? ⟨wc.heap.size, k, none⟩ = some (.string ⟨(l[k]).toArray⟩) := by rw [klc]; simp [strRow, hlt]
                        obtain ⟨h1, h2, _, h4⟩ := hcl k hlt
                        clear hcl
                        generalize l[k] = p at hc h1 h2 h4
                        clear klc
                        have h1b : (p == [46]) = false := by rw [beq_eq_false_iff_ne]; exact h1
                        have h2b : (p == [46, 46]) = false := by rw [beq_eq_false_iff_ne]; exact h2
                        by_cases hp : p = []
                        · subst hp
                          have h4 := Lib.hid (h4 rfl)
                          rcases h4.out with h5 | h5
                          · subst h5
                            go_wp2_with fail
                            all_goals
                              go_round
                              case rel => exact ⟨rfl, 1, by omega, by go_num⟩
                              case measure => simp [intOf]; omega
                          · have h6 : ¬ ((k : Int) + 1 < l.length) := by omega
                            go_wp2_with fail
                            all_goals
                              go_round
                              case rel => exact ⟨rfl, k + 1, by omega, by go_num⟩
                              case measure => simp [intOf]; omega
                        · have h7 : p.isEmpty = false := by rw [Bool.eq_false_iff]; simpa using hp
                          clear h4
                          go_wp2_with fail
                          all_goals
                            go_round
                            case rel => exact ⟨rfl, k + 1, by omega, by go_num⟩
                            case measure => simp [intOf]; omega
                      · go_wp2_with fail
                        go_meet
                        exact ⟨rfl, kx.alloc _, ky.alloc _, kz.alloc _, kr.alloc _, B'⟩
              case rest =>
                obtain ⟨rfl, kx, ky, kz, kr, B⟩ := hcut
                have krc := kr.cell
                obtain ⟨hwW, hwS⟩ := whole_WF hwf hrs
                have hww := whole_twice r
                have hwl : (wholeA r).len = r.len - r.frag.length := by unfold wholeA Addr.len lowS; simp
                have hWh := fun W => addrWhole_any r W (by unfold Addr.len at *; omega) (by unfold Addr.len at *; omega)
                have hWw := fun W => addrWhole_any (wholeA r) W (by unfold Addr.len at *; omega) (by unfold Addr.len at *; omega)
                rw [hww] at hWw
                have hRw := fun W h => addrRight_any (wholeA r) W (by omega) h
                rw [right_of hwW hwS] at hRw
                have hfr : (wholeA r).hasFrag = false := rfl
                generalize wholeA r = v at hWh hWw hRw hfr
                obtain ⟨vs, vha, vu, vp, vhq, vq, vhf, vf⟩ := v
                simp only at hfr
                subst hfr
                clear hww hwW hwS hwl kx ky kz hS hRr
                go_upto_region 26 with fail
                go_cut [15] (fun s15 wx => ∃ b, s15 = .pointer (some ⟨b, 0, none⟩) ∧ Blk wx b (Addr.cells ⟨vs, vha, vu, vp, vhq, vq, false, vf⟩) 24 ∧ Below w.heap.size w wx)
                case first =>
                  go_wp2_with fail
                  refine (hWh _).mono ?_
                  rintro e w12 ⟨rfl, hb12⟩
                  have B12 := B.trans (hb12.mono B.size)
                  go_wp2_with fail
                  go_meet
                  exact ⟨w12.heap.size, rfl, Blk.new w12 (Addr.cells ⟨vs, vha, vu, vp, vhq, vq, false, vf⟩) 24, B12.alloc B12.size _⟩
                case rest =>
                  clear B kr krc
                  obtain ⟨b, rfl, kv, B⟩ := hcut
                  obtain ⟨w13, rfl⟩ : ∃ w13 : World, w13 = wc := ⟨_, rfl⟩
                  have kvc := kv.cell
                  go_upto_region 27 with fail
                  go_region_with (first
                    | ((with_reducible refine (hWw _).mono ?_); (rintro e w14 ⟨rfl, hb⟩); (have K := belowStep hb (w0 := w13) (by repeat (first | exact Below.refl _ _ | assumption | refine Below.drew ?_))); (have KB := B.trans (K.mono B.size)); (have kvc := (kv.next K kv.lt).cell))
                    | ((with_reducible refine (hRw _ (hg.next (by repeat (first | assumption | refine Below.drew ?_)))).mono ?_); (rintro e w14 ⟨rfl, hb⟩); (have K := belowStep hb (w0 := w13) (by repeat (first | exact Below.refl _ _ | assumption | refine Below.drew ?_))); (have KB := B.trans (K.mono B.size)); (have kvc := (kv.next K kv.lt).cell)))
                  all_goals go_wp2_with fail
                  all_goals go_ret
                  all_goals exact ⟨rfl, by first | exact KB | exact KB.drew | exact KB.drew.drew | go_grown⟩
end Go.Proofs.YtignjjnflcpiiaaDoor
