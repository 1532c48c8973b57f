/- bundle.begin. Condition: what the variables hold; so much in the head; A strings.Builder whose writes keep every other block: the shelf's forms '_k'. No condition but on lengths; page.Replace: its walk. Condition: the page takes at most 10^9 bytes, the values are at most 10^6 of at most 10^6 bytes e. -/
import Derived.Deep.RegionHeldLaw
import Derived.Shelf.Strings.BuilderK
import Derived.Test.YtignjjnflcpiiaaGreatDoorQ25
namespace Go.Proofs.YtignjjnflcpiiaaGreatDoor
open Go Go.RowKit
theorem beginF_go {h : List Fld} {s : Bs} {k : Nat} (hk : k < h.length) (hn : lowS (h[k]).1 ≠ lowS ctN) (hs : beginF h s = h.take k ++ beginF (h.drop k) s) : beginF h s = h.take (k + 1) ++ beginF (h.drop (k + 1)) s := by
  rw [hs, List.drop_eq_getElem_cons hk]
  conv => lhs; rw [beginF, if_neg hn]
  rw [List.take_succ_eq_append_getElem hk, List.append_assoc]
  rfl
theorem beginF_hit {h : List Fld} {s : Bs} {k : Nat} (hk : k < h.length) (hn : lowS (h[k]).1 = lowS ctN) (hs : beginF h s = h.take k ++ beginF (h.drop k) s) : beginF h s = h.set k ((h[k]).1, startV (h[k]).2 s) := by
  rw [hs, List.drop_eq_getElem_cons hk]
  conv => lhs; rw [beginF, if_pos hn]
  rw [List.set_eq_take_append_cons_drop, if_pos hk]
theorem beginF_end {h : List Fld} {s : Bs} (hs : beginF h s = h.take h.length ++ beginF (h.drop h.length) s) : beginF h s = h := by
  rw [hs, List.take_length, List.drop_length]; simp [beginF]
theorem OwnG.below {α : Type} {e size : Nat} {cs : α → List Value} {w w' : World} {B M : Nat} {v : Value} {xs : List α} (h : OwnG e size cs w B v xs) (hb : Below M w w') (hl : ∀ g, v.ownBlock = some g → g < M) : OwnG e size cs w' B v xs := by
  rcases h with ⟨h3, h4⟩
  refine ⟨h3, ?_⟩
  rcases h4 with h4 | ⟨g, cap, cur, hv, hg, hh, r⟩
  · exact Or.inl h4
  · exact Or.inr ⟨g, cap, cur, hv, hg, (hb.block g (hl g (by rw [hv]; rfl))).trans hh, r⟩
theorem OwnG.one {α : Type} {e size : Nat} {cs : α → List Value} (hsz : 0 < size) (hcs : ∀ x, (cs x).length = size) {w : World} {B : Nat} {v : Value} {xs : List α} {y : α} (h : OwnG e size cs w B v (xs ++ [y])) : ∃ a cap, v = .slice a (xs.length + 1) cap ∧ RdG size cs w (.slice a (xs.length + 1) cap) (xs ++ [y]) := by
  obtain ⟨a, cap, hv, hc⟩ := OwnG.rd hsz hcs h
  have e1 : (xs ++ [y]).length = xs.length + 1 := by simp
  exact ⟨a, cap, by rw [hv, e1], a, cap, by rw [e1], hc⟩
theorem TextOr.get {n : Int} {r : Option Bs} {e : Ending} {w' : World} (h : TextOr n r e w') : ∃ ev, e = .returned (.tuple #[.string ⟨(r.getD []).toArray⟩, ev]) := by
  rcases h with ⟨o, rfl, rfl⟩ | ⟨ev, rfl, rfl, _⟩
  · exact ⟨_, rfl⟩
  · exact ⟨_, rfl⟩
set_option maxHeartbeats 16000000 in
set_option maxRecDepth 100000 in
theorem begin_any (pb : Nat) (ha : Option Go.Addr) (hc : Nat) (h : List Fld) (x1 x2 x3 : Value) (s : Bs) (B : Nat) (w : World) (hk : Blk w pb #[.slice ha h.length hc, x1, x2, x3] 44) (hown : OwnF w B (.slice ha h.length hc) h)
    (hgB : 3 < B) (hne : ∀ g, ha = some ⟨g, 0, none⟩ → g ≠ pb) (hn : FldsN 100000 h) (hs : s.length ≤ 100000) (hg : Gr w) :
    Calls Tryz.prog 46 #[.pointer (some ⟨pb, 0, none⟩), .string ⟨s.toArray⟩] w fun e w' => e = .returned (.tuple #[]) ∧ OwnF w' B (.slice ha h.length hc) (beginF h s) ∧ (Below w.heap.size w w' ∨ ∃ g, ha = some ⟨g, 0, none⟩ ∧ BelowO g w.heap.size w w') := by
  have kc := hk.cell
  have hlen := hn.1
  have HS0 := Lib.hid (show beginF h s = h.take 0 ++ beginF (h.drop 0) s from by simp)
  have HN := Lib.hid hn
  have HNE := Lib.hid hne
  clear hn hne
  go_enter Tryz.func46, Tryz.ntmps46
  go_wp2_with fail
  go_loopw [17] (fun i wr => ∃ k : Nat, i = .int .i64 k ∧ k ≤ h.length ∧ Hid (beginF h s = h.take k ++ beginF (h.drop k) s) ∧ Below w.heap.size w wr) (fun i _ => h.length - (intOf i).toNat)
  case atStart => exact ⟨0, rfl, by omega, HS0, Below.refl _ _⟩
  case round =>
    clear HS0
    obtain ⟨k, rfl, hkl, HS, BW⟩ := hrel
    have hown1 := OwnG.next hown BW
    by_cases hlt : k < h.length
    · obtain ⟨g, hka⟩ : ∃ g, ha = some ⟨g, 0, none⟩ := by
        obtain ⟨a, c, h, h2⟩ := RdF.open (OwnG.rd (by decide) fldC_len hown1)
        injection h with h _ _
        obtain ⟨b, h3, _⟩ := h2 k hlt
        exact ⟨b, h.trans h3⟩
      subst hka
      have c1 := OwnG.cellAt fldC_len hown1 k hlt 0 (by decide)
      have c2 := OwnG.cellAt fldC_len hown1 k hlt 1 (by decide)
      have hge := OwnG.own_ge hown1 g rfl
      have hglt := OwnG.own_lt hown1 g rfl
      have hf := HN.out.2 _ (List.getElem_mem hlt)
      have HG := Lib.hid (fun e => beginF_go (s := s) hlt e HS.out)
      have HH := Lib.hid (fun e => beginF_hit (s := s) hlt e HS.out)
      have HSV := Lib.hid (fun (W : World) (o : OwnF W B (.slice (some ⟨g, 0, none⟩) h.length hc) h) (yy : Bs) => o.setV k hlt yy)
      have HCL := Lib.hid (fun (W : World) (o : OwnF W B (.slice (some ⟨g, 0, none⟩) h.length hc) h) => OwnG.cellAt fldC_len o k hlt 1 (by decide))
      simp only [fldC, Nat.add_zero, List.getElem?_cons_zero, List.getElem?_cons_succ] at c1 c2 HCL
      generalize h[k] = f at c1 c2 hf HG HH HSV HCL
      obtain ⟨x, y⟩ := f
      simp only at c1 c2 hf HG HH HSV HCL
      have BA := (Below.refl wr.heap.size wr).alloc (Nat.le_refl _) (.cells #[.string ⟨x.toArray⟩, .string ⟨y.toArray⟩] 92)
      have k5 := Blk.new wr #[.string ⟨x.toArray⟩, .string ⟨y.toArray⟩] 92
      have hS1 := fun W => small_any x W (by omega)
      have hS2 := fun W => small_any [67, 111, 110, 116, 101, 110, 116, 45, 84, 121, 112, 101] W (by decide)
      generalize lowS x = lx at hS1 HG HH
      generalize hly : lowS [67, 111, 110, 116, 101, 110, 116, 45, 84, 121, 112, 101] = ly at hS2
      rw [show lowS ctN = ly from hly] at HG HH
      clear hly
      have k5c := k5.cell
      go_upto_region 3 with fail
      generalize World.alloc _ _ = w2 at BA k5 k5c ⊢
      go_wp2_with fail
      with_reducible refine (hS1 _).mono ?_
      rintro e w3 ⟨rfl, b3⟩
      go_wp2_with fail
      with_reducible refine (hS2 _).mono ?_
      rintro e w4 ⟨rfl, b4⟩
      have b24 := b3.trans (b4.mono b3.size)
      have k5 := k5.next b24 k5.lt
      have BA := BA.trans (b24.mono BA.size)
      have B4 := BW.trans (BA.mono BW.size)
      have hown4 := OwnG.next hown1 BA
      have k5c := k5.cell
      clear hS1 hS2 b3 b4 b24
      by_cases he : lx = ly
      · have HH2 := Lib.hid (HH.out he)
        clear HH
        subst he
        have HB : (lx == lx) = true := beq_self_eq_true _
        have hgr := hg.next B4
        have hK := readKind_any y w4 (by omega) hgr.g
        have HVV := Lib.hid (show startV y s = (writeK ((readK y).getD ([], [])).1 ((((readK y).getD ([], [])).2.filter fun f => !(f.1 == startN)) ++ [(startN, angled s)])).getD [] from rfl)
        clear HG HS
        go_wp2_with fail
        with_reducible refine hK.mono ?_
        rintro e w5 ⟨hh, b5⟩
        obtain ⟨m, ps, kv, err, rfl, hownp, hkk, hml, hpn, _⟩ := hh.get
        rw [hkk] at HVV
        simp only at HVV
        clear hh hK hkk
        have hpn := hpn.mono (show y.length ≤ 100000 by omega)
        have B5 := B4.trans (b5.mono B4.size)
        have hown5 := OwnG.next hown4 b5
        have hg5 := hgr.next b5
        have hs5 := b5.size
        have hgl5 : g < w5.heap.size := by have := BA.size; omega
        clear hown4 hown1 hgr k5 k5c b5 c1 c2 HB BA BW
        obtain ⟨a9, c9, e9, hcp⟩ := OwnG.rdB (by decide) fldC_len hownp
        subst e9
        have hcp := (OwnG.rdB (by decide) fldC_len hownp)
        have hpl := hpn.1
        obtain ⟨wo, rfl⟩ : ∃ x : World, x = wr := ⟨_, rfl⟩
        go_wp2_with fail
        go_loopw [9, 36] (fun pv iv wq => ∃ (j : Nat) (out : List Fld), iv = .int .i64 j ∧ j ≤ ps.length ∧ out.length ≤ j ∧ OwnP wq w5.heap.size pv out ∧ Hid (out ++ (ps.drop j).filter (fun f => !(f.1 == startN)) = ps.filter fun f => !(f.1 == startN)) ∧ Below w5.heap.size w5 wq) (fun _ iv _ => ps.length - (intOf iv).toNat)
        case atStart => exact ⟨0, [], rfl, by omega, by simp, OwnG.nil _ _ _ _ _, Lib.hid (by simp), Below.refl _ _⟩
        case round =>
          obtain ⟨j, out, rfl, hj, hol, hownq, Hall, BQ⟩ := hrel
          obtain ⟨wq, rfl⟩ : ∃ x : World, x = wr := ⟨_, rfl⟩
          by_cases hjl : j < ps.length
          · obtain ⟨qb, rfl, _, hqb, hcell⟩ := hcp.at fldC_len j hjl
            have c0 := (BQ.cell (p := ⟨qb, j * 2 + 0, none⟩) hqb).trans (hcell 0 (by decide))
            have c1 := (BQ.cell (p := ⟨qb, j * 2 + 1, none⟩) hqb).trans (hcell 1 (by decide))
            have HDR := Lib.hid (show ∀ q, ps[j] = q → (out ++ (if !(q.1 == startN) then q :: (ps.drop (j + 1)).filter (fun f => !(f.1 == startN)) else (ps.drop (j + 1)).filter (fun f => !(f.1 == startN)))) = ps.filter fun f => !(f.1 == startN) from fun q hq => by
              rw [← Hall.out, List.drop_eq_getElem_cons hjl, hq, List.filter_cons])
            have HDR := Lib.hid (HDR.out _ rfl)
            clear hcell Hall
            generalize ps[j] = q at c0 c1 HDR
            obtain ⟨q1, q2⟩ := q
            simp only [fldC, Nat.add_zero, List.getElem?_cons_zero, List.getElem?_cons_succ] at c0 c1 HDR
            have BB := (Below.refl wq.heap.size wq).alloc (Nat.le_refl _) (.cells #[.string ⟨q1.toArray⟩, .string ⟨q2.toArray⟩] 119)
            have k11 := Blk.new wq #[.string ⟨q1.toArray⟩, .string ⟨q2.toArray⟩] 119
            have k11c := k11.cell
            have hqo := OwnG.next hownq BB
            have BQ1 := BQ.trans (BB.mono BQ.size)
            have hsq := BQ1.size
            by_cases hst : q1 = startN
            · have HD := Lib.hid (show out ++ (ps.drop (j + 1)).filter (fun f => !(f.1 == startN)) = ps.filter fun f => !(f.1 == startN) from by rw [← HDR.out, hst]; simp)
              have hst2 : (q1 == [115, 116, 97, 114, 116]) = true := by rw [beq_iff_eq]; exact hst
              clear HDR hst hownq
              go_wp2_with fail
              go_roundw
              case rel => exact ⟨j + 1, out, by go_num, by omega, by omega, hqo, HD, BQ1⟩
              case measure => simp [intOf]; omega
            · have HD := Lib.hid (show (out ++ [(q1, q2)]) ++ (ps.drop (j + 1)).filter (fun f => !(f.1 == startN)) = ps.filter fun f => !(f.1 == startN) from by
                rw [← HDR.out, show (q1 == startN) = false from by rw [beq_eq_false_iff_ne]; exact hst]; simp)
              have hst2 : (q1 == [115, 116, 97, 114, 116]) = false := by rw [beq_eq_false_iff_ne]; exact hst
              clear HDR hst hownq
              go_upto_region 9 with fail
              generalize World.alloc _ _ = wa at BB k11 k11c hqo BQ1 hsq ⊢
              have hqo2 := OwnG.alloc hqo (.cells #[.string ⟨q1.toArray⟩, .string ⟨q2.toArray⟩] 119)
              go_wp2_with (at_builtin; refine appP rfl _ _ rfl w5.heap.size _ out (q1, q2) wa.heap.size 1 rfl hqo2 rfl (cellF1 wa (q1, q2) _) (by omega) (by simp; omega) ?_; intro v' w9 hownq9 hg9 hb9)
              go_wp2_with fail
              go_roundw
              case rel => exact ⟨j + 1, out ++ [(q1, q2)], by go_num, by omega, by simp; omega, hownq9, HD, (BQ1.alloc hsq _).trans hb9⟩
              case measure => simp [intOf]; omega
          · obtain rfl : j = ps.length := by omega
            have HO := Lib.hid (show ps.filter (fun f => !(f.1 == startN)) = out from by rw [← Hall.out, List.drop_length]; simp)
            have hon : FldsN 100000 out := by
              rw [← HO.out]
              exact ⟨Nat.le_trans (List.length_filter_le _ _) hpn.1, fun f hf => hpn.2 f (List.mem_filter.1 hf).1⟩
            have hon2 : FldsN 1000000 (out ++ [([115, 116, 97, 114, 116], 60 :: (s ++ [62]))]) := by
              refine ⟨by have := hon.1; simp; omega, fun f hf => ?_⟩
              rcases List.mem_append.1 hf with hf | hf
              · have := hon.2 f hf; omega
              · simp only [List.mem_singleton] at hf
                subst hf
                simp; omega
            have HVV := Lib.hid (show startV y s = (writeK m (out ++ [([115, 116, 97, 114, 116], 60 :: (s ++ [62]))])).getD [] from by rw [HVV.out, HO.out]; rfl)
            have hW := fun W kv2 (h1 : RdF W kv2 (out ++ [([115, 116, 97, 114, 116], 60 :: (s ++ [62]))])) (h3 : Ground W) => writeKind_any m kv2 _ W h1 (by omega) hon2.1 hon2.2 h3
            generalize hwk : writeK m _ = wk at hW HVV
            clear hwk Hall HO
            have BX := B5.trans (BQ.mono B5.size)
            have hownX := OwnG.next hown5 BQ
            have kbX := hk.next BX hk.lt
            have hgX := hg5.next BQ
            have kbXc := kbX.cell
            have hpb5 : pb < w5.heap.size := by have := hk.lt; have := B5.size; omega
            have hsq := BQ.size
            have hw5 := B5.size
            obtain ⟨pa, pcap, hpe, _⟩ := OwnG.rd (by decide) fldC_len hownq
            subst hpe
            have q1 := Lib.hid (show (out.length + [(([115, 116, 97, 114, 116] : Bs), (60 :: (s ++ [62]) : Bs))].length) * 32 ≤ 140737488355328 from by have := hon.1; simp; omega)
            have q2 := Lib.hid (show out.length + [(([115, 116, 97, 114, 116] : Bs), (60 :: (s ++ [62]) : Bs))].length ≤ maxLen from by have := hon.1; unfold maxLen; simp; omega)
            have hownA := OwnG.next (OwnG.alloc hownq (.cells #[.string ⟨([115, 116, 97, 114, 116] : Bs).toArray⟩, .string ⟨(60 :: (s ++ [62]) : Bs).toArray⟩] 119)) (Below.refl _ _).drew
            have hcellA : ∀ j u, ([(([115, 116, 97, 114, 116] : Bs), (60 :: (s ++ [62]) : Bs))].flatMap fldC)[j]? = some u → (wq.alloc (.cells #[.string ⟨([115, 116, 97, 114, 116] : Bs).toArray⟩, .string ⟨(60 :: (s ++ [62]) : Bs).toArray⟩] 119)).drew.cell? ((⟨wq.heap.size, 0, none⟩ : Go.Addr).add j) = some u := cellF1 wq ([115, 116, 97, 114, 116], 60 :: (s ++ [62])) _
            have KA := Lib.hid (((Below.refl w5.heap.size wq).alloc hsq (.cells #[.string ⟨([115, 116, 97, 114, 116] : Bs).toArray⟩, .string ⟨(60 :: (s ++ [62]) : Bs).toArray⟩] 119)).drew)
            have hbaseA := Lib.hid KA.out.size
            have hbase2 := Lib.hid (show w5.heap.size ≤ (wq.alloc (.cells #[.string ⟨([115, 116, 97, 114, 116] : Bs).toArray⟩, .string ⟨(60 :: (s ++ [62]) : Bs).toArray⟩] 119)).drew.heap.size from Nat.le_trans hsq hbaseA.out)
            have kbA := (kbX.alloc (.cells #[.string ⟨([115, 116, 97, 114, 116] : Bs).toArray⟩, .string ⟨(60 :: (s ++ [62]) : Bs).toArray⟩] 119)).drew
            have kbAc := kbA.cell
            have kbd := kbX.drew.cell
            have s1 : ¬ 9223372036854775807 < 1 + s.length := by omega
            have s2 : ¬ 9223372036854775807 < s.length + 1 + 1 := by omega
            have HGX := Lib.hid hgX
            have hgl6 := Lib.hid (show ∀ b, (Value.slice (some ⟨g, 0, none⟩) h.length hc).ownBlock = some b → b < w5.heap.size from fun b e => by injection e with e; simp only at e; omega)
            have i0 : (0 : Int) ≤ k := by omega
            have i1 : (k : Int) < h.length := by omega
            clear hcp hpn BQ hgX hg5 hownq hown5 hon hon2
            go_upto_region 12 with fail
            go_region_law ((first
              | (refine stepG (α := Fld) (cs := fldC) (size := 2) (z := .agg #[.string ByteArray.empty, .string ByteArray.empty]) fldC_len fldC_one infoPar rfl (by decide) Tryz.underlying79 rfl _ _ rfl w5.heap.size _ out [([115, 116, 97, 114, 116], 60 :: (s ++ [62]))] ⟨wq.heap.size, 0, none⟩ 1 1 rfl (by decide) rfl hownA rfl hcellA q1.out q2.out hbase2.out ?_; intro v' w11 hownp11 hgr11 hb11; have K11 := Lib.hid (KA.out.trans hb11); have kb11 := kbA.next hb11 hpb5; have kb11c := kb11.cell; obtain ⟨a11, cap11, hv11, hrdx⟩ := OwnG.one Nat.two_pos fldC_len hownp11; have hrd11 := Lib.hid hrdx; clear hrdx; subst hv11)
              | (go_simp; with_reducible refine (hW _ _ hrd11.out (HGX.out.below (by omega) K11.out).g).mono ?_; rintro e w12 ⟨hh12, hb12⟩; have K12 := Lib.hid (K11.out.trans (hb12.mono (B' := w5.heap.size) (by have := K11.out.size; omega))); have kb12c := (kb11.next hb12 kb11.lt).cell; have hown12 := OwnG.next (OwnG.below hownX K11.out hgl6.out) hb12; have hfr12 := OwnG.free hown12; have c12 := HCL.out _ hown12; obtain ⟨ev, rfl⟩ := hh12.get)))
            all_goals
              go_wp2_with fail
              first | go_end0 | (simp only [Exit.inBlock, Exit.then]; refine bodyPost_ret (results_none rfl _ _ _) rfl ?_) | refine bodyPost_ret (results_none rfl _ _ _) rfl ?_
              refine ⟨rfl, ?_, Or.inr ⟨g, rfl, ?_⟩⟩
              · rw [HH2.out, HVV.out]
                exact HSV.out _ hown12 _
              exact (BelowO.of (BX.trans (K12.out.mono hw5))).set _
      · have HG := Lib.hid (HG.out he)
        have HB : (lx == ly) = false := by rw [beq_eq_false_iff_ne]; exact he
        clear HH HS HSV he
        go_wp2_with fail
        go_roundw
        case rel => exact ⟨k + 1, by go_num, by omega, HG, B4⟩
        case measure => simp [intOf]; omega
    · obtain rfl : k = h.length := by omega
      have HD := Lib.hid (beginF_end HS.out)
      clear HS
      go_wp2_with fail
      go_end0
      exact ⟨rfl, by rw [HD.out]; exact hown1, Or.inl BW⟩
abbrev BldF (B b : Nat) (l : Bs) (w : World) : Prop := Lib.IsBuilderF 128 5 B b (Lib.byteCells l) w
abbrev Oth (b : Nat) (w w' : World) : Prop := Lib.OthersKept 5 (some b) w w'
theorem bldNewF (w : World) : BldF w.heap.size w.heap.size [] (w.alloc (.cells #[.pointer none, .slice none 0 0] 128)) := (bldNew w).imp Lib.BuilderAtF.of Lib.BuilderAtF.of
theorem wrStrK (B b : Nat) (l s : Bs) (w : World) (h : BldF B b l w) (hlen : l.length + s.length ≤ 140737488355328) (hBw : B ≤ w.heap.size) :
    Calls Tryz.prog 78 #[.pointer (some ⟨b, 0, none⟩), .string ⟨s.toArray⟩] w fun e w' => e = .returned (.tuple #[.int .i64 s.length, .nilIface]) ∧ BldF B b (l ++ s) w' ∧ Below B w w' ∧ Oth b w w' := by
  refine (Any.Builder_WriteString_k { Tryz.lays156 with } Tryz.Builder_Extra_156 B b (Lib.byteCells l) ⟨s.toArray⟩ w h (by rw [Lib.byteCells_length]; exact hlen) hBw).mono ?_
  rintro e w' ⟨rfl, h1, h2, h3⟩
  refine ⟨rfl, Or.inr ?_, h2, h3⟩
  have e : Lib.byteCells l ++ Lib.strCells ⟨s.toArray⟩ = Lib.byteCells (l ++ s) := by simp [Lib.byteCells, Lib.strCells]
  rw [← e]; exact h1
theorem bldStrK (B b : Nat) (l : Bs) (w : World) (h : BldF B b l w) (hBw : B ≤ w.heap.size) :
    Calls Tryz.prog 80 #[.pointer (some ⟨b, 0, none⟩)] w fun e w' => e = .returned (.string ⟨l.toArray⟩) ∧ BldF B b l w' ∧ Below B w w' ∧ Oth b w w' := Any.Builder_String_any_k { Tryz.lays156 with } Tryz.Builder_Extra_156 B b l w h hBw
theorem rowNextF {B : Nat} {e : TypeId} {k : Nat} {v : Value} {n : Nat} {xs : List Value} {w w' : World} (h : w.ownsRowF B e k v n xs) (hb : Below w.heap.size w w') : w'.ownsRowF B e k v n xs := by
  rcases h with ⟨h3, h4⟩
  refine ⟨h3, ?_⟩
  rcases h4 with h4 | ⟨g, cap, cur, fz, hv, hg, hh, r⟩
  · exact Or.inl h4
  · have hlt : g < w.heap.size := by
      rcases Nat.lt_or_ge g w.heap.size with h' | h'
      · exact h'
      · rw [Array.getElem?_eq_none h'] at hh; cases hh
    exact Or.inr ⟨g, cap, cur, fz, hv, hg, (hb.block g hlt).trans hh, r⟩
theorem BldF.next {B b : Nat} {l : Bs} {w w' : World} (h : BldF B b l w) (hb : Below w.heap.size w w') : BldF B b l w' := by
  have go : ∀ p, Lib.BuilderAtF 128 5 B b p (Lib.byteCells l) w → Lib.BuilderAtF 128 5 B b p (Lib.byteCells l) w' := by
    rintro p ⟨h1, v, h2, h3, h5⟩
    have hlt : b < w.heap.size := by
      rcases Nat.lt_or_ge b w.heap.size with h' | h'
      · exact h'
      · rw [Array.getElem?_eq_none h'] at h2; cases h2
    exact ⟨h1, v, (hb.block b hlt).trans h2, rowNextF h3 hb, h5⟩
  exact h.imp (go _) (go _)
theorem BldF.drew {B b : Nat} {l : Bs} {w : World} (h : BldF B b l w) : BldF B b l w.drew := h.imp (·.drew) (·.drew)
theorem BldF.lt {B b : Nat} {l : Bs} {w : World} (h : BldF B b l w) : b < w.heap.size := h.elim (·.lt) (·.lt)
theorem Blk.oth {w w' : World} {g b : Nat} {cells : Array Value} {t : TypeId} (h : Blk w g cells t) (ho : Oth b w w') (hne : g ≠ b) (ht : t ≠ 5) : Blk w' g cells t := by
  exact ho g _ h (fun e => hne (Option.some.inj e)) (fun c fz e => ht (by injection e))
set_option maxHeartbeats 8000000 in
set_option maxRecDepth 100000 in
theorem preplace_any (s : Bs) (vals : List Bs) (vv : Value) (w : World) (hg : Gr w) (hs : s.length ≤ 1000000000) (hv : RdG 1 strC w vv vals) (hvl : vals.length ≤ 1000000) (hvb : ∀ x ∈ vals, x.length ≤ 1000000) :
    Calls Tryz.prog 45 #[.string ⟨s.toArray⟩, vv] w fun e w' => TextOr 1 (replK s vals) e w' ∧ Below w.heap.size w w' := by
  obtain ⟨va, vcap, rfl, hvc⟩ := hv.opens strC_len
  have HVC := Lib.hid hvc
  have HVB := Lib.hid hvb
  clear hvc hv hvb
  have HRK := Lib.hid (show replK s vals = if (linksT s).length = vals.length then some (replF s ((linksT s).zip vals) 0) else none from rfl)
  have hLies := (linksT_lies s).1
  have hpos := linksT_pos s
  have hC := links_any s w hg hs
  generalize linksT s = L at HRK hLies hpos hC
  go_enter Tryz.func45, Tryz.ntmps45
  go_wp2_with fail
  with_reducible refine hC.mono ?_
  rintro e w1 ⟨v, rfl, hown, b1⟩
  obtain ⟨a, cap, rfl, hc⟩ := (OwnG.rd (by decide) lnkC_len hown).opens lnkC_len
  have HC := Lib.hid hc
  clear hC hc hown
  by_cases hn : L.length = vals.length
  case neg =>
    have HN := Lib.hid (show replK s vals = none from by rw [HRK.out, if_neg hn])
    have hn2 : ¬ ((L.length : Int) = (vals.length : Int)) := by omega
    go_wp2_with fail
    go_ret2
    exact ⟨Or.inr ⟨_, HN.out, rfl, Or.inr (Or.inl rfl)⟩, b1⟩
  have HN := Lib.hid (show replK s vals = some (replF s (L.zip vals) 0) from by rw [HRK.out, if_pos hn])
  have hn2 : (L.length : Int) = (vals.length : Int) := by omega
  have HP := Lib.hid hpos
  have b0 := bldNewF w1
  have HL := Lib.hid hLies
  clear HRK hpos hLies
  go_wp2_with fail
  go_loopw [8, 23] (fun at' i wr => ∃ (k p : Nat) (out : Bs), at' = .int .i64 p ∧ i = .int .i64 k ∧ k ≤ L.length ∧ p ≤ s.length ∧ Lies p (L.drop k) s.length ∧ out.length ≤ p + k * 6000002 ∧ BldF w1.heap.size w1.heap.size out wr ∧ Hid (out ++ replF s ((L.zip vals).drop k) p = replF s (L.zip vals) 0) ∧ Below w1.heap.size w1 wr) (fun _ i _ => L.length - (intOf i).toNat)
  case atStart => exact ⟨0, 0, [], rfl, rfl, by omega, by omega, HL.out, by simp, b0, Lib.hid rfl, by go_grown⟩
  case round =>
    obtain ⟨k, p, out, rfl, rfl, hk, hp, hli, hol, hb, Hall, B⟩ := hrel
    clear HL
    by_cases hlt : k < L.length
    · obtain ⟨b0, rfl, hb0, h1⟩ := HC.out k hlt
      obtain ⟨bv, hva, hbv, h2⟩ := HVC.out k (by omega)
      have c0 := (B.cell (p := ⟨b0, k * 3, none⟩) hb0).trans (h1 0 (by decide))
      have c1 := (B.cell (p := ⟨b0, k * 3 + 1, none⟩) hb0).trans (h1 1 (by decide))
      have c2 := (B.cell (p := ⟨b0, k * 3 + 2, none⟩) hb0).trans (h1 2 (by decide))
      have d0 := (B.cell (p := ⟨bv, k, none⟩) (Nat.lt_of_lt_of_le hbv b1.size)).trans ((b1.cell (p := ⟨bv, k, none⟩) hbv).trans (by have := h2 0 (by decide); simpa using this))
      have hx1 := HP.out _ (List.getElem_mem hlt)
      have hvl2 := HVB.out _ (List.getElem_mem (show k < vals.length by omega))
      have HD := Lib.hid (replF_at s (L.zip vals) k p (by simp; omega))
      simp only [List.getElem_zip] at HD
      rw [List.drop_eq_getElem_cons hlt] at hli
      clear h1 h2
      subst hva
      generalize L[k] = x at c0 c1 c2 hx1 HD hli
      generalize vals[k] = v at d0 hvl2 HD
      obtain ⟨x1, x2, x3⟩ := x
      obtain ⟨y, rfl⟩ : ∃ y, x1 = y + 1 := ⟨x1 - 1, by simp only at hx1; omega⟩
      obtain ⟨hpy, hli2⟩ := hli
      have hle2 := hli2.le
      simp only at hpy hli2 hle2
      have hys : y < s.length := by omega
      have HBF := Lib.hid (show befB s (y + 1, x2, x3) = s[y] from by unfold befB; rw [List.getD_eq_getElem?_getD]; simp [hys])
      have HD2 := Lib.hid (show (out ++ ((s.drop p).take (y + 1 - p) ++ quoT (s[y]) v)) ++ replF s ((L.zip vals).drop (k + 1)) (y + 1 + x2) = replF s (L.zip vals) 0 from by rw [← Hall.out, HD.out, HBF.out]; simp)
      clear HD Hall HBF
      have kf := Blk.new wr #[.int .i64 ((y : Int) + 1), .int .i64 (x2 : Int), .string ⟨x3.toArray⟩] 96
      have hbl := hb.lt
      have hb := hb.next ((Below.refl wr.heap.size wr).alloc (Nat.le_refl _) (.cells #[.int .i64 ((y : Int) + 1), .int .i64 (x2 : Int), .string ⟨x3.toArray⟩] 96))
      have B2 := B.alloc B.size (.cells #[.int .i64 ((y : Int) + 1), .int .i64 (x2 : Int), .string ⟨x3.toArray⟩] 96)
      have e0 : wr.cell? ⟨b0, k * 3, none⟩ = some (.int .i64 ((y : Int) + 1)) := c0
      have e1 : wr.cell? ⟨b0, k * 3 + 1, none⟩ = some (.int .i64 (x2 : Int)) := c1
      have e2 : wr.cell? ⟨b0, k * 3 + 2, none⟩ = some (.string ⟨x3.toArray⟩) := c2
      clear c0 c1 c2
      have i1 : (p : Int) ≤ (y : Int) + 1 := by omega
      have i2 : (y : Int) + 1 ≤ s.length := by omega
      have i3 : ((y : Int) + 1).toNat = y + 1 := by omega
      have i4 : (0 : Int) ≤ p := by omega
      have kc := kf.cell
      have hw := wrStrK w1.heap.size w1.heap.size out ((s.drop p).take (y + 1 - p)) _ hb (by simp; omega) (by have := B2.size; omega)
      have hne : wr.heap.size ≠ w1.heap.size := by omega
      have DV := Lib.hid (show w1.cell? ⟨bv, k, none⟩ = some (.string ⟨v.toArray⟩) from (B.cell (p := ⟨bv, k, none⟩) (Nat.lt_of_lt_of_le hbv b1.size)).symm.trans d0)
      have hbv1 : bv < w1.heap.size := Nat.lt_of_lt_of_le hbv b1.size
      clear d0
      go_wp2_with fail
      with_reducible refine hw.mono ?_
      rintro e w3 ⟨rfl, hb3, b3, ho3⟩
      have kf3 := kf.oth ho3 hne (by decide)
      have B3 := B2.trans b3
      have d3 := (B3.cell (p := ⟨bv, k, none⟩) hbv1).trans DV.out
      have kc3 := kf3.cell
      clear hw kc hb ho3 b3 kf
      go_wp2_with fail
      refine (escape_any v _ ((hg.next b1).next B3) (by omega)).mono ?_
      rintro e w4 ⟨rfl, b4⟩
      have kf4 := kf3.next b4 kf3.lt
      have hb4 := hb3.next b4
      have B4 := B3.trans (b4.mono B3.size)
      have i5 : (y : Int) < s.length := by omega
      have i6 : (0 : Int) ≤ y := by omega
      have hc256 : (s[y].toNat : Int) < 256 := by have := (s[y]).toNat_lt; omega
      have HQ := Lib.hid (quoB_int s[y])
      have kc4 := kf4.cell
      clear kc3 d3 b4 hb3 kf3
      go_upto_region 12 with fail
      go_cut [12, 43, 49] (fun _ _ t wx => t = .bool (!(quoB s[y])) ∧ wx = w4)
      case first =>
        have hcq : ((s[y].toNat : Int) = 34 ∨ (s[y].toNat : Int) = 39) ∨ ((s[y].toNat : Int) ≠ 34 ∧ (s[y].toNat : Int) ≠ 39) := by omega
        have HQ2 := Lib.hid (fun b1 b2 (h1 : ((s[y].toNat : Int) == 34) = b1) (h2 : ((s[y].toNat : Int) == 39) = b2) => show quoB s[y] = (b1 || b2) from by rw [HQ.out, h1, h2])
        clear HQ
        generalize (s[y].toNat : Int) = cI at HQ2 hcq hc256 ⊢
        rcases hcq with (rfl | rfl) | ⟨h1, h2⟩
        · have HN := Lib.hid (HQ2.out true false rfl rfl)
          clear HQ2
          go_wp2_with fail
          go_meet
          exact ⟨by rw [HN.out]; rfl, rfl⟩
        · have HN := Lib.hid (HQ2.out false true rfl rfl)
          clear HQ2
          go_wp2_with fail
          go_meet
          exact ⟨by rw [HN.out]; rfl, rfl⟩
        · have HN := Lib.hid (HQ2.out false false (by rw [beq_eq_false_iff_ne]; exact h1) (by rw [beq_eq_false_iff_ne]; exact h2))
          have e1 : (cI != 34) = true := by rw [bne_iff_ne]; exact h1
          have e2 : (cI != 39) = true := by rw [bne_iff_ne]; exact h2
          clear HQ2 h1 h2
          go_wp2_with fail
          go_meet
          exact ⟨by rw [HN.out]; rfl, rfl⟩
      case rest =>
      obtain ⟨rfl, hww⟩ := hcut
      obtain rfl := hww.symm
      have hql := escT_len v
      generalize hqb : quoB s[y] = qb
      have hqb := Lib.hid hqb
      clear HQ
      cases qb with
      | false =>
        have HQT := Lib.hid (show quoT (s[y]) v = 34 :: (escT v ++ [34]) from by unfold quoT; rw [hqb.out]; rfl)
        have hw := wrStrK w1.heap.size w1.heap.size (out ++ (s.drop p).take (y + 1 - p)) (34 :: (escT v ++ [34])) w4 hb4 (by simp; omega) (by have := B4.size; omega)
        go_wp2_with fail
        with_reducible refine hw.mono ?_
        rintro e w5 ⟨rfl, hb5, b5, ho5⟩
        have kf5 := kf4.oth ho5 hne (by decide)
        have B5 := B4.trans b5
        have kc5 := kf5.cell
        have HD3 := Lib.hid (show (out ++ (s.drop p).take (y + 1 - p)) ++ (34 :: (escT v ++ [34])) ++ replF s ((L.zip vals).drop (k + 1)) (y + 1 + x2) = replF s (L.zip vals) 0 from by rw [← HD2.out, HQT.out]; simp)
        clear hw hb4 b5 ho5 kc4 kf4 HD2
        go_wp2_with fail
        go_roundw
        case rel => exact ⟨k + 1, y + 1 + x2, _, by go_num, by go_num, by omega, by omega, hli2, by simp; omega, hb5, HD3, B5⟩
        case measure => simp [intOf]; omega
      | true =>
        have HQT := Lib.hid (show quoT (s[y]) v = escT v from by unfold quoT; rw [hqb.out]; rfl)
        have hw := wrStrK w1.heap.size w1.heap.size (out ++ (s.drop p).take (y + 1 - p)) (escT v) w4 hb4 (by simp; omega) (by have := B4.size; omega)
        go_wp2_with fail
        with_reducible refine hw.mono ?_
        rintro e w5 ⟨rfl, hb5, b5, ho5⟩
        have kf5 := kf4.oth ho5 hne (by decide)
        have B5 := B4.trans b5
        have kc5 := kf5.cell
        have HD3 := Lib.hid (show (out ++ (s.drop p).take (y + 1 - p)) ++ (escT v) ++ replF s ((L.zip vals).drop (k + 1)) (y + 1 + x2) = replF s (L.zip vals) 0 from by rw [← HD2.out, HQT.out]; simp)
        clear hw hb4 b5 ho5 kc4 kf4 HD2
        go_wp2_with fail
        go_roundw
        case rel => exact ⟨k + 1, y + 1 + x2, _, by go_num, by go_num, by omega, by omega, hli2, by simp; omega, hb5, HD3, B5⟩
        case measure => simp [intOf]; omega
    · obtain rfl : k = L.length := by omega
      have HT := Lib.hid (show replF s (L.zip vals) 0 = out ++ s.drop p from by rw [← Hall.out, List.drop_of_length_le (by simp; omega)]; rfl)
      have HR := Lib.hid (show replK s vals = some (out ++ s.drop p) from by rw [HN.out, HT.out])
      have hStr := fun W hb hB => bldStrK w1.heap.size w1.heap.size out W hb hB
      have i1 : (p : Int) ≤ s.length := by omega
      have i2 : (0 : Int) ≤ p := by omega
      have i3 : ¬ (9223372036854775807 : Int) < (out.length : Int) + (s.length - p : Nat) := by omega
      have i4 : ¬ 9223372036854775807 < out.length + (s.length - p) := by omega
      have hB := B.size
      clear Hall HT HN
      go_wp2_with fail
      go_region_with ((go_at_call 80; refine (hStr wr.drew hb.drew hB).mono ?_; rintro e w9 ⟨rfl, hb9, b9, ho9⟩))
      all_goals
        go_wp2_with fail
        go_ret2
        exact ⟨Or.inl ⟨_, HR.out, rfl⟩, b1.trans ((B.trans (Below.mono (by first | exact b9 | exact (Below.refl _ _).drew.trans b9) (Nat.le_refl _))).mono b1.size)⟩
theorem flat_set {α : Type} {size : Nat} {cs : α → List Value} (hcs : ∀ x, (cs x).length = size) (j : Nat) (u : Value) (y : α) (hj : j < size) : ∀ (ys : List α) (i : Nat) (hi : i < ys.length), cs y = (cs ys[i]).set j u → (ys.flatMap cs).set (i * size + j) u = (ys.set i y).flatMap cs
  | [], _, hi, _ => by simp at hi
  | x :: ys, 0, _, h => by
    simp only [List.getElem_cons_zero] at h
    rw [List.flatMap_cons, Nat.zero_mul, Nat.zero_add, List.set_cons_zero, List.flatMap_cons, h, List.set_append_left _ _ (by rw [hcs]; exact hj)]
  | x :: ys, i + 1, hi, h => by
    have ih := flat_set hcs j u y hj ys i (by simpa using hi) h
    rw [List.set_cons_succ, List.flatMap_cons, List.flatMap_cons, ← ih, List.set_append_right _ _ (by rw [hcs, Nat.succ_mul]; omega), hcs, show (i + 1) * size + j - size = i * size + j from by rw [Nat.succ_mul]; omega]
theorem OwnG.setG {α : Type} {e size : Nat} {cs : α → List Value} (hcs : ∀ x, (cs x).length = size) {w : World} {B g n cap : Nat} {ys : List α} (h : OwnG e size cs w B (.slice (some ⟨g, 0, none⟩) n cap) ys) (i j : Nat) (hi : i < ys.length) (hj : j < size) (u : Value) (y : α) (hy : cs y = (cs ys[i]).set j u) :
    OwnG e size cs (w.setCell ⟨g, i * size + j, none⟩ u) B (.slice (some ⟨g, 0, none⟩) n cap) (ys.set i y) := by
  obtain ⟨_, _, hn, _⟩ := h.row
  subst hn
  unfold OwnG at h ⊢
  have h1 := (World.ownsRow.stored h (i * size + j) u).1
  rw [flat_set hcs j u y hj ys i hi hy] at h1
  rw [List.length_set]
  exact h1
theorem OwnG.keepB {α : Type} {e size : Nat} {cs : α → List Value} {w w' : World} {B : Nat} {v : Value} {xs : List α} (h : OwnG e size cs w B v xs) (hk : ∀ g, v.ownBlock = some g → w'.heap[g]? = w.heap[g]?) : OwnG e size cs w' B v xs := by
  rcases h with ⟨h3, h4⟩
  refine ⟨h3, ?_⟩
  rcases h4 with h4 | ⟨g, cap, cur, hv, hg, hh, r⟩
  · exact Or.inl h4
  · exact Or.inr ⟨g, cap, cur, hv, hg, (hk g (by rw [hv]; rfl)).trans hh, r⟩
theorem infoTs : (Tryz.prog.info? 9).map (fun i => (i.zero, i.size, i.bytes)) = some (some (.string ByteArray.empty), 1, 16) := by kernel_rfl
theorem strC_one1 (s : Bs) : ∀ u ∈ strC s, u.oneCell' = true := fun u hu => by
  simp [strC] at hu
  subst hu; rfl
theorem cellTx (w : World) (x : Bs) (t : TypeId) : ∀ j u, ([x].flatMap strC)[j]? = some u → (w.alloc (.cells #[.string ⟨x.toArray⟩] t)).cell? ((⟨w.heap.size, 0, none⟩ : Go.Addr).add j) = some u := fun j u hj => by
  rw [addr_add0, (Blk.new w #[.string ⟨x.toArray⟩] t).cell]
  match j, hj with
  | 0, hj => exact hj
  | j + 1, hj => simp [strC] at hj
theorem appTx {Q : Exit → Act → World → Prop} {ops : Array Oper} {rest : List Oper} {o : Oper} {a : Act} {w : World} (hgd : o.guard = none) (s x : Operand)
    (ho : o.op = .call { callee := .builtin .append, args := #[s, x], argTypes := #[55, 55] }) (B : Nat) (v : Value) (xs : List Bs) (y : Bs) (b c : Nat)
    (hs : a.eval s = v) (hown : OwnT w B v xs) (hx : a.eval x = .slice (some ⟨b, 0, none⟩) 1 c) (hc : ∀ j u, ([y].flatMap strC)[j]? = some u → w.cell? ((⟨b, 0, none⟩ : Go.Addr).add j) = some u) (hn : xs.length + 1 ≤ 1000000000001) (hbase : B ≤ w.heap.size)
    (h : ∀ v' w', OwnT w' B v' (xs ++ [y]) → w.grownBy w' v.ownBlock → Below B w w' → (v'.ownBlock = v.ownBlock ∨ v'.ownBlock = some w.heap.size) → wpList Tryz.prog ops Q rest (a.put o.dst v') w') : wpList Tryz.prog ops Q (o :: rest) a w :=
  appG2 (α := Bs) (cs := strC) (size := 1) (z := .string ByteArray.empty) strC_len strC_one1 infoTs rfl (by decide) Tryz.underlying55 hgd s x ho B v xs [y] ⟨b, 0, none⟩ 1 c rfl hs hown hx hc (by simp; omega) (by unfold maxLen; simp; omega) hbase h
def fstC : Code → Code
  | .seq c _ => c
  | c => c
def inC : Code → Code
  | .block _ c => c
  | .loop c => c
  | c => c
end Go.Proofs.YtignjjnflcpiiaaGreatDoor
