/- bundle.Open. Condition: what the variables hold; at most 10^12 bytes. -/
import Derived.Test.YtignjjnflcpiiaaGreatDoorQ29
namespace Go.Proofs.YtignjjnflcpiiaaGreatDoor
open Go Go.RowKit
def OpenOr (B : Nat) (r : Except Int Bnd) (e : Ending) (w' : World) : Prop :=
  (∃ b bp, r = .ok b ∧ e = .returned (.tuple #[.pointer (some ⟨bp, 0, none⟩), .nilIface]) ∧ RdBnd (fun k => B ≤ k) w' bp b) ∨ (∃ c, r = .error c ∧ e = .returned (.tuple #[.pointer none, .iface 30 (.int .i64 c)]))
theorem stepG2 {α : Type} {el size : Nat} {cs : α → List Value} {t bytes : Nat} {z : Value} (hcs : ∀ x, (cs x).length = size) (hone : ∀ x, ∀ u ∈ cs x, u.oneCell' = true)
    (hinfo : (Tryz.prog.info? el).map (fun i => (i.zero, i.size, i.bytes)) = some (some z, size, bytes)) (hzs : z.cells.size = size) (hsz : 0 < size) (ht : Tryz.prog.underlying t = some (.slice el))
    {ops : Array Oper} {o : Oper} {a : Act} {w : World} {K : Act → World → Prop} {Q : Exit → Act → World → Prop} {E : Prop} (hgd : o.guard = none) (s x : Operand)
    (ho : o.op = .call { callee := .builtin .append, args := #[s, x], argTypes := #[t, t] }) (B : Nat) (v : Value) (xs ys : List α) (ad : Go.Addr) (m c : Nat) (hm : m = ys.length) (h0 : 0 < m)
    (hs : a.eval s = v) (hown : OwnG el size cs w B v xs) (hx : a.eval x = .slice (some ad) m c) (hc : ∀ j u, (ys.flatMap cs)[j]? = some u → w.cell? (ad.add j) = some u) (hn : (xs.length + ys.length) * bytes ≤ 140737488355328) (hn2 : xs.length + ys.length ≤ maxLen) (hbase : B ≤ w.heap.size)
    (h : ∀ g cap w', OwnG el size cs w' B (.slice (some ⟨g, 0, none⟩) (xs.length + ys.length) cap) (xs ++ ys) → w.grownBy w' v.ownBlock → Below B w w' → (v.ownBlock = some g ∨ g = w.heap.size) → K (a.put o.dst (.slice (some ⟨g, 0, none⟩) (xs.length + ys.length) cap)) w') : if Region.wanted o (yielded ops a.tmps) = true then Oper.wp Tryz.prog o a w K Q else E := by
  subst hm
  obtain ⟨i0, hi, hz0, hz1, hz2⟩ := info_parts hinfo
  refine step_append_lies (w := w) hgd s x t ho B el i0 z size bytes ht hi hz0 hz1 hz2 hzs hsz v xs.length _ hs hown ad ys.length c (ys.flatMap cs) hx (flat_len hcs ys) hc (fun u hu => ?_) h0 hn2 hn hbase _ rfl ?_
  · obtain ⟨y, _, hy⟩ := List.mem_flatMap.1 hu
    exact hone y u hy
  · intro g cap w' h1 h2 h3 _
    refine h g cap w' ?_ h2 ((Below.refl B w).grown h2 hbase fun k hk => OwnG.own_ge hown k hk) h3
    unfold OwnG
    rw [List.flatMap_append, List.length_append]; exact h1
theorem infoTx : (Tryz.prog.info? 9).map (fun i => (i.zero, i.size, i.bytes)) = some (some (.string ByteArray.empty), 1, 16) := by kernel_rfl
def Rows (S : Nat) (bp : Nat) (raw : PRaw) (root : Nat) (pl : List Addr) (ids : List Bs) (w : World) : Prop :=
  ∃ sa si : Slc, Blk w bp (bndC raw root sa si) 83 ∧ OwnA w S (slv sa) pl ∧ OwnG 9 1 strC w S (slv si) ids ∧ (∀ g, (slv sa).ownBlock = some g → (slv si).ownBlock ≠ some g)
theorem RdPrt.of_head {P : Nat → Prop} {n : Nat} {w : World} {r : PRaw} {p : Prt} (h : RdPrt P (n + 1) w r p) : RdB 2 fldC P w (slv r.1) p.head := by
  obtain ⟨a, b, c, d⟩ := p
  exact h.2.2.1
theorem RdPrt.of_many {P : Nat → Prop} {n : Nat} {w : World} {r : PRaw} {p : Prt} (h : RdPrt P (n + 1) w r p) : r.2.2.1 = p.many := by
  obtain ⟨a, b, c, d⟩ := p
  exact h.2.1
theorem cellA1 (w : World) (x : Addr) (t : TypeId) (b : Nat) (hb : b = w.heap.size) : ∀ j u, ([x].flatMap adrC)[j]? = some u → (w.alloc (.cells x.cells t)).cell? ((⟨b, 0, none⟩ : Go.Addr).add j) = some u := fun j u hj => by
  subst hb
  rw [addr_add0, (Blk.new w x.cells t).cell, ← Array.getElem?_toList]
  simpa [adrC] using hj
theorem cellT1 (w : World) (x : Bs) (t : TypeId) (b : Nat) (hb : b = w.heap.size) : ∀ j u, ([x].flatMap strC)[j]? = some u → (w.alloc (.cells #[.string ⟨x.toArray⟩] t)).cell? ((⟨b, 0, none⟩ : Go.Addr).add j) = some u := fun j u hj => by
  subst hb
  rw [addr_add0, (Blk.new w #[.string ⟨x.toArray⟩] t).cell]
  match j, hj with
  | 0, hj => exact hj
  | j + 1, hj => simp [strC] at hj
structure Mid (S bp b12 b16 : Nat) (cb c12 c16 : Array Value) (wa : World) (va : Value) (pl : List Addr) (vi : Value) (ids : List Bs) (W : World) : Prop where
  K : Below S wa W
  kb : Blk W bp cb 83
  k12 : Blk W b12 c12 36
  k16 : Blk W b16 c16 44
  oa : OwnA W S va pl
  oi : OwnG 9 1 strC W S vi ids
  ne : ∀ g, va.ownBlock = some g → vi.ownBlock ≠ some g
  na : ∀ g, va.ownBlock = some g → g ≠ b16
  ni : ∀ g, vi.ownBlock = some g → g ≠ b16
  hS : S ≤ wa.heap.size
  hb : bp < S
  h12 : b12 < S
theorem Mid.base {S bp b12 b16 : Nat} {cb c12 c16 : Array Value} {wa : World} {va : Value} {pl : List Addr} {vi : Value} {ids : List Bs} {W : World} (h : Mid S bp b12 b16 cb c12 c16 wa va pl vi ids W) : S ≤ W.heap.size := Nat.le_trans h.hS h.K.size
theorem Mid.next {S bp b12 b16 : Nat} {cb c12 c16 : Array Value} {wa : World} {va : Value} {pl : List Addr} {vi : Value} {ids : List Bs} {W W' : World} (h : Mid S bp b12 b16 cb c12 c16 wa va pl vi ids W) (hb : Below W.heap.size W W') : Mid S bp b12 b16 cb c12 c16 wa va pl vi ids W' :=
  ⟨h.K.trans (hb.mono h.base), h.kb.next hb h.kb.lt, h.k12.next hb h.k12.lt, h.k16.next hb h.k16.lt, OwnG.next h.oa hb, OwnG.next h.oi hb, h.ne, h.na, h.ni, h.hS, h.hb, h.h12⟩
theorem Mid.alloc {S bp b12 b16 : Nat} {cb c12 c16 : Array Value} {wa : World} {va : Value} {pl : List Addr} {vi : Value} {ids : List Bs} {W : World} (h : Mid S bp b12 b16 cb c12 c16 wa va pl vi ids W) (o : Obj) : Mid S bp b12 b16 cb c12 c16 wa va pl vi ids (W.alloc o) := h.next ((Below.refl W.heap.size W).alloc (Nat.le_refl _) o)
theorem Mid.drew {S bp b12 b16 : Nat} {cb c12 c16 : Array Value} {wa : World} {va : Value} {pl : List Addr} {vi : Value} {ids : List Bs} {W : World} (h : Mid S bp b12 b16 cb c12 c16 wa va pl vi ids W) : Mid S bp b12 b16 cb c12 c16 wa va pl vi ids W.drew := h.next (Below.refl W.heap.size W).drew
theorem blk_grown {w w' : World} {b : Nat} {c : Array Value} {t : TypeId} {row : Option Nat} (h : Blk w b c t) (hg : w.grownBy w' row) (hn : some b ≠ row) : Blk w' b c t := (hg.block b h.lt hn).trans h
theorem Mid.appA {S bp b12 b16 : Nat} {cb c12 c16 : Array Value} {wa : World} {va : Value} {pl : List Addr} {vi : Value} {ids : List Bs} {W W' : World} (h : Mid S bp b12 b16 cb c12 c16 wa va pl vi ids W) {g n cap : Nat} {pl' : List Addr}
    (ho : OwnA W' S (.slice (some ⟨g, 0, none⟩) n cap) pl') (hg : W.grownBy W' va.ownBlock) (hB : Below S W W') (hl : va.ownBlock = some g ∨ g = W.heap.size) : Mid S bp b12 b16 cb c12 c16 wa (.slice (some ⟨g, 0, none⟩) n cap) pl' vi ids W' := by
  have hge := fun k hk => OwnG.own_ge h.oa k hk
  refine ⟨h.K.trans hB, h.kb.next hB h.hb, h.k12.next hB h.h12, blk_grown h.k16 hg (fun e => (h.na b16 e.symm) rfl), ho, OwnG.grown h.oi hg (fun k hk e => h.ne k e hk), fun k hk e => ?_, fun k hk => ?_, h.ni, h.hS, h.hb, h.h12⟩
  · injection hk with hk
    simp only at hk
    subst hk
    rcases hl with hl | hl
    · exact h.ne _ hl e
    · have := OwnG.own_lt h.oi _ e
      omega
  · injection hk with hk
    simp only at hk
    subst hk
    rcases hl with hl | hl
    · exact h.na _ hl
    · have := h.k16.lt
      omega
theorem Mid.appI {S bp b12 b16 : Nat} {cb c12 c16 : Array Value} {wa : World} {va : Value} {pl : List Addr} {vi : Value} {ids : List Bs} {W W' : World} (h : Mid S bp b12 b16 cb c12 c16 wa va pl vi ids W) {g n cap : Nat} {ids' : List Bs}
    (ho : OwnG 9 1 strC W' S (.slice (some ⟨g, 0, none⟩) n cap) ids') (hg : W.grownBy W' vi.ownBlock) (hB : Below S W W') (hl : vi.ownBlock = some g ∨ g = W.heap.size) : Mid S bp b12 b16 cb c12 c16 wa va pl (.slice (some ⟨g, 0, none⟩) n cap) ids' W' := by
  refine ⟨h.K.trans hB, h.kb.next hB h.hb, h.k12.next hB h.h12, blk_grown h.k16 hg (fun e => (h.ni b16 e.symm) rfl), OwnG.grown h.oa hg (fun k hk e => h.ne k hk e), ho, fun k hk e => ?_, h.na, fun k hk => ?_, h.hS, h.hb, h.h12⟩
  · injection e with e
    simp only at e
    subst e
    rcases hl with hl | hl
    · exact h.ne _ hk hl
    · have := OwnG.own_lt h.oa _ hk
      omega
  · injection hk with hk
    simp only at hk
    subst hk
    rcases hl with hl | hl
    · exact h.ni _ hl
    · have := h.k16.lt
      omega
theorem rows_done {S bp b12 b16 : Nat} {c12 c16 : Array Value} {wa W w8 : World} {ra ra' a a' : Option Go.Addr} {rn rc rn' rc' n c n' c' root : Nat} {rb : Bs} {rm : Bool} {x5 x6 : Value} {pl : List Addr} {ids : List Bs}
    (h : Mid S bp b12 b16 #[.slice ra rn rc, .string ⟨rb.toArray⟩, .bool rm, .slice ra' rn' rc', .int .i64 (root : Int), x5, x6] c12 c16 wa (.slice a n c) pl (.slice a' n' c') ids W) (hB : BelowO bp S w8 wa) :
    Rows S bp ((ra, rn, rc), rb, rm, (ra', rn', rc')) root pl ids ((W.setCell ⟨bp, 5, none⟩ (.slice a n c)).setCell ⟨bp, 6, none⟩ (.slice a' n' c')) ∧ BelowO bp S w8 ((W.setCell ⟨bp, 5, none⟩ (.slice a n c)).setCell ⟨bp, 6, none⟩ (.slice a' n' c')) := by
  refine ⟨⟨(a, n, c), (a', n', c'), ?_, OwnG.setO (OwnG.setO h.oa h.hb _) h.hb _, OwnG.setO (OwnG.setO h.oi h.hb _) h.hb _, h.ne⟩, ((hB.trans (BelowO.of h.K)).set _).set _⟩
  have := (h.kb.set 5 (.slice a n c)).set 6 (.slice a' n' c')
  simpa [bndC, slv] using this
theorem Rows.root {S bp : Nat} {raw : PRaw} {root : Nat} {pl : List Addr} {ids : List Bs} {w : World} (h : Rows S bp raw root pl ids w) (hb : bp < S) (k : Nat) : Rows S bp raw k pl ids (w.setCell ⟨bp, 4, none⟩ (.int .i64 (k : Int))) := by
  obtain ⟨sa, si, h1, h2, h3, h4⟩ := h
  refine ⟨sa, si, ?_, OwnG.setO h2 hb _, OwnG.setO h3 hb _, h4⟩
  have := h1.set 4 (.int .i64 (k : Int))
  simpa [bndC] using this
set_option maxHeartbeats 16000000 in
set_option maxRecDepth 100000 in
theorem open_any (s : Bs) (w : World) (hs : s.length ≤ 1000000000000) (hg : Gr w) :
    Calls Tryz.prog 10 #[.string ⟨s.toArray⟩] w fun e w' => OpenOr w.heap.size (openB s) e w' ∧ Below w.heap.size w w' := by
  have hP := pRead_any s w hs hg
  have HN := Lib.hid (show openB s = match readP s with | .error e => .error e | .ok p => openP p from rfl)
  have hsm := fun p (h : readP s = .ok p) => readP_sm h
  generalize readP s = rp at hP HN hsm
  go_enter Tryz.func10, Tryz.ntmps10
  go_wp2_with fail
  with_reducible refine hP.mono ?_
  rintro e w1 ⟨hh, b1⟩
  have hs1 := b1.size
  rcases hh with ⟨p, raw, rfl, rfl, hrp⟩ | ⟨c, rfl, rfl⟩
  case inr =>
    have HN := Lib.hid (show openB s = .error c from HN.out)
    have B1 := b1.alloc hs1 (.cells zPart 44)
    unfold zPart at B1 ⊢
    clear b1 hP hsm
    go_wp2_with fail
    go_ret2
    exact ⟨Or.inr ⟨c, HN.out, rfl⟩, B1⟩
  have HN := Lib.hid (show openB s = openP p from HN.out)
  have hsm := hsm p rfl
  have hwt := weight_n hsm.head.1
  have hp3 := hsm.head.2.2
  have hrh := hrp.of_head
  obtain ⟨⟨ra, rn, rc⟩, rb, rm, ⟨ra', rn', rc'⟩⟩ := raw
  have hrpl : rn' = p.parts.length := by
    obtain ⟨raws, ⟨a, c, e, _⟩, hl, _⟩ := hrp.parts
    simp only [slv] at e
    injection e with _ e _
    omega
  subst hrpl
  simp only [slv] at hrh
  simp only [prtV, slv]
  have BA := (Below.refl w1.heap.size w1).alloc (Nat.le_refl _) (.cells #[.slice ra rn rc, .string ⟨rb.toArray⟩, .bool rm, .slice ra' p.parts.length rc'] 44)
  have k4 := Blk.new w1 #[.slice ra rn rc, .string ⟨rb.toArray⟩, .bool rm, .slice ra' p.parts.length rc'] 44
  have hg2 := (hg.next b1).next BA
  have hrp := hrp.next BA
  have hrh := hrh.next BA
  have B2 := b1.trans (BA.mono hs1)
  have hs2 : w1.heap.size + 1 ≤ (w1.alloc (.cells #[.slice ra rn rc, .string ⟨rb.toArray⟩, .bool rm, .slice ra' p.parts.length rc'] 44)).heap.size := by simp
  clear BA hP
  go_upto_region 4 with fail
  generalize World.alloc _ _ = w2 at k4 hg2 hrp hrh B2 hs2 ⊢
  have hG := get_field (.slice ra rn rc) p.head ctN w2 hrh.rd (hwt.ok (by decide)) (by decide)
  have HK := Lib.hid (show kindOf p.head = (readK ((getF p.head ctN).getD [])).getD ([], []) from rfl)
  have hkl := getF_getD (s := ctN) hwt
  generalize (getF p.head ctN).getD [] = kv at hG HK hkl
  generalize (getF p.head ctN).isSome = kb at hG
  have kc := k4.cell
  unfold ctN at hG
  go_wp2_with fail
  with_reducible refine hG.mono ?_
  rintro e w3 ⟨rfl, b3⟩
  have B3 := B2.trans (b3.mono (by omega))
  have k4 := k4.next b3 k4.lt
  have hg3 := hg2.next b3
  have hrp := hrp.next b3
  have hs3 := b3.size
  have hKd := readKind_any kv w3 (by omega) hg3.g
  clear hG b3 B2 hg2 kc hrh
  go_wp2_with fail
  with_reducible refine hKd.mono ?_
  rintro e w4 ⟨hh, b4⟩
  obtain ⟨m, ps, v9, err, rfl, hown9, hko, _, hpn, _⟩ := hh.get
  have hko := Lib.hid (HK.out.trans hko)
  have B4 := B3.trans (b4.mono B3.size)
  have k4 := k4.next b4 k4.lt
  have hg4 := hg3.next b4
  have hrp := hrp.next b4
  have hs4 := b4.size
  have kc := k4.cell
  clear hKd b4 B3 hg3 hh HK
  by_cases hm : m = relN
  case neg =>
    have HN := Lib.hid (show openB s = .error 6 from by rw [HN.out]; unfold openP; rw [hko.out, if_pos hm])
    have hmb : (m == [109, 117, 108, 116, 105, 112, 97, 114, 116, 47, 114, 101, 108, 97, 116, 101, 100]) = false := by simpa [relN] using hm
    clear hm
    go_wp2_with fail
    go_ret2
    exact ⟨Or.inr ⟨6, HN.out, rfl⟩, B4⟩
  subst hm
  have hmb : (relN == [109, 117, 108, 116, 105, 112, 97, 114, 116, 47, 114, 101, 108, 97, 116, 101, 100]) = true := rfl
  unfold relN at hmb
  unfold relN
  by_cases hp0 : p.parts.length = 0
  · have HN := Lib.hid (show openB s = .error 8 from by rw [HN.out]; unfold openP; rw [hko.out, if_neg (by simp), if_pos (List.eq_nil_of_length_eq_zero hp0)])
    have h00 : ((p.parts.length : Int) == 0) = true := by rw [hp0]; rfl
    clear hp0
    go_wp2_with fail
    go_ret2
    exact ⟨Or.inr ⟨8, HN.out, rfl⟩, B4⟩
  have h00 : ((p.parts.length : Int) == 0) = false := by rw [beq_eq_false_iff_ne]; omega
  have HN := Lib.hid (show openB s = (openL (placeF Addr.zero p.head) ((getP ps startN).getD []) (getP ps startN).isSome 0 [] [] 0 p.parts).map fun x => ⟨p, x.1, x.2.1, x.2.2⟩ from by
    rw [HN.out, openP_eq p (by rw [hko.out]) (fun h => hp0 (by rw [h]; rfl)), hko.out])
  have hPl0 := fun v W hr hg => place_any Addr.zero v p.head W (by decide) hr (hwt.mono (by decide)) hg
  have hbl := placeF_len (base := Addr.zero) hwt
  have h00z : Addr.zero.len = 0 := rfl
  rw [h00z] at hbl
  clear h00z
  generalize placeF Addr.zero p.head = base at HN hbl hPl0
  have hGP := fun v W hr => getPar_any v ps startN W hr (by have := hpn.1; omega)
  unfold startN at hGP HN
  generalize (getP ps _).getD [] = st at HN hGP
  generalize (getP ps _).isSome = lk at HN hGP
  clear hp0 hko
  go_upto_region 10 with fail
  have hrp := RdPrt.weak (Q := fun b => w.heap.size ≤ b ∧ b < w4.heap.size) (fun b h1 h2 => ⟨h1, h2⟩) hrp
  have kb := Blk.new w4 #[.slice ra rn rc, .string ⟨rb.toArray⟩, .bool rm, .slice ra' p.parts.length rc', .int .i64 0, .slice none 0 0, .slice none 0 0] 83
  have BA := (Below.refl w4.heap.size w4).alloc (Nat.le_refl _) (.cells #[.slice ra rn rc, .string ⟨rb.toArray⟩, .bool rm, .slice ra' p.parts.length rc', .int .i64 0, .slice none 0 0, .slice none 0 0] 83)
  go_upto_region 11 with fail
  have hw5 : w4.heap.size < (w4.alloc (.cells #[.slice ra rn rc, .string ⟨rb.toArray⟩, .bool rm, .slice ra' p.parts.length rc', .int .i64 0, .slice none 0 0, .slice none 0 0] 83)).heap.size := by simp
  generalize World.alloc _ _ = w5 at kb BA hw5 ⊢
  have B5 := B4.trans (BA.mono B4.size)
  have k4 := k4.next BA k4.lt
  have hg5 := hg4.next BA
  have hrp := hrp.next BA
  have hown9 := OwnG.next hown9 BA
  have hs5 := B5.size
  have hPl := hPl0 (.slice ra rn rc) w5 hrp.of_head.rd hg5
  change Calls _ _ #[.agg #[.string ⟨#[]⟩, .bool false, .string ⟨#[]⟩, .string ⟨#[]⟩, .bool false, .string ⟨#[]⟩, .bool false, .string ⟨#[]⟩], .slice ra rn rc] _ _ at hPl
  have kc := k4.cell
  clear BA B4 hg4 hPl0
  go_wp2_with fail
  with_reducible refine hPl.mono ?_
  rintro e w6 ⟨rfl, b6⟩
  have B6 := B5.trans (b6.mono hs5)
  have k4 := k4.next b6 k4.lt
  have kb := kb.next b6 kb.lt
  have hg6 := hg5.next b6
  have hrp := hrp.next b6
  have hown9 := OwnG.next hown9 b6
  have hs6 := b6.size
  clear hPl b6 B5 hg5 kc
  have BA := (Below.refl w6.heap.size w6).alloc (Nat.le_refl _) (.cells base.cells 36)
  have k12 := Blk.new w6 base.cells 36
  go_upto_region 12 with fail
  have hw7 : w6.heap.size < (w6.alloc (.cells base.cells 36)).heap.size := by simp
  generalize World.alloc _ _ = w7 at k12 BA hw7 ⊢
  have B7 := B6.trans (BA.mono B6.size)
  have k4 := k4.next BA k4.lt
  have kb := kb.next BA kb.lt
  have hg7 := hg6.next BA
  have hrp := hrp.next BA
  have hown9 := OwnG.next hown9 BA
  have hG := hGP v9 w7 (OwnG.rd (by decide) fldC_len hown9)
  clear BA B6 hg6 hGP hown9
  go_wp2_with fail
  with_reducible refine hG.mono ?_
  rintro e w8 ⟨rfl, b8⟩
  have B8 := B7.trans (b8.mono B7.size)
  have k4 := k4.next b8 k4.lt
  have kb := kb.next b8 kb.lt
  have k12 := k12.next b8 k12.lt
  have hg8 := hg7.next b8
  have hrp := hrp.next b8
  have hs8 := b8.size
  have kc := k4.cell
  have kbl := kb.lt
  have hne4 : w1.heap.size ≠ w4.heap.size := by have := b1.size; omega
  clear hG b8 B7 hg7
  have HR8 := Lib.hid hrp
  clear hrp
  go_wp2_with fail
  go_loopw [14, 15, 16, 62] (fun lv _ _ iv wr => ∃ (k : Nat) (lk : Bool) (root : Nat) (pl : List Addr) (ids : List Bs), iv = .int .i64 k ∧ lv = .bool lk ∧ k ≤ p.parts.length ∧ pl.length = k ∧ ids.length = k ∧ root ≤ k ∧ Rows w8.heap.size w4.heap.size ((ra, rn, rc), rb, rm, (ra', p.parts.length, rc')) root pl ids wr ∧ Hid (openB s = (openL base st lk root pl ids k (p.parts.drop k)).map fun x => ⟨p, x.1, x.2.1, x.2.2⟩) ∧ BelowO w4.heap.size w8.heap.size w8 wr) (fun _ _ _ iv _ => p.parts.length - (intOf iv).toNat)
  case atStart => exact ⟨0, lk, 0, [], [], rfl, rfl, by omega, rfl, rfl, by omega, ⟨(none, 0, 0), (none, 0, 0), kb, OwnG.nil _ _ _ _ _, OwnG.nil _ _ _ _ _, fun g h => by cases h⟩, HN, BelowO.refl _ _ _⟩
  case round =>
    obtain ⟨k, lk, root, pl, ids, rfl, rfl, hk, hpl, hil, hroot, hRows, Hall, B⟩ := hrel
    have hwr := B.size
    by_cases hlt : k < p.parts.length
    · have hRr := RdPrt.nextO HR8.out B (by omega)
      obtain ⟨raws, hrp2, hrl, hch⟩ := hRr.parts
      simp only [slv] at hrp2
      obtain ⟨pb, rfl, hPb, hpb, hcell⟩ := hrp2.at prtC_len k (by omega)
      have hq := hch k (by omega) hlt
      have hqS := hsm.part (List.getElem_mem hlt)
      have HSe := Lib.hid (show ∀ q, p.parts[k] = q → q.many = true → openB s = .error 13 from fun q hq hm => by
        rw [Hall.out, List.drop_eq_getElem_cons hlt, hq]; unfold openL; rw [if_pos hm]; rfl)
      have HS := Lib.hid (show ∀ q, p.parts[k] = q → q.many = false → openB s = (if lk && (st != [] && st == angled (idF q.head)) then openL base st false k (pl ++ [placeF base q.head]) (ids ++ [idF q.head]) (k + 1) (p.parts.drop (k + 1))
        else openL base st lk root (pl ++ [placeF base q.head]) (ids ++ [idF q.head]) (k + 1) (p.parts.drop (k + 1))).map (fun x => (⟨p, x.1, x.2.1, x.2.2⟩ : Bnd)) from fun q hq hm => by
        rw [Hall.out, List.drop_eq_getElem_cons hlt, hq]; rw [openL.eq_def]; simp only [hm]; rfl)
      have c0 := hcell 0 (by decide)
      have c1 := hcell 1 (by decide)
      have c2 := hcell 2 (by decide)
      have c3 := hcell 3 (by decide)
      have HSe := Lib.hid (HSe.out _ rfl)
      have HS2 := Lib.hid (HS.out _ rfl)
      clear hcell hch Hall HS hrp2
      generalize p.parts[k] = q at hq hqS HSe HS2
      generalize raws[k]'(by omega) = raw at hq c0 c1 c2 c3
      have hqm := hq.of_many
      have hqh := hq.of_head
      obtain ⟨⟨qa, qn, qc⟩, qb, qm, ⟨qa', qn', qc'⟩⟩ := raw
      simp only [prtC, slv, Nat.add_zero, List.getElem?_cons_zero, List.getElem?_cons_succ] at c0 c1 c2 c3 hqm hqh
      subst hqm
      have hqw := weight_n hqS.head.1
      clear hq
      generalize q.many = bm at HSe HS2 c2
      have hw4 : w.heap.size ≤ w4.heap.size := by omega
      have hw8 : w.heap.size ≤ w8.heap.size := by omega
      have B9 := B8.trans ((B.mono hw8).shut hw4)
      have HB9 := Lib.hid B9
      cases bm with
      | true =>
        have HE := Lib.hid (HSe.out rfl)
        clear HSe HS2
        go_wp2_with fail
        go_ret2
        exact ⟨Or.inr ⟨13, HE.out, rfl⟩, HB9.out.alloc (Nat.le_trans hw8 hwr) _⟩
      | false =>
      have HS := Lib.hid (HS2.out rfl)
      clear HSe HS2
      have BA := (Below.refl wr.heap.size wr).alloc (Nat.le_refl _) (.cells #[.slice qa qn qc, .string ⟨qb.toArray⟩, .bool false, .slice qa' qn' qc'] 44)
      have k16 := Blk.new wr #[.slice qa qn qc, .string ⟨qb.toArray⟩, .bool false, .slice qa' qn' qc'] 44
      have hoff : w.heap.size ≤ w8.heap.size := hw8
      obtain ⟨⟨sa0, san, sac⟩, ⟨si0, sin, sic⟩, hkb, hoA, hoI, hne⟩ := hRows
      have hM : Mid w8.heap.size w4.heap.size w6.heap.size wr.heap.size _ base.cells _ _ _ pl _ ids _ :=
        ⟨Below.refl w8.heap.size _, hkb.next BA hkb.lt, (k12.nextO B (by omega)).next BA (k12.nextO B (by omega)).lt, k16, OwnG.next hoA BA, OwnG.next hoI BA, hne, fun g hg => Nat.ne_of_lt (OwnG.own_lt hoA g hg), fun g hg => Nat.ne_of_lt (OwnG.own_lt hoI g hg), Nat.le_trans hwr BA.size, by omega, k12.lt⟩
      unfold bndC at hM
      simp only [slv] at hM
      have hgs := hg.size
      have hgd := ((hg8.nextO B (by omega)).next BA).next ((Below.refl _ _).drew)
      have HQ := Lib.hid (fun W (hW : Below w8.heap.size _ W) => (hqh.keep (w' := W) (Nat.le_trans BA.size hW.size) (fun b hP hlt => (hW.block b (by have := hP.2; omega)).trans (BA.block b hlt))).rd)
      have hPl := fun W hr hg => place_any base (.slice qa qn qc) q.head W (by omega) hr (hqw.mono (by decide)) hg
      have hId := fun W hr => bid_any (.slice qa qn qc) q.head W hr (hqw.mono (by decide))
      have hil2 := idF_len hqw
      generalize placeF base q.head = pv at HS hPl
      generalize idF q.head = iv at HS hId hil2
      have k16c := k16.cell
      clear hkb hoA hoI hne hqh
      go_upto_region 18 with fail
      clear c0 c1 c2 c3 k16 k16c
      generalize World.alloc _ _ = wa at hM hgd HQ BA ⊢
      have HB1 := Lib.hid (B.next BA hwr)
      have Md := hM.drew
      have hPl := hPl _ (HQ.out _ Md.K) hgd
      clear hgd BA
      go_cut [94] (fun _ wx => Rows w8.heap.size w4.heap.size ((ra, rn, rc), rb, rm, (some ⟨pb, 0, none⟩, p.parts.length, rc')) root (pl ++ [pv]) (ids ++ [iv]) wx ∧ BelowO w4.heap.size w8.heap.size w8 wx)
      case first =>
        have kbd := Md.kb.cell
        have k12d := Md.k12.cell
        have k16d := Md.k16.cell
        have q1 := Lib.hid (show (pl.length + [pv].length) * 104 ≤ 140737488355328 from by simp; omega)
        have q2 := Lib.hid (show pl.length + [pv].length ≤ maxLen from by unfold maxLen; simp; omega)
        have q3 := Lib.hid (show (ids.length + [iv].length) * 16 ≤ 140737488355328 from by simp; omega)
        have q4 := Lib.hid (show ids.length + [iv].length ≤ maxLen from by unfold maxLen; simp; omega)
        have hn12 : w6.heap.size ≠ w4.heap.size := by omega
        have hn16 : wr.heap.size ≠ w4.heap.size := by omega
        have hS0 : (fun W => (∀ k, W.cell? ⟨w6.heap.size, k, none⟩ = base.cells[k]?) ∧ (∀ k, W.cell? ⟨wr.heap.size, k, none⟩ = (#[.slice qa qn qc, .string ⟨qb.toArray⟩, .bool false, .slice qa' qn' qc'])[k]?) ∧ W.cell? ⟨w4.heap.size, 5, none⟩ = some (.slice sa0 san sac) ∧ W.cell? ⟨w4.heap.size, 6, none⟩ = some (.slice si0 sin sic)) wa.drew := ⟨k12d, k16d, kbd 5, kbd 6⟩
        refine wp_region_stop 23 (fun W => (∀ k, W.cell? ⟨w6.heap.size, k, none⟩ = base.cells[k]?) ∧ (∀ k, W.cell? ⟨wr.heap.size, k, none⟩ = (#[.slice qa qn qc, .string ⟨qb.toArray⟩, .bool false, .slice qa' qn' qc'])[k]?) ∧ W.cell? ⟨w4.heap.size, 5, none⟩ = some (.slice sa0 san sac) ∧ W.cell? ⟨w4.heap.size, 6, none⟩ = some (.slice si0 sin sic)) (by kernel_rfl) ?_
        refine GoesG.take (i := 0) (v := ?_) rfl (by kernel_rfl) (by kernel_rfl) (by kernel_rfl) (by kernel_rfl) (by decide) (fun _ _ _ h => h) (Or.inl ⟨by rfl, ?_⟩) hS0 ?_
        rotate_left
        · (intro W hSw; (try dsimp only at hSw); obtain ⟨hS1, hS2, hS3, hS4⟩ := hSw; go_simp; try with_reducible rfl)
        simp only [Act.put]
        refine GoesG.takeU (i := 1) (v := ?_) rfl (by kernel_rfl) (by kernel_rfl) (by kernel_rfl) (by decide) (fun _ _ _ h => h) (Or.inl ⟨by rfl, ?_⟩) hS0 ?_
        rotate_left
        · (intro W; go_simp; try with_reducible rfl)
        simp only [Act.put]
        refine GoesG.take (i := 2) (v := ?_) rfl (by kernel_rfl) (by kernel_rfl) (by kernel_rfl) (by kernel_rfl) (by decide) (fun _ _ _ h => h) (Or.inl ⟨by rfl, ?_⟩) hS0 ?_
        rotate_left
        · (intro W hSw; (try dsimp only at hSw); obtain ⟨hS1, hS2, hS3, hS4⟩ := hSw; go_simp; try with_reducible rfl)
        simp only [Act.put]
        refine GoesG.take (i := 3) (v := ?_) rfl (by kernel_rfl) (by kernel_rfl) (by kernel_rfl) (by kernel_rfl) (by decide) (fun _ _ _ h => h) (Or.inl ⟨by rfl, ?_⟩) hS0 ?_
        rotate_left
        · (intro W hSw; (try dsimp only at hSw); obtain ⟨hS1, hS2, hS3, hS4⟩ := hSw; go_simp; try with_reducible rfl)
        simp only [Act.put]
        refine GoesG.take (i := 4) (v := ?_) rfl (by kernel_rfl) (by kernel_rfl) (by kernel_rfl) (by kernel_rfl) (by decide) (fun _ _ _ h => h) (Or.inl ⟨by rfl, ?_⟩) hS0 ?_
        rotate_left
        · (intro W hSw; (try dsimp only at hSw); obtain ⟨hS1, hS2, hS3, hS4⟩ := hSw; go_simp; try with_reducible rfl)
        simp only [Act.put]
        refine GoesG.take (i := 5) (v := ?_) rfl (by kernel_rfl) (by kernel_rfl) (by kernel_rfl) (by kernel_rfl) (by decide) (fun _ _ _ h => h) (Or.inl ⟨by rfl, ?_⟩) hS0 ?_
        rotate_left
        · (intro W hSw; (try dsimp only at hSw); obtain ⟨hS1, hS2, hS3, hS4⟩ := hSw; go_simp; try with_reducible rfl)
        simp only [Act.put]
        refine GoesG.take (i := 6) (v := ?_) rfl (by kernel_rfl) (by kernel_rfl) (by kernel_rfl) (by kernel_rfl) (by decide) (fun _ _ _ h => h) (Or.inl ⟨by rfl, ?_⟩) hS0 ?_
        rotate_left
        · (intro W hSw; (try dsimp only at hSw); obtain ⟨hS1, hS2, hS3, hS4⟩ := hSw; go_simp; try with_reducible rfl)
        simp only [Act.put]
        refine GoesG.take (i := 7) (v := ?_) rfl (by kernel_rfl) (by kernel_rfl) (by kernel_rfl) (by kernel_rfl) (by decide) (fun _ _ _ h => h) (Or.inl ⟨by rfl, ?_⟩) hS0 ?_
        rotate_left
        · (intro W hSw; (try dsimp only at hSw); obtain ⟨hS1, hS2, hS3, hS4⟩ := hSw; go_simp; try with_reducible rfl)
        simp only [Act.put]
        refine GoesG.take (i := 8) (v := ?_) rfl (by kernel_rfl) (by kernel_rfl) (by kernel_rfl) (by kernel_rfl) (by decide) (fun _ _ _ h => h) (Or.inl ⟨by rfl, ?_⟩) hS0 ?_
        rotate_left
        · (intro W hSw; (try dsimp only at hSw); obtain ⟨hS1, hS2, hS3, hS4⟩ := hSw; go_simp; try with_reducible rfl)
        simp only [Act.put]
        refine GoesG.take (i := 12) (v := ?_) rfl (by kernel_rfl) (by kernel_rfl) (by kernel_rfl) (by kernel_rfl) (by decide) (fun _ _ _ h => h) (Or.inl ⟨by rfl, ?_⟩) hS0 ?_
        rotate_left
        · (intro W hSw; (try dsimp only at hSw); obtain ⟨hS1, hS2, hS3, hS4⟩ := hSw; go_simp; try with_reducible rfl)
        simp only [Act.put]
        refine GoesG.take (i := 13) (v := ?_) rfl (by kernel_rfl) (by kernel_rfl) (by kernel_rfl) (by kernel_rfl) (by decide) (fun _ _ _ h => h) (Or.inl ⟨by rfl, ?_⟩) hS0 ?_
        rotate_left
        · (intro W hSw; (try dsimp only at hSw); obtain ⟨hS1, hS2, hS3, hS4⟩ := hSw; go_simp; try with_reducible rfl)
        simp only [Act.put]
        refine GoesG.take (i := 14) (v := ?_) rfl (by kernel_rfl) (by kernel_rfl) (by kernel_rfl) (by kernel_rfl) (by decide) (fun _ _ _ h => h) (Or.inl ⟨by rfl, ?_⟩) hS0 ?_
        rotate_left
        · (intro W hSw; (try dsimp only at hSw); obtain ⟨hS1, hS2, hS3, hS4⟩ := hSw; go_simp; try with_reducible rfl)
        simp only [Act.put]
        refine GoesG.take (i := 15) (v := ?_) rfl (by kernel_rfl) (by kernel_rfl) (by kernel_rfl) (by kernel_rfl) (by decide) (fun _ _ _ h => h) (Or.inl ⟨by rfl, ?_⟩) hS0 ?_
        rotate_left
        · (intro W hSw; (try dsimp only at hSw); obtain ⟨hS1, hS2, hS3, hS4⟩ := hSw; go_simp; try with_reducible rfl)
        simp only [Act.put]
        refine GoesG.take (i := 16) (v := ?_) rfl (by kernel_rfl) (by kernel_rfl) (by kernel_rfl) (by kernel_rfl) (by decide) (fun _ _ _ h => h) (Or.inl ⟨by rfl, ?_⟩) hS0 ?_
        rotate_left
        · (intro W hSw; (try dsimp only at hSw); obtain ⟨hS1, hS2, hS3, hS4⟩ := hSw; go_simp; try with_reducible rfl)
        simp only [Act.put]
        refine GoesG.take (i := 17) (v := ?_) rfl (by kernel_rfl) (by kernel_rfl) (by kernel_rfl) (by kernel_rfl) (by decide) (fun _ _ _ h => h) (Or.inl ⟨by rfl, ?_⟩) hS0 ?_
        rotate_left
        · (intro W hSw; (try dsimp only at hSw); obtain ⟨hS1, hS2, hS3, hS4⟩ := hSw; go_simp; try with_reducible rfl)
        simp only [Act.put]
        refine GoesG.one (j := 9) (by kernel_rfl) rfl (by decide) (fun K hK => ?_)
        go_simp
        with_reducible refine hPl.mono ?_
        rintro e w10 ⟨rfl, hb10⟩
        have M9 := Md.next hb10
        have kb9 := M9.kb.cell
        have hS1 : (fun W => (∀ k, W.cell? ⟨w6.heap.size, k, none⟩ = base.cells[k]?) ∧ (∀ k, W.cell? ⟨wr.heap.size, k, none⟩ = (#[.slice qa qn qc, .string ⟨qb.toArray⟩, .bool false, .slice qa' qn' qc'])[k]?) ∧ W.cell? ⟨w4.heap.size, 5, none⟩ = some (.slice sa0 san sac) ∧ W.cell? ⟨w4.heap.size, 6, none⟩ = some (.slice si0 sin sic)) w10 := ⟨M9.k12.cell, M9.k16.cell, kb9 5, kb9 6⟩
        refine hK.out _ _ hS1 ?_
        clear hK K hS0
        have M10 := Lib.hid (M9.alloc (.cells pv.cells 36))
        have kb10 := M10.out.kb.cell
        have hcA := Lib.hid (cellA1 w10 pv 36 _ rfl)
        refine GoesG.one (j := 10) (by kernel_rfl) rfl (by decide) (fun K hK => ?_)
        go_simp
        have hS2 : (fun W => (∀ k, W.cell? ⟨w6.heap.size, k, none⟩ = base.cells[k]?) ∧ (∀ k, W.cell? ⟨wr.heap.size, k, none⟩ = (#[.slice qa qn qc, .string ⟨qb.toArray⟩, .bool false, .slice qa' qn' qc'])[k]?) ∧ W.cell? ⟨w4.heap.size, 5, none⟩ = some (.slice sa0 san sac) ∧ W.cell? ⟨w4.heap.size, 6, none⟩ = some (.slice si0 sin sic)) (w10.alloc (.cells pv.cells 36)) := ⟨M10.out.k12.cell, M10.out.k16.cell, kb10 5, kb10 6⟩
        refine hK.out _ _ hS2 ?_
        clear hK K hS1
        refine GoesG.one (j := 11) (by kernel_rfl) rfl (by decide) (fun K hK => ?_)
        (refine stepG2 (α := Addr) (cs := adrC) (size := 8) (z := .agg #[.string ByteArray.empty, .bool false, .string ByteArray.empty, .string ByteArray.empty, .bool false, .string ByteArray.empty, .bool false, .string ByteArray.empty]) adrC_len adrC_one infoAdr rfl (by decide) Tryz.underlying54 rfl _ _ rfl w8.heap.size _ pl [pv] ⟨w10.heap.size, 0, none⟩ 1 1 rfl (by decide) rfl M10.out.oa rfl hcA.out q1.out q2.out M10.out.base ?_)
        intro gA capA w11 ho11 hg11 hb11 hl11
        have M11 := M10.out.appA ho11 hg11 hb11 hl11
        have kb11 := M11.kb.cell
        have hS3 : (fun W => (∀ k, W.cell? ⟨w6.heap.size, k, none⟩ = base.cells[k]?) ∧ (∀ k, W.cell? ⟨wr.heap.size, k, none⟩ = (#[.slice qa qn qc, .string ⟨qb.toArray⟩, .bool false, .slice qa' qn' qc'])[k]?) ∧ W.cell? ⟨w4.heap.size, 5, none⟩ = some (.slice sa0 san sac) ∧ W.cell? ⟨w4.heap.size, 6, none⟩ = some (.slice si0 sin sic)) w11 := ⟨M11.k12.cell, M11.k16.cell, kb11 5, kb11 6⟩
        refine hK.out _ _ hS3 ?_
        clear hK K hS2
        simp only [Act.put]
        refine GoesG.one (j := 18) (by kernel_rfl) rfl (by decide) (fun K hK => ?_)
        go_simp
        with_reducible refine (hId _ (HQ.out _ M11.K)).mono ?_
        rintro e w12 ⟨rfl, hb12⟩
        have M11b := M11.next hb12
        have kb12 := M11b.kb.cell
        have hS4 : (fun W => (∀ k, W.cell? ⟨w6.heap.size, k, none⟩ = base.cells[k]?) ∧ (∀ k, W.cell? ⟨wr.heap.size, k, none⟩ = (#[.slice qa qn qc, .string ⟨qb.toArray⟩, .bool false, .slice qa' qn' qc'])[k]?) ∧ W.cell? ⟨w4.heap.size, 5, none⟩ = some (.slice sa0 san sac) ∧ W.cell? ⟨w4.heap.size, 6, none⟩ = some (.slice si0 sin sic)) w12 := ⟨M11b.k12.cell, M11b.k16.cell, kb12 5, kb12 6⟩
        refine hK.out _ _ hS4 ?_
        clear hK K hS3
        have M12 := Lib.hid (M11b.alloc (.cells #[.string ⟨iv.toArray⟩] 9))
        have kb12b := M12.out.kb.cell
        have hcI := Lib.hid (cellT1 w12 iv 9 _ rfl)
        refine GoesG.one (j := 19) (by kernel_rfl) rfl (by decide) (fun K hK => ?_)
        go_simp
        have hS5 : (fun W => (∀ k, W.cell? ⟨w6.heap.size, k, none⟩ = base.cells[k]?) ∧ (∀ k, W.cell? ⟨wr.heap.size, k, none⟩ = (#[.slice qa qn qc, .string ⟨qb.toArray⟩, .bool false, .slice qa' qn' qc'])[k]?) ∧ W.cell? ⟨w4.heap.size, 5, none⟩ = some (.slice sa0 san sac) ∧ W.cell? ⟨w4.heap.size, 6, none⟩ = some (.slice si0 sin sic)) (w12.alloc (.cells #[.string ⟨iv.toArray⟩] 9)) := ⟨M12.out.k12.cell, M12.out.k16.cell, kb12b 5, kb12b 6⟩
        refine hK.out _ _ hS5 ?_
        clear hK K hS4
        refine GoesG.one (j := 20) (by kernel_rfl) rfl (by decide) (fun K hK => ?_)
        (refine stepG2 (α := Bs) (cs := strC) (size := 1) (z := .string ByteArray.empty) strC_len strC_one infoTx rfl (by decide) Tryz.underlying55 rfl _ _ rfl w8.heap.size _ ids [iv] ⟨w12.heap.size, 0, none⟩ 1 1 rfl (by decide) rfl M12.out.oi rfl hcI.out q3.out q4.out M12.out.base ?_)
        intro gI capI w13 ho13 hg13 hb13 hl13
        have M13 := M12.out.appI ho13 hg13 hb13 hl13
        have kb13 := M13.kb.cell
        have kb13f := M13.kb.free
        have hS6 : (fun W => (∀ k, W.cell? ⟨w6.heap.size, k, none⟩ = base.cells[k]?) ∧ (∀ k, W.cell? ⟨wr.heap.size, k, none⟩ = (#[.slice qa qn qc, .string ⟨qb.toArray⟩, .bool false, .slice qa' qn' qc'])[k]?) ∧ W.cell? ⟨w4.heap.size, 5, none⟩ = some (.slice sa0 san sac) ∧ W.cell? ⟨w4.heap.size, 6, none⟩ = some (.slice si0 sin sic)) w13 := ⟨M13.k12.cell, M13.k16.cell, kb13 5, kb13 6⟩
        refine hK.out _ _ hS6 ?_
        clear hK K hS5
        simp only [Act.put]
        refine GoesG.take (i := 21) (v := ?_) rfl (by kernel_rfl) (by kernel_rfl) (by kernel_rfl) (by kernel_rfl) (by decide) (fun _ _ _ h => h) (Or.inl ⟨by rfl, ?_⟩) hS6 ?_
        rotate_left
        · (intro W hSw; (try dsimp only at hSw); obtain ⟨hS1, hS2, hS3, hS4⟩ := hSw; go_simp; try with_reducible rfl)
        simp only [Act.put]
        refine GoesG.take (i := 22) (v := ?_) rfl (by kernel_rfl) (by kernel_rfl) (by kernel_rfl) (by kernel_rfl) (by decide) (fun _ _ _ h => h) (Or.inl ⟨by rfl, ?_⟩) hS6 ?_
        rotate_left
        · (intro W hSw; (try dsimp only at hSw); obtain ⟨hS1, hS2, hS3, hS4⟩ := hSw; go_simp; try with_reducible rfl)
        simp only [Act.put]
        refine GoesG.stop (by kernel_rfl) rfl (fun K hK => ?_)
        go_simp
        refine hK.out _ _ ?_
        clear hK K hS6
        refine wpAny_take (i := 24) (v := ?_) rfl (by kernel_rfl) (by kernel_rfl) (by kernel_rfl) (fun _ _ _ h => h) (Or.inl ⟨by rfl, ?_⟩) ?_
        rotate_left
        · (intro W; go_simp; try with_reducible rfl)
        simp only [Act.put]
        refine wpAny_take (i := 25) (v := ?_) rfl (by kernel_rfl) (by kernel_rfl) (by kernel_rfl) (fun _ _ _ h => h) (Or.inl ⟨by rfl, ?_⟩) ?_
        rotate_left
        · (intro W; go_simp; try with_reducible rfl)
        simp only [Act.put]
        have kb14 := (M13.kb.set 5 (.slice (some ⟨gA, 0, none⟩) (pl.length + [pv].length) capA)).cell
        have kb14f := (M13.kb.set 5 (.slice (some ⟨gA, 0, none⟩) (pl.length + [pv].length) capA)).free
        refine wpAny_alone (j := 26) (by kernel_rfl) rfl (fun K hK => ?_)
        go_simp
        refine hK.out _ _ ?_
        clear hK K
        refine wpAny_done (by kernel_rfl) ?_ _
        go_wp2_with fail
        go_meet
        rw [show pl.length + [pv].length = k + 1 from by simp; omega, show ids.length + [iv].length = k + 1 from by simp; omega] at M13
        exact rows_done M13 HB1.out
      case rest =>
      obtain ⟨hR, KB⟩ := hcut
      obtain ⟨w9, rfl⟩ : ∃ x : World, x = wc := ⟨_, rfl⟩
      have HR := Lib.hid hR
      have HKB := Lib.hid KB
      obtain ⟨⟨sa0', san', sac'⟩, ⟨si0', sin', sic'⟩, hkb, _, hoI, _⟩ := hR
      unfold bndC at hkb
      simp only [slv] at hkb hoI
      have hrd := OwnG.rdB (by decide) strC_len hoI
      have hsin : sin' = k + 1 := by
        obtain ⟨a, c, e, _⟩ := hrd
        injection e with _ e _
        rw [e]; simp; omega
      subst hsin
      obtain ⟨ib, rfl, _, hib, hcell⟩ := hrd.at strC_len k (by simp; omega)
      have hget : (ids ++ [iv])[k]'(by simp; omega) = iv := by subst hil; simp
      have ci := hcell 0 (by decide)
      rw [hget] at ci
      simp only [strC, Nat.mul_one, Nat.add_zero, List.getElem?_cons_zero] at ci
      have kc9 := hkb.cell
      have kf9 := hkb.free
      have hbS : w4.heap.size < w8.heap.size := by omega
      have r1 : (k : Int) < (k : Int) + 1 := by omega
      clear hcell hget hrd hoI hkb hM hPl hId HQ Md HB1
      cases lk with
      | false =>
        have HS3 := Lib.hid (show openB s = (openL base st false root (pl ++ [pv]) (ids ++ [iv]) (k + 1) (p.parts.drop (k + 1))).map (fun x => (⟨p, x.1, x.2.1, x.2.2⟩ : Bnd)) from by rw [HS.out]; rfl)
        clear HS
        go_wp2_with fail
        go_roundw
        case rel => exact ⟨k + 1, false, root, pl ++ [pv], ids ++ [iv], by go_num, rfl, by omega, by simp; omega, by simp; omega, by omega, HR.out, HS3, HKB.out⟩
        case measure => simp [intOf]; omega
      | true =>
      have HS := Lib.hid (show openB s = (if !(st == []) && (st == 60 :: (iv ++ [62])) then openL base st false k (pl ++ [pv]) (ids ++ [iv]) (k + 1) (p.parts.drop (k + 1))
        else openL base st true root (pl ++ [pv]) (ids ++ [iv]) (k + 1) (p.parts.drop (k + 1))).map (fun x => (⟨p, x.1, x.2.1, x.2.2⟩ : Bnd)) from HS.out)
      generalize hbe : (st == []) = be at HS
      generalize hbq : (st == 60 :: (iv ++ [62])) = bq at HS
      cases be with
      | true =>
        have HS3 := Lib.hid (show openB s = (openL base st true root (pl ++ [pv]) (ids ++ [iv]) (k + 1) (p.parts.drop (k + 1))).map (fun x => (⟨p, x.1, x.2.1, x.2.2⟩ : Bnd)) from HS.out)
        clear HS hbq
        go_wp2_with fail
        go_roundw
        case rel => exact ⟨k + 1, true, root, pl ++ [pv], ids ++ [iv], by go_num, rfl, by omega, by simp; omega, by simp; omega, by omega, HR.out, HS3, HKB.out⟩
        case measure => simp [intOf]; omega
      | false =>
      cases bq with
      | false =>
        have HS3 := Lib.hid (show openB s = (openL base st true root (pl ++ [pv]) (ids ++ [iv]) (k + 1) (p.parts.drop (k + 1))).map (fun x => (⟨p, x.1, x.2.1, x.2.2⟩ : Bnd)) from HS.out)
        clear HS
        go_wp2_with fail
        go_roundw
        case rel => exact ⟨k + 1, true, root, pl ++ [pv], ids ++ [iv], by go_num, rfl, by omega, by simp; omega, by simp; omega, by omega, HR.out, HS3, HKB.out⟩
        case measure => simp [intOf]; omega
      | true =>
        have HS3 := Lib.hid (show openB s = (openL base st false k (pl ++ [pv]) (ids ++ [iv]) (k + 1) (p.parts.drop (k + 1))).map (fun x => (⟨p, x.1, x.2.1, x.2.2⟩ : Bnd)) from HS.out)
        clear HS
        go_wp2_with fail
        go_roundw
        case rel => exact ⟨k + 1, false, k, pl ++ [pv], ids ++ [iv], by go_num, rfl, by omega, by simp; omega, by simp; omega, by omega, HR.out.root hbS k, HS3, HKB.out.set _⟩
        case measure => simp [intOf]; omega
    · obtain rfl : k = p.parts.length := by omega
      have HD := Lib.hid (show openB s = .ok ⟨p, root, pl, ids⟩ from by rw [Hall.out, List.drop_length]; rfl)
      have hRr := RdPrt.nextO HR8.out B (by omega)
      obtain ⟨sa, si, h1, h2, h3, _⟩ := hRows
      have hw4 : w.heap.size ≤ w4.heap.size := by omega
      have hw8 : w.heap.size ≤ w8.heap.size := by omega
      have HB9 := Lib.hid (B8.trans ((B.mono hw8).shut hw4))
      have HRB := Lib.hid (show RdBnd (fun k => w.heap.size ≤ k) wr w4.heap.size ⟨p, root, pl, ids⟩ from
        ⟨((ra, rn, rc), rb, rm, (ra', p.parts.length, rc')), sa, si, hw4, h1, RdPrt.weak (fun b hb _ => hb.1) hRr, RdB.weak (OwnG.rdB (by decide) adrC_len h2) (fun b hb _ => Nat.le_trans hw8 hb.1), RdB.weak (OwnG.rdB (by decide) strC_len h3) (fun b hb _ => Nat.le_trans hw8 hb.1)⟩)
      clear Hall hRr h1 h2 h3 B
      go_wp2_with fail
      go_ret2
      exact ⟨Or.inl ⟨_, _, HD.out, rfl, HRB.out⟩, HB9.out⟩
end Go.Proofs.YtignjjnflcpiiaaGreatDoor
