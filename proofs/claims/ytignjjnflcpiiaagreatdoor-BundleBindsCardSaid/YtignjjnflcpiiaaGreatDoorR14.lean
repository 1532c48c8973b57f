/- page's value: behind a value of an attribute. Condition: the page takes at most 10^9 bytes; page's attribute: behind an attribute of a tag. Condition: the page takes at most 10^9 bytes. -/
import Derived.Test.YtignjjnflcpiiaaGreatDoorR13
namespace Go.Proofs.YtignjjnflcpiiaaGreatDoor
open Go Go.RowKit
theorem stepG {α : Type} {el size : Nat} {cs : α → List Value} {t bytes : Nat} {z : Value} (hcs : ∀ x, (cs x).length = size) (hone : ∀ x, ∀ u ∈ cs x, u.oneCell' = true)
    (hinfo : (Tryz.prog.info? el).map (fun i => (i.zero, i.size, i.bytes)) = some (some z, size, bytes)) (hzs : z.cells.size = size) (hsz : 0 < size) (ht : Tryz.prog.underlying t = some (.slice el))
    {ops : Array Oper} {o : Oper} {a : Act} {w : World} {K : Act → World → Prop} {Q : Exit → Act → World → Prop} {E : Prop} (hgd : o.guard = none) (s x : Operand)
    (ho : o.op = .call { callee := .builtin .append, args := #[s, x], argTypes := #[t, t] }) (B : Nat) (v : Value) (xs ys : List α) (ad : Go.Addr) (m c : Nat) (hm : m = ys.length) (h0 : 0 < m)
    (hs : a.eval s = v) (hown : OwnG el size cs w B v xs) (hx : a.eval x = .slice (some ad) m c) (hc : ∀ j u, (ys.flatMap cs)[j]? = some u → w.cell? (ad.add j) = some u) (hn : (xs.length + ys.length) * bytes ≤ 140737488355328) (hn2 : xs.length + ys.length ≤ maxLen) (hbase : B ≤ w.heap.size)
    (h : ∀ v' w', OwnG el size cs w' B v' (xs ++ ys) → w.grownBy w' v.ownBlock → Below B w w' → K (a.put o.dst v') w') : if Region.wanted o (yielded ops a.tmps) = true then Oper.wp Tryz.prog o a w K Q else E := by
  subst hm
  obtain ⟨i0, hi, hz0, hz1, hz2⟩ := info_parts hinfo
  refine step_append_lies (w := w) hgd s x t ho B el i0 z size bytes ht hi hz0 hz1 hz2 hzs hsz v xs.length _ hs hown ad ys.length c (ys.flatMap cs) hx (flat_len hcs ys) hc (fun u hu => ?_) h0 hn2 hn hbase _ rfl ?_
  · obtain ⟨y, _, hy⟩ := List.mem_flatMap.1 hu
    exact hone y u hy
  · intro g cap w' h1 h2 _ _
    refine h _ w' ?_ h2 ((Below.refl B w).grown h2 hbase fun k hk => ?_)
    · unfold OwnG
      rw [List.flatMap_append, List.length_append]; exact h1
    · rcases hown.2 with ⟨hv, _⟩ | ⟨g, cap, cur, hv, hg, _⟩
      · rw [hv] at hk; cases hk
      · rw [hv] at hk; injection hk with hk; rw [← hk]; exact hg
theorem containsL (bk c n : Nat) (xs : List Bs) (x : Bs) (w : World) (hn : n = xs.length) (hc : ∀ j (h : j < xs.length), w.cell? ⟨bk, j, none⟩ = some (.string ⟨(xs[j]).toArray⟩)) (hbig : n ≤ 1000000000000) :
    Calls Tryz.prog 187 #[.slice (some ⟨bk, 0, none⟩) n c, .string ⟨x.toArray⟩] w fun e w' => e = .returned (.bool (xs.contains x)) ∧ w = w' := by
  subst hn
  refine (Tryz.slices_Contains_string bk 0 xs.length c (xs.map fun y => (⟨y.toArray⟩ : ByteArray)) ⟨x.toArray⟩ w (by simp) (by omega) (fun j hj => ?_)).mono ?_
  · rw [List.length_map] at hj
    rw [Nat.zero_add, hc j hj]
    simp [List.getD_eq_getElem?_getD, hj]
  · rintro e w' ⟨rfl, rfl⟩
    refine ⟨ret_bool ?_, rfl⟩
    rw [List.take_of_length_le (by simp), Bool.eq_iff_iff, Lib.containsS_iff, List.contains_iff_mem, List.mem_map]
    constructor
    · rintro ⟨y, hy, h⟩
      have h2 : y.toArray = x.toArray := congrArg ByteArray.data h
      have : y = x := by simpa using h2
      rw [← this]; exact hy
    · exact fun h => ⟨x, h, rfl⟩
theorem cellL1 (w : World) (x : Lnk) (t : TypeId) : ∀ j u, ([x].flatMap lnkC)[j]? = some u → (w.alloc (.cells #[.int .i64 (x.1 : Int), .int .i64 (x.2.1 : Int), .string ⟨x.2.2.toArray⟩] t)).cell? ((⟨w.heap.size, 0, none⟩ : Go.Addr).add j) = some u := fun j u hj => by
  rw [addr_add0, (Blk.new w _ t).cell]
  match j, hj with
  | 0, hj => exact hj
  | 1, hj => exact hj
  | 2, hj => exact hj
  | j + 3, hj => simp [lnkC] at hj
def quoB (c : UInt8) : Bool := c == 34 || c == 39
def valK (c : UInt8) (l : Bs) : Int := if quoB c then Lib.indexByte l c else Lib.indexAny (c :: l) [32, 9, 13, 10, 62]
def valO (c : UInt8) : Nat := if quoB c then 1 else 0
theorem valueN_nil {s name : Bs} {i : Nat} (h : s.drop i = []) : valueN s name i = (false, i, []) := by unfold valueN; rw [h]
theorem valueN_cons {s name : Bs} {i : Nat} {c : UInt8} {l : Bs} (h : s.drop i = c :: l) : valueN s name i = if valK c l < 0 then (false, s.length, []) else (true, i + (valK c l).toNat + 2 * valO c, if leadsT.contains name then [(i + valO c, (valK c l).toNat, unescT (((c :: l).drop (valO c)).take (valK c l).toNat))] else []) := by
  unfold valueN; rw [h]; rfl
theorem valK_le (c : UInt8) (l : Bs) : valK c l < 0 ∨ (0 ≤ valK c l ∧ (valK c l).toNat + 2 * valO c ≤ l.length + 1) := by
  unfold valK valO
  split
  · rcases indexByte_le l c with h | h
    · exact Or.inl h
    · right; omega
  · rcases indexAny_le (c :: l) [32, 9, 13, 10, 62] with h | h
    · exact Or.inl h
    · right; simp at h; omega
theorem quoB_int (c : UInt8) : quoB c = (((c.toNat : Int) == 34) || ((c.toNat : Int) == 39)) := by
  have h : ∀ d : UInt8, (c == d) = ((c.toNat : Int) == (d.toNat : Int)) := fun d => by
    by_cases e : c = d
    · subst e; simp
    · rw [beq_eq_false_iff_ne.2 e, u8_ne e]
  unfold quoB
  rw [h 34, h 39]; rfl
set_option maxHeartbeats 8000000 in
set_option maxRecDepth 100000 in
theorem pvalue_any (B b : Nat) (s name : Bs) (i : Nat) (out : List Lnk) (w : World) (hg : Gr w) (h : Sc B b s i out w) (hi : i ≤ s.length) (hs : s.length ≤ 1000000000) (hol : out.length ≤ 1000000000) :
    Calls Tryz.prog 264 #[.pointer (some ⟨b, 0, none⟩), .string ⟨name.toArray⟩] w fun e w' => e = .returned (.bool (valueN s name i).1) ∧ Sc B b s (valueN s name i).2.1 (out ++ (valueN s name i).2.2) w' ∧ Below B w w' := by
  have hbase := h.base
  have H := Lib.hid h
  obtain ⟨v, hk, _, hBb⟩ := h
  have kc := hk.cell
  have hil : (i : Int) ≤ s.length := by omega
  have hi0 : (0 : Int) ≤ i := by omega
  go_enter Tryz.func264, Tryz.ntmps264
  go_wp2_with fail
  go_quiet (fail)
  have hB := Go.below_drewN (Below.refl B w) nq
  have H2 := Lib.hid (H.out.next (Go.below_drewN (Below.refl w.heap.size w) nq))
  have hg2 := hg.next (Go.below_drewN (Below.refl w.heap.size w) nq)
  clear kc hk
  generalize w.drewN nq = w2 at hB H2 hg2 ⊢
  cases hd : s.drop i with
  | nil =>
    have HV := Lib.hid (valueN_nil (name := name) hd)
    clear hd
    go_wp2_with fail
    go_ret
    exact ⟨by rw [HV.out]; rfl, by rw [HV.out, List.append_nil]; exact H2.out, hB⟩
  | cons c l =>
    have HV := Lib.hid (valueN_cons (name := name) hd)
    have hlen : i + (l.length + 1) = s.length := by
      have := congrArg List.length hd
      rw [List.length_drop, List.length_cons] at this; omega
    have Hlen := Lib.hid hlen
    have hK := valK_le c l
    have hll : l.length + 1 ≤ 1000000000 := by omega
    have HKd := Lib.hid (show valK c l = if quoB c then Lib.indexByte l c else Lib.indexAny (c :: l) [32, 9, 13, 10, 62] from rfl)
    have HOd := Lib.hid (show valO c = if quoB c then 1 else 0 from rfl)
    have HQ := Lib.hid (quoB_int c)
    have hc256 : (c.toNat : Int) < 256 := by have := c.toNat_lt; omega
    clear hd hlen
    generalize valK c l = kz at HV hK HKd
    generalize valO c = o at HV hK HOd
    go_upto_region 5 with fail
    go_cut [27] (fun t wx => t = .bool (quoB c) ∧ wx = w2)
    case first =>
      by_cases h34 : ((c.toNat : Int) == 34) = true
      · go_wp2_with fail
        go_meet
        exact ⟨by rw [HQ.out, h34]; rfl, rfl⟩
      · have h34 := Bool.eq_false_iff.2 h34
        by_cases h39 : ((c.toNat : Int) == 39) = true
        · go_wp2_with fail
          go_meet
          exact ⟨by rw [HQ.out, h34, h39]; rfl, rfl⟩
        · have h39 := Bool.eq_false_iff.2 h39
          go_wp2_with fail
          go_meet
          exact ⟨by rw [HQ.out, h34, h39]; rfl, rfl⟩
    case rest =>
    obtain ⟨rfl, rfl⟩ := hcut
    obtain ⟨w2, rfl⟩ : ∃ x : World, x = wc := ⟨_, rfl⟩
    clear HQ
    go_upto_if 27 with fail
    go_cut [6, 7] (fun t u wx => t = .int .i64 (o : Int) ∧ u = .int .i64 kz ∧ Below w2.heap.size w2 wx)
    case first =>
      generalize quoB c = q at HKd HOd ⊢
      cases q with
      | true =>
        have HK1 := Lib.hid (show kz = Lib.indexByte l c from by rw [HKd.out]; rfl)
        have HO1 := Lib.hid (show o = 1 from by rw [HOd.out]; rfl)
        go_wp2_with fail
        go_quiet ((go_at_call 100; exact Calls.quiet_of_same (idxByte0 l (c.toNat : Int) c (u8_nat c) _)))
        go_wp2_with fail
        go_meet
        exact ⟨by rw [HO1.out]; rfl, by rw [HK1.out], Go.below_drewN (Below.refl _ _) _⟩
      | false =>
        have HK1 := Lib.hid (show kz = Lib.indexAny (c :: l) [32, 9, 13, 10, 62] from by rw [HKd.out]; rfl)
        have HO1 := Lib.hid (show o = 0 from by rw [HOd.out]; rfl)
        go_wp2_with fail
        refine (idxAny (c :: l) [32, 9, 13, 10, 62] (by decide) (by decide) (by decide) (by simp; omega) _).mono ?_
        rintro e w3 ⟨rfl, hb⟩
        go_wp2_with fail
        go_meet
        exact ⟨by rw [HO1.out]; rfl, by rw [HK1.out], hb⟩
    case rest =>
    obtain ⟨rfl, rfl, hb3⟩ := hcut
    obtain ⟨w3, rfl⟩ : ∃ x : World, x = wc := ⟨_, rfl⟩
    have H3 := H2.out.next hb3
    have hg3 := hg2.next hb3
    have hB3 := hB.trans (hb3.mono (Nat.le_trans hbase hB.size))
    have H3' := Lib.hid H3
    obtain ⟨v3, hk3, hown3, _⟩ := H3
    have ho1 : o ≤ 1 := by have := HOd.out; split at this <;> omega
    clear hb3 hg2 H2 HKd HOd hB
    by_cases hz : kz < 0
    · have HE := Lib.hid (show valueN s name i = (false, s.length, []) from by rw [HV.out, if_pos hz])
      have kc3 := hk3.cell
      have kf3 := hk3.free
      go_wp2_with fail
      go_ret
      exact ⟨by rw [HE.out]; rfl, by rw [HE.out, List.append_nil]; exact H3'.out.at s.length, hB3.setCell hBb _⟩
    · have hz0 : 0 ≤ kz := by omega
      obtain ⟨n, rfl⟩ : ∃ n : Nat, kz = (n : Int) := ⟨kz.toNat, by omega⟩
      have HE := Lib.hid (show valueN s name i = (true, i + n + 2 * o, if leadsT.contains name then [(i + o, n, unescT (((c :: l).drop o).take n))] else []) from by rw [HV.out, if_neg hz]; rfl)
      have hno : n + 2 * o ≤ l.length + 1 := by omega
      clear HV hK hz
      go_wp2_with fail
      refine (leads_any _).mono ?_
      rintro e w4 ⟨rfl, hb4⟩
      have H5 := (H3'.out.next hb4).next ((Below.refl w4.heap.size w4).alloc (Nat.le_refl _) (.cells #[.string ⟨#[98, 97, 99, 107, 103, 114, 111, 117, 110, 100]⟩, .string ⟨#[104, 114, 101, 102]⟩, .string ⟨#[115, 114, 99]⟩] 343))
      have hg5 := (hg3.next hb4).next ((Below.refl w4.heap.size w4).alloc (Nat.le_refl _) (.cells #[.string ⟨#[98, 97, 99, 107, 103, 114, 111, 117, 110, 100]⟩, .string ⟨#[104, 114, 101, 102]⟩, .string ⟨#[115, 114, 99]⟩] 343))
      have hbs := H3'.out.base
      have hB5 := (hB3.trans (hb4.mono hbs)).alloc (Nat.le_trans hbs hb4.size) (.cells #[.string ⟨#[98, 97, 99, 107, 103, 114, 111, 117, 110, 100]⟩, .string ⟨#[104, 114, 101, 102]⟩, .string ⟨#[115, 114, 99]⟩] 343)
      have hCL := containsL w4.heap.size 3 3 leadsT name (w4.alloc (.cells #[.string ⟨#[98, 97, 99, 107, 103, 114, 111, 117, 110, 100]⟩, .string ⟨#[104, 114, 101, 102]⟩, .string ⟨#[115, 114, 99]⟩] 343)) rfl (fun j hj => by
        rw [(Blk.new w4 _ _).cell]
        match j, hj with
        | 0, _ => rfl
        | 1, _ => rfl
        | 2, _ => rfl) (by decide)
      clear hb4 hg3 hB3 hk3 hown3 H3' hbs
      go_wp2_with fail
      refine hCL.mono ?_
      rintro e w' ⟨rfl, rfl⟩
      clear hCL
      generalize (w4.alloc (.cells #[.string ⟨#[98, 97, 99, 107, 103, 114, 111, 117, 110, 100]⟩, .string ⟨#[104, 114, 101, 102]⟩, .string ⟨#[115, 114, 99]⟩] 343)) = w5 at H5 hg5 hB5 ⊢
      have HV2 := Lib.hid (show (i : Int) + ((n : Int) + 2 * (o : Int)) = ((i + n + 2 * o : Nat) : Int) from by omega)
      have hb0 : i + n + 2 * o ≤ s.length := by have := Hlen.out; omega
      have hbase5 := H5.base
      generalize leadsT.contains name = isL at HE ⊢
      cases isL with
      | false =>
        have HE2 := Lib.hid (show valueN s name i = (true, i + n + 2 * o, []) from by rw [HE.out]; rfl)
        have H5' := Lib.hid H5
        obtain ⟨v5, hk5, _, _⟩ := H5
        have kc5 := hk5.cell
        have kf5 := hk5.free
        clear HE
        go_wp2_with fail
        rw [HV2.out]
        go_ret
        exact ⟨by rw [HE2.out]; rfl, by rw [HE2.out, List.append_nil]; exact H5'.out.at (i + n + 2 * o), hB5.setCell hBb _⟩
      | true =>
        have HE2 := Lib.hid (show valueN s name i = (true, i + n + 2 * o, [(i + o, n, unescT (((c :: l).drop o).take n))]) from by rw [HE.out]; rfl)
        obtain ⟨v5, hk5, hown5, _⟩ := H5
        have kcd := (Blk.drew hk5).cell
        have hgd : Gr w5.drew := hg5.next ((Below.refl _ _).drew)
        have hUn := unescape_any (((c :: l).drop o).take n) w5.drew hgd (by simp; omega)
        have hlen2 : (((c :: l).drop o).take n).length ≤ 1000000000 := by simp; omega
        generalize hun : unescT (((c :: l).drop o).take n) = un at hUn HE2
        clear hun HE
        have HV3 := Lib.hid (show (i : Int) + (o : Int) = ((i + o : Nat) : Int) from by omega)
        have HB5 := Lib.hid hB5
        have hne5 := Lib.hid (rowNe hown5 hk5 (by decide))
        go_wp2_with fail
        have z1 : IntKind.i64.wrap ((i : Int) + (o : Int)) = (i : Int) + (o : Int) := IntWalk.i64_in _ (by omega)
        have z2 : IntKind.i64.wrap ((o : Int) + (n : Int)) = (o : Int) + (n : Int) := IntWalk.i64_in _ (by omega)
        have z3 : ((o : Int) + (n : Int)).toNat = o + n := by omega
        have z4 : (0 : Int) ≤ o := by omega
        have z5 : (o : Int) ≤ (o : Int) + (n : Int) := by omega
        have z6 : (o : Int) + (n : Int) ≤ (l.length : Int) + 1 := by omega
        have z7 : o + n - o = n := by omega
        have q1 := Lib.hid (show (out.length + [(i + o, n, un)].length) * 32 ≤ 140737488355328 from by simp; omega)
        have q2 := Lib.hid (show out.length + [(i + o, n, un)].length ≤ maxLen from by unfold maxLen; simp; omega)
        go_region_law ((first
          | (refine stepG (α := Lnk) (cs := lnkC) (size := 3) (z := .agg #[.int .i64 0, .int .i64 0, .string ByteArray.empty]) lnkC_len lnkC_one infoLnk rfl (by decide) Tryz.underlying93 rfl _ _ rfl B _ out [(i + o, n, un)] ⟨w10.heap.size, 0, none⟩ 1 1 rfl (by decide) rfl hown10 rfl hcell10 q1.out q2.out hbase10.out ?_; intro v' w11 hown11 hg11 hb11; have hk11 := hk10.out.grown hg11 hne5.out; have kc11 := hk11.cell 2; have kf11 := hk11.free 2; obtain ⟨a11, cap11, hv11, _⟩ := OwnG.rd (by decide) lnkC_len hown11; subst hv11)
          | (go_simp; with_reducible refine hUn.mono ?_; rintro e w10 ⟨rfl, hb10⟩; have kc10 := ((Blk.drew hk5).next hb10 (Blk.drew hk5).lt).cell; have hk10 := Lib.hid (((Blk.drew hk5).next hb10 (Blk.drew hk5).lt).alloc (.cells #[.int .i64 ((i : Int) + (o : Int)), .int .i64 (n : Int), .string ⟨un.toArray⟩] 96)); have kc10b := hk10.out.cell; have hown10 := OwnG.alloc (OwnG.next (w := w5.drew) hown5 hb10) (.cells #[.int .i64 ((i : Int) + (o : Int)), .int .i64 (n : Int), .string ⟨un.toArray⟩] 96); have hcell10 := (by rw [HV3.out]; exact cellL1 w10 (i + o, n, un) 96 : ∀ j u, ([(i + o, n, un)].flatMap lnkC)[j]? = some u → (w10.alloc (.cells #[.int .i64 ((i : Int) + (o : Int)), .int .i64 (n : Int), .string ⟨un.toArray⟩] 96)).cell? ((⟨w10.heap.size, 0, none⟩ : Go.Addr).add j) = some u); have hbase10 := Lib.hid (show B ≤ (w10.alloc (.cells #[.int .i64 ((i : Int) + (o : Int)), .int .i64 (n : Int), .string ⟨un.toArray⟩] 96)).heap.size from by have := hb10.size; simp at this ⊢; omega))))
        all_goals
          have hk12 := hk11.set 2 (.slice a11 (out.length + 1) cap11)
          have hne11 := rowNe hown11 hk11 (by decide)
          have hsc : Sc B b s i (out ++ [(i + o, n, un)]) (w11.setCell ⟨b, 2, none⟩ (.slice a11 (out.length + 1) cap11)) := by
            refine ⟨.slice a11 (out.length + 1) cap11, hk12, ?_, hBb⟩
            have h := rowKeep (w' := w11.setCell ⟨b, 2, none⟩ (.slice a11 (out.length + 1) cap11)) hown11 (fun g hg => Below.heap_setCell w11 ⟨b, 2, none⟩ _ g (hne11 g hg))
            rw [show Value.slice a11 (out ++ [(i + o, n, un)]).length cap11 = .slice a11 (out.length + 1) cap11 from by simp] at h
            exact h
          have HSc := Lib.hid hsc
          have hB10 : Below B w w10 := HB5.out.drew.trans (hb10.mono hbase5)
          have hB12 : Below B w (w11.setCell ⟨b, 2, none⟩ (.slice a11 (out.length + 1) cap11)) := ((hB10.alloc (Nat.le_trans hbase5 hb10.size) (.cells #[.int .i64 ((i : Int) + (o : Int)), .int .i64 (n : Int), .string ⟨un.toArray⟩] 96)).trans hb11).setCell hBb _
          have kc12 := hk12.cell
          have kf12 := hk12.free
          clear z1 z2 z3 z5 z7 kc11 kf11 kc10 kc10b hcell10 hsc hne11
          generalize w11.setCell ⟨b, 2, none⟩ (.slice a11 (out.length + 1) cap11) = w12 at HSc hB12 kc12 kf12 ⊢
          go_wp2_with fail
          rw [HV2.out]
          go_ret
          exact ⟨by rw [HE2.out]; rfl, by rw [HE2.out]; exact HSc.out.at (i + n + 2 * o), hB12.setCell hBb _⟩
def attrA (s : Bs) (a : Nat) : Bool × Nat × List Lnk :=
  let kz := Lib.indexAny (s.drop (a + 1)) [32, 9, 13, 10, 47, 61, 62]
  if kz < 0 then (false, s.length, [])
  else
    let d := a + (1 + kz.toNat) + runN (s.drop (a + (1 + kz.toNat))) wsA
    if (s.drop d).head? = some 61 then valueN s (lowS ((s.drop a).take (1 + kz.toNat))) (d + 1 + runN (s.drop (d + 1)) wsA)
    else (decide (d < s.length), d, [])
theorem attrN_end {s : Bs} {i a : Nat} (ha : a = i + runN (s.drop i) [32, 9, 13, 10, 47]) (h : s.length ≤ a) : attrN s i = (false, a, []) := by
  unfold attrN
  simp only [← ha]
  rw [List.drop_of_length_le h]
theorem attrN_gt {s : Bs} {i a : Nat} (ha : a = i + runN (s.drop i) [32, 9, 13, 10, 47]) (h : a < s.length) (h62 : s[a] = 62) : attrN s i = (false, a + 1, []) := by
  unfold attrN
  simp only [← ha]
  rw [List.drop_eq_getElem_cons h]
  simp only
  rw [if_pos h62]
theorem attrN_else {s : Bs} {i a : Nat} (ha : a = i + runN (s.drop i) [32, 9, 13, 10, 47]) (h : a < s.length) (h62 : s[a] ≠ 62) : attrN s i = attrA s a := by
  unfold attrN attrA
  simp only [← ha]
  rw [List.drop_eq_getElem_cons h]
  simp only
  rw [if_neg h62]
theorem attrA_end {s : Bs} {a : Nat} {kz : Int} (hk : kz = Lib.indexAny (s.drop (a + 1)) [32, 9, 13, 10, 47, 61, 62]) (h : kz < 0) : attrA s a = (false, s.length, []) := by
  unfold attrA
  simp only [← hk]
  rw [if_pos h]
theorem attrA_no {s : Bs} {a n b d : Nat} (hk : (n : Int) = Lib.indexAny (s.drop (a + 1)) [32, 9, 13, 10, 47, 61, 62]) (hb : b = a + (1 + n)) (hd : d = b + runN (s.drop b) wsA) (h : (s.drop d).head? ≠ some 61) : attrA s a = (decide (d < s.length), d, []) := by
  unfold attrA
  simp only [← hk]
  rw [if_neg (by omega)]
  simp only [Int.toNat_natCast, ← hb, ← hd]
  rw [if_neg h]
theorem attrA_yes {s : Bs} {a n b d j : Nat} (hk : (n : Int) = Lib.indexAny (s.drop (a + 1)) [32, 9, 13, 10, 47, 61, 62]) (hb : b = a + (1 + n)) (hd : d = b + runN (s.drop b) wsA) (h : (s.drop d).head? = some 61) (hj : j = d + 1 + runN (s.drop (d + 1)) wsA) : attrA s a = valueN s (lowS ((s.drop a).take (1 + n))) j := by
  unfold attrA
  simp only [← hk]
  rw [if_neg (by omega)]
  simp only [Int.toNat_natCast, ← hb, ← hd]
  rw [if_pos h, ← hj]
theorem ne61 (c : UInt8) : (!((c.toNat : Int) == 61)) = !(decide (some c = some (61 : UInt8))) := by
  by_cases h : c = 61
  · subst h; rfl
  · rw [show ((c.toNat : Int) == 61) = false from u8_ne h, decide_eq_false (fun e => h (Option.some.inj e))]
theorem Gr.below {w w' : World} {B : Nat} (h : Gr w) (hB : 3 < B) (hb : Below B w w') : Gr w' := by
  refine ⟨h.g.below hb hB, fun k hk => ?_, fun k hk => ?_, ?_⟩
  · exact (hb.cell (p := ⟨1, k, none⟩) (by simp only; omega)).trans (h.signs k hk)
  · exact (hb.cell (p := ⟨2, k, none⟩) (by simp only; omega)).trans (h.ours k hk)
  · exact (hb.cell (p := ⟨0, 0, none⟩) (by simp only; omega)).trans h.et
theorem Sc.hB {B b : Nat} {s : Bs} {i : Nat} {out : List Lnk} {w : World} (h : Sc B b s i out w) : B ≤ b := by obtain ⟨_, _, _, hB⟩ := h; exact hB
theorem head_drop {s : Bs} {d : Nat} (h : d < s.length) : (s.drop d).head? = some s[d] := by rw [List.drop_eq_getElem_cons h]; rfl
theorem head_end {s : Bs} {d : Nat} (h : s.length ≤ d) : (s.drop d).head? = none := by rw [List.drop_of_length_le h]; rfl
def sndC : Code → Code
  | .seq _ c => c
  | c => c
noncomputable def attrTail : Code := sndC (sndC (sndC (sndC (sndC (sndC (sndC ((Tryz.f185.body).getD .skip)))))))
set_option maxHeartbeats 8000000 in
set_option maxRecDepth 100000 in
theorem attr_tail {u5 u6 u7 u8 u9 u10 u11 u12 u13 u14 u15 u16 u17 u18 u19 u20 u21 u22 u23 u24 u25 u26 u27 u28 u29 u30 u31 u32 u33 u34 u35 u36 u37 u38 u39 u40 u41 u42 u43 u44 u45 u46 u47 u48 u49 u50 u51 u52 u53 u54 u55 u56 u57 u58 u59 u60 u61 u62 u63 u64 u65 u66 u67 u68 u69 u70 u71 u72 u73 u74 u75 u76 u77 u78 u79 u80 u81 u82 u83 u84 u85 u86 u87 u88 u89 u90 u91 u92 u93 u94 u95 u96 u97 u98 u99 u100 u101 u102 u103 u104 u105 u106 u107 u108 u109 u110 u111 u112 u113 u114 u115 u116 u117 u118 u119 u120 u121 u122 u123 u124 u125 u126 u127 u128 u129 u130 u131 u132 u133 u134 u135 u136 u137 u138 u139 u140 u141 u142 u143 u144 u145 u146 u147 u148 u149 u150 u151 u152 u153 u154 u155 u156 u157 u158 u159 u160 u161 u162 u163 u164 u165 u166 u167 u168 u169 u170 u171 : Value} (B b : Nat) (s nm : Bs) (a n bb d : Nat) (out : List Lnk) (w w5 : World) (R : Bool × Nat × List Lnk) (hg : Gr w) (hgB : 3 < B) (H5 : Sc B b s a out w5) (B5 : Below B w w5) (hs : s.length ≤ 1000000000) (hol : out.length ≤ 1000000000)
    (hBb : B ≤ b) (_hlt : a < s.length) (_hn : n + 1 ≤ s.length - (a + 1)) (hbb : bb = a + (1 + n)) (hbl : bb ≤ s.length) (HBB : Hid (bb = a + (1 + n))) (HD : Hid (d = bb + runN (s.drop bb) wsA)) (hdl : d ≤ s.length) (HDL : Hid (d ≤ s.length)) (HN : Hid (nm = (s.drop a).take (1 + n)))
    (HK : Hid ((n : Int) = Lib.indexAny (s.drop (a + 1)) [32, 9, 13, 10, 47, 61, 62])) (HE : Hid (R = attrA s a)) :
    Code.wp Tryz.prog attrTail (bodyPost Tryz.prog Tryz.f185 fun e w' => e = .returned (.bool R.1) ∧ Sc B b s R.2.1 (out ++ R.2.2) w' ∧ Below B w w') ⟨List.toArray (Value.pointer (some ⟨b, 0, none⟩) :: undef :: Value.bool false :: Value.int .i64 (n : Int) :: Value.string ⟨(lowS nm).toArray⟩ :: u5 :: u6 :: u7 :: u8 :: u9 :: u10 :: u11 :: u12 :: u13 :: u14 :: u15 :: u16 :: u17 :: u18 :: u19 :: u20 :: u21 :: u22 :: u23 :: u24 :: u25 :: u26 :: u27 :: u28 :: u29 :: u30 :: u31 :: u32 :: u33 :: u34 :: u35 :: u36 :: u37 :: u38 :: u39 :: u40 :: u41 :: u42 :: u43 :: u44 :: u45 :: u46 :: u47 :: u48 :: u49 :: u50 :: u51 :: u52 :: u53 :: u54 :: u55 :: u56 :: u57 :: u58 :: u59 :: u60 :: u61 :: u62 :: u63 :: u64 :: u65 :: u66 :: u67 :: u68 :: u69 :: u70 :: u71 :: u72 :: u73 :: u74 :: u75 :: u76 :: u77 :: u78 :: u79 :: u80 :: u81 :: u82 :: u83 :: u84 :: u85 :: u86 :: u87 :: u88 :: u89 :: u90 :: u91 :: u92 :: u93 :: u94 :: u95 :: u96 :: u97 :: u98 :: u99 :: u100 :: u101 :: u102 :: u103 :: u104 :: u105 :: u106 :: u107 :: u108 :: u109 :: u110 :: u111 :: u112 :: u113 :: u114 :: u115 :: u116 :: u117 :: u118 :: u119 :: u120 :: u121 :: u122 :: u123 :: u124 :: u125 :: u126 :: u127 :: u128 :: u129 :: u130 :: u131 :: u132 :: u133 :: u134 :: u135 :: u136 :: u137 :: u138 :: u139 :: u140 :: u141 :: u142 :: u143 :: u144 :: u145 :: u146 :: u147 :: u148 :: u149 :: u150 :: u151 :: u152 :: u153 :: u154 :: u155 :: u156 :: u157 :: u158 :: u159 :: u160 :: u161 :: u162 :: u163 :: u164 :: u165 :: u166 :: u167 :: u168 :: u169 :: u170 :: u171 :: []), []⟩ w5 := by
  generalize hQ : bodyPost Tryz.prog Tryz.f185 _ = Q'
  delta attrTail Tryz.f185
  dsimp only [sndC, Option.getD]
  subst hQ
  go_upto_region 12 with fail
  go_cut [] (fun wx => Sc B b s bb out wx ∧ Below B w wx)
  case first =>
    have H' := Lib.hid H5
    obtain ⟨v, hk, _, _⟩ := H5
    have kc := hk.cell
    have kf := hk.free
    have HV := Lib.hid (show (a : Int) + (1 + (n : Int)) = ((bb : Nat) : Int) from by omega)
    have z1 : IntKind.i64.wrap (1 + (n : Int)) = 1 + (n : Int) := IntWalk.i64_in _ (by omega)
    have z2 : IntKind.i64.wrap ((a : Int) + (1 + (n : Int))) = (a : Int) + (1 + (n : Int)) := IntWalk.i64_in _ (by omega)
    clear hbb
    go_wp2_with fail
    go_meet
    exact ⟨by rw [HV.out]; exact H'.out.at bb, B5.setCell hBb _⟩
  case rest =>
  obtain ⟨H6, B6⟩ := hcut
  obtain ⟨w6, rfl⟩ : ∃ x : World, x = wc := ⟨_, rfl⟩
  clear H5 B5 hbb
  go_upto_region 13 with fail
  go_cut [] (fun wx => Sc B b s d out wx ∧ Below B w wx)
  case first =>
    have H' := Lib.hid H6
    obtain ⟨v, hk, _, _⟩ := H6
    have hkd := Blk.drew hk
    have kcd := hkd.cell
    have hRun := run_any (s.drop bb) [32, 9, 13, 10] w6.drew (by simp; omega) (by decide) (by decide)
    have HV := Lib.hid (show (bb : Int) + (runN (s.drop bb) [32, 9, 13, 10] : Int) = ((d : Nat) : Int) from by have := HD.out; rw [show wsA = [32, 9, 13, 10] from rfl] at this; omega)
    generalize runN (s.drop bb) [32, 9, 13, 10] = r at hRun HV
    clear HD
    have i0 := HV.out
    have i9 : d ≤ s.length := HDL.out
    have i1 : (bb : Int) ≤ s.length := by omega
    have i2 : (0 : Int) ≤ bb := by omega
    have z1 : IntKind.i64.wrap ((bb : Int) + (r : Int)) = (bb : Int) + (r : Int) := IntWalk.i64_in _ (by omega)
    clear i0
    go_region_law ((go_simp; with_reducible refine hRun.mono ?_; rintro e w10 ⟨rfl, hb⟩; have hk10 := Lib.hid (hkd.next hb hkd.lt); have kc10 := hk10.out.cell; have kf10 := hk10.out.free 1))
    all_goals
      go_wp2_with fail
      go_meet
      exact ⟨by rw [HV.out]; exact ((H'.out.drew).next hb).at d, (B6.drew.trans (hb.mono H'.out.base)).setCell hBb _⟩
  case rest =>
  obtain ⟨H7, B7⟩ := hcut
  obtain ⟨w7, rfl⟩ : ∃ x : World, x = wc := ⟨_, rfl⟩
  clear H6 B6
  go_upto_region 14 with fail
  go_cut [134] (fun t wx => t = .bool (!(decide ((s.drop d).head? = some 61))) ∧ Sc B b s d out wx ∧ Below B w wx)
  case first =>
    have H' := Lib.hid H7
    obtain ⟨v, hk, _, _⟩ := H7
    have kc := hk.cell
    by_cases hde : d = s.length
    · have HH := Lib.hid (head_end (s := s) (d := d) (Nat.le_of_eq hde.symm))
      have e0 : ((d : Int) == (s.length : Int)) = true := by rw [hde]; exact beq_self_eq_true _
      go_wp2_with fail
      go_quiet (fail)
      have hB := Go.below_drewN (Below.refl w7.heap.size w7) nq
      generalize w7.drewN nq = w8 at hB ⊢
      clear kc
      go_wp2_with fail
      go_meet
      exact ⟨by rw [HH.out]; rfl, H'.out.next hB, B7.trans (hB.mono H'.out.base)⟩
    · have hdlt : d < s.length := by omega
      have HH := Lib.hid (head_drop hdlt)
      have e0 : ((d : Int) == (s.length : Int)) = false := beq_eq_false_iff_ne.2 (by omega)
      have ha1 : (d : Int) < s.length := by omega
      have ha0 : (0 : Int) ≤ d := by omega
      go_wp2_with fail
      go_quiet (fail)
      have hB := Go.below_drewN (Below.refl w7.heap.size w7) nq
      generalize w7.drewN nq = w8 at hB ⊢
      clear kc
      go_wp2_with fail
      go_meet
      exact ⟨by rw [HH.out]; exact congrArg Value.bool (ne61 _), H'.out.next hB, B7.trans (hB.mono H'.out.base)⟩
  case rest =>
  obtain ⟨rfl, H8, B8⟩ := hcut
  obtain ⟨w8, rfl⟩ : ∃ x : World, x = wc := ⟨_, rfl⟩
  clear H7 B7
  by_cases h61 : (s.drop d).head? = some 61
  case neg =>
    have HF := Lib.hid (attrA_no HK.out HBB.out HD.out h61)
    rw [decide_eq_false h61]
    simp only [Bool.not_false]
    have H' := Lib.hid H8
    obtain ⟨v, hk, _, _⟩ := H8
    have kc := hk.cell
    have z1 : (((d : Int) < (s.length : Int)) ↔ d < s.length) := by omega
    go_wp2_with fail
    go_quiet (fail)
    have hB := Go.below_drewN (Below.refl w8.heap.size w8) nq
    generalize w8.drewN nq = w9 at hB ⊢
    clear kc
    go_wp2_with fail
    go_ret
    exact ⟨by rw [HE.out, HF.out]; simp, by rw [HE.out, HF.out, List.append_nil]; exact H'.out.next hB, B8.trans (hB.mono H'.out.base)⟩
  have hdlt : d < s.length := by
    rcases Nat.lt_or_ge d s.length with h | h
    · exact h
    · rw [head_end h] at h61; cases h61
  obtain ⟨j, hj⟩ : ∃ x, x = d + 1 + runN (s.drop (d + 1)) wsA := ⟨_, rfl⟩
  have HJ := Lib.hid hj
  have HF := Lib.hid (attrA_yes HK.out HBB.out HD.out h61 hj)
  rw [decide_eq_true h61]
  simp only [Bool.not_true]
  have hrj := runN_le (s.drop (d + 1)) wsA
  rw [List.length_drop] at hrj
  have HJL := Lib.hid (show j ≤ s.length from by omega)
  clear hj hrj h61 HK HBB HD
  go_upto_region 16 with fail
  go_cut [] (fun wx => Sc B b s (d + 1) out wx ∧ Below B w wx)
  case first =>
    have H' := Lib.hid H8
    obtain ⟨v, hk, _, _⟩ := H8
    have kc := hk.cell
    have kf := hk.free
    have z1 : IntKind.i64.wrap ((d : Int) + 1) = (d : Int) + 1 := IntWalk.i64_in _ (by omega)
    go_wp2_with fail
    go_meet
    exact ⟨H'.out.at (d + 1), B8.setCell hBb _⟩
  case rest =>
  obtain ⟨H9, B9⟩ := hcut
  obtain ⟨w9, rfl⟩ : ∃ x : World, x = wc := ⟨_, rfl⟩
  clear H8 B8
  obtain ⟨d1, hd1⟩ : ∃ x, x = d + 1 := ⟨_, rfl⟩
  rw [← hd1] at H9 HJ
  clear hd1
  go_upto_region 17 with fail
  go_cut [] (fun wx => Sc B b s j out wx ∧ Below B w wx)
  case first =>
    have H' := Lib.hid H9
    obtain ⟨v, hk, _, _⟩ := H9
    have hkd := Blk.drew hk
    have kcd := hkd.cell
    have hRun := run_any (s.drop d1) [32, 9, 13, 10] w9.drew (by simp; omega) (by decide) (by decide)
    have HV := Lib.hid (show (d1 : Int) + (runN (s.drop d1) [32, 9, 13, 10] : Int) = ((j : Nat) : Int) from by have := HJ.out; rw [show wsA = [32, 9, 13, 10] from rfl] at this; omega)
    generalize runN (s.drop d1) [32, 9, 13, 10] = r at hRun HV
    clear HJ
    have i0 := HV.out
    have i9 : j ≤ s.length := HJL.out
    have i1 : (d1 : Int) ≤ s.length := by omega
    have i2 : (0 : Int) ≤ d1 := by omega
    have z1 : IntKind.i64.wrap ((d1 : Int) + (r : Int)) = (d1 : Int) + (r : Int) := IntWalk.i64_in _ (by omega)
    clear i0
    go_region_law ((go_simp; with_reducible refine hRun.mono ?_; rintro e w10 ⟨rfl, hb⟩; have hk10 := Lib.hid (hkd.next hb hkd.lt); have kc10 := hk10.out.cell; have kf10 := hk10.out.free 1))
    all_goals
      go_wp2_with fail
      go_meet
      exact ⟨by rw [HV.out]; exact ((H'.out.drew).next hb).at j, (B9.drew.trans (hb.mono H'.out.base)).setCell hBb _⟩
  case rest =>
  obtain ⟨H10, B10⟩ := hcut
  obtain ⟨w10, rfl⟩ : ∃ x : World, x = wc := ⟨_, rfl⟩
  clear H9 B9
  have hP := pvalue_any B b s (lowS nm) j out w10 (hg.below hgB B10) H10 HJL.out hs hol
  have HF2 := Lib.hid (show R = valueN s (lowS nm) j from by rw [HE.out, HF.out, HN.out])
  clear HE HF HN
  go_wp2_with fail
  with_reducible refine hP.mono ?_
  rintro e w11 ⟨rfl, hS, hb⟩
  go_wp2_with fail
  go_ret
  exact ⟨by rw [HF2.out]; rfl, by rw [HF2.out]; exact hS, B10.trans hb⟩
set_option maxHeartbeats 8000000 in
set_option maxRecDepth 100000 in
theorem attr_any (B b : Nat) (s : Bs) (i : Nat) (out : List Lnk) (w : World) (hg : Gr w) (hgB : 3 < B) (h : Sc B b s i out w) (hi : i ≤ s.length) (hs : s.length ≤ 1000000000) (hol : out.length ≤ 1000000000) :
    Calls Tryz.prog 185 #[.pointer (some ⟨b, 0, none⟩)] w fun e w' => e = .returned (.bool (attrN s i).1) ∧ Sc B b s (attrN s i).2.1 (out ++ (attrN s i).2.2) w' ∧ Below B w w' := by
  have hBb : B ≤ b := h.hB
  have hbase := h.base
  have hr := runN_le (s.drop i) [32, 9, 13, 10, 47]
  rw [List.length_drop] at hr
  obtain ⟨a, ha⟩ : ∃ a, a = i + runN (s.drop i) [32, 9, 13, 10, 47] := ⟨_, rfl⟩
  have HA := Lib.hid ha
  have HAL := Lib.hid (show a ≤ s.length from by omega)
  clear ha
  go_enter Tryz.func185, Tryz.ntmps185
  go_upto_region 1 with fail
  go_cut [] (fun wx => Sc B b s a out wx ∧ Below B w wx)
  case first =>
    have H := Lib.hid h
    obtain ⟨v, hk, _, _⟩ := h
    have hkd := Blk.drew hk
    have kcd := hkd.cell
    have hRun := run_any (s.drop i) [32, 9, 13, 10, 47] w.drew (by simp; omega) (by decide) (by decide)
    have HV := Lib.hid (show (i : Int) + (runN (s.drop i) [32, 9, 13, 10, 47] : Int) = ((a : Nat) : Int) from by have := HA.out; omega)
    generalize runN (s.drop i) [32, 9, 13, 10, 47] = r at hr hRun HV
    clear HA
    have i1 : (i : Int) ≤ s.length := by omega
    have i2 : (0 : Int) ≤ i := by omega
    have z1 : IntKind.i64.wrap ((i : Int) + (r : Int)) = (i : Int) + (r : Int) := IntWalk.i64_in _ (by omega)
    go_region_law ((go_simp; with_reducible refine hRun.mono ?_; rintro e w10 ⟨rfl, hb⟩; have hk10 := Lib.hid (hkd.next hb hkd.lt); have kc10 := hk10.out.cell; have kf10 := hk10.out.free 1))
    all_goals
      go_wp2_with fail
      go_meet
      exact ⟨by rw [HV.out]; exact ((H.out.drew).next hb).at a, ((Below.refl B w).drew.trans (hb.mono hbase)).setCell hBb _⟩
  case rest =>
  obtain ⟨H1, B1⟩ := hcut
  obtain ⟨w1, rfl⟩ : ∃ x : World, x = wc := ⟨_, rfl⟩
  clear hr
  have hal := HAL.out
  clear h
  by_cases hae : a = s.length
  · have HE := Lib.hid (attrN_end HA.out (Nat.le_of_eq hae.symm))
    subst hae
    have H1' := Lib.hid H1
    obtain ⟨v, hk, _, _⟩ := H1
    have kc := hk.cell
    go_wp2_with fail
    go_quiet (fail)
    have hB := Go.below_drewN (Below.refl w1.heap.size w1) nq
    generalize w1.drewN nq = w2 at hB ⊢
    clear kc
    go_wp2_with fail
    go_ret
    exact ⟨by rw [HE.out]; rfl, by rw [HE.out, List.append_nil]; exact H1'.out.next hB, B1.trans (hB.mono H1'.out.base)⟩
  have hlt : a < s.length := by omega
  go_upto_region 2 with fail
  go_cut [31] (fun t wx => t = .bool false ∧ Sc B b s a out wx ∧ Below B w wx)
  case first =>
    have H1' := Lib.hid H1
    obtain ⟨v, hk, _, _⟩ := H1
    have kc := hk.cell
    have hne : ¬ ((a : Int) = (s.length : Int)) := by omega
    go_wp2_with fail
    go_quiet (fail)
    have hB := Go.below_drewN (Below.refl w1.heap.size w1) nq
    generalize w1.drewN nq = w2 at hB ⊢
    clear kc
    go_wp2_with fail
    go_meet
    exact ⟨congrArg Value.bool (beq_eq_false_iff_ne.2 hne), H1'.out.next hB, B1.trans (hB.mono H1'.out.base)⟩
  case rest =>
  obtain ⟨rfl, H2, B2⟩ := hcut
  obtain ⟨w2, rfl⟩ : ∃ x : World, x = wc := ⟨_, rfl⟩
  clear H1 B1
  go_upto_region 4 with fail
  go_cut [41] (fun t wx => t = .bool ((s[a].toNat : Int) == 62) ∧ Sc B b s a out wx ∧ Below B w wx)
  case first =>
    have H2' := Lib.hid H2
    obtain ⟨v, hk, _, _⟩ := H2
    have kc := hk.cell
    have ha1 : (a : Int) < s.length := by omega
    have ha0 : (0 : Int) ≤ a := by omega
    go_wp2_with fail
    go_quiet (fail)
    have hB := Go.below_drewN (Below.refl w2.heap.size w2) nq
    generalize w2.drewN nq = w3 at hB ⊢
    clear kc
    go_wp2_with fail
    go_meet
    exact ⟨rfl, H2'.out.next hB, B2.trans (hB.mono H2'.out.base)⟩
  case rest =>
  obtain ⟨rfl, H3, B3⟩ := hcut
  obtain ⟨w3, rfl⟩ : ∃ x : World, x = wc := ⟨_, rfl⟩
  clear H2 B2
  by_cases h62 : s[a] = 62
  · have HE := Lib.hid (attrN_gt HA.out hlt h62)
    have e62 : ((s[a].toNat : Int) == 62) = true := by rw [h62]; rfl
    have H3' := Lib.hid H3
    obtain ⟨v, hk, _, _⟩ := H3
    have kc := hk.cell
    have kf := hk.free
    go_wp2_with fail
    go_ret
    exact ⟨by rw [HE.out]; rfl, by rw [HE.out, List.append_nil]; exact H3'.out.at (a + 1), B3.setCell hBb _⟩
  have e62 : ((s[a].toNat : Int) == 62) = false := u8_ne h62
  have HE := Lib.hid (attrN_else HA.out hlt h62)
  clear HA
  generalize ((s[a].toNat : Int) == 62) = q at e62 ⊢
  subst e62
  have hg3 := hg.below hgB B3
  obtain ⟨kz, hkz⟩ : ∃ k, k = Lib.indexAny (s.drop (a + 1)) [32, 9, 13, 10, 47, 61, 62] := ⟨_, rfl⟩
  have HK := Lib.hid hkz
  go_upto_region 7 with fail
  go_cut [3] (fun t wx => t = .int .i64 kz ∧ Sc B b s a out wx ∧ Below B w wx)
  case first =>
    have H3' := Lib.hid H3
    obtain ⟨v, hk, _, _⟩ := H3
    have hkd := Blk.drew hk
    have kcd := hkd.cell
    have kc := hk.cell
    have i1 : (a : Int) + 1 ≤ s.length := by omega
    have i2 : (0 : Int) ≤ (a : Int) + 1 := by omega
    have i3 : ((a : Int) + 1).toNat = a + 1 := by omega
    have hIdx := idxAny (s.drop (a + 1)) [32, 9, 13, 10, 47, 61, 62] (by decide) (by decide) (by decide) (by simp; omega)
    rw [← hkz] at hIdx
    have K0 := (Below.refl w3.heap.size w3).drew
    have z1 : IntKind.i64.wrap ((a : Int) + 1) = (a : Int) + 1 := IntWalk.i64_in _ (by omega)
    go_region_held3 (fun W => (∀ k, W.cell? ⟨b, k, none⟩ = (#[.string ⟨s.toArray⟩, .int .i64 (a : Int), v])[k]?) ∧ Below w3.heap.size w3 W)
      (first
        | with_reducible exact ⟨kcd, K0⟩
        | with_reducible exact ⟨(hk.next K hk.lt).cell, K⟩)
      ((go_at_call 178; go_split_ands; with_reducible refine (hIdx _).mono ?_; rintro e w10 ⟨rfl, hb⟩; have K := belowStep hb (w0 := w3) (by assumption)))
    all_goals go_split_ands
    all_goals
      go_wp2_with fail
      go_meet
      exact ⟨by rw [HK.out], H3'.out.next (by assumption), B3.trans (Below.mono (B := w3.heap.size) (by assumption) H3'.out.base)⟩
  case rest =>
  obtain ⟨rfl, H4, B4⟩ := hcut
  obtain ⟨w4, rfl⟩ : ∃ x : World, x = wc := ⟨_, rfl⟩
  clear H3 B3
  have hkl := indexAny_le (s.drop (a + 1)) [32, 9, 13, 10, 47, 61, 62]
  rw [← hkz, List.length_drop] at hkl
  clear hkz
  by_cases hz : kz < 0
  · have HF := Lib.hid (attrA_end HK.out hz)
    have H4' := Lib.hid H4
    obtain ⟨v, hk, _, _⟩ := H4
    have kc := hk.cell
    have kf := hk.free
    go_wp2_with fail
    go_ret
    exact ⟨by rw [HE.out, HF.out]; rfl, by rw [HE.out, HF.out, List.append_nil]; exact H4'.out.at s.length, B4.setCell hBb _⟩
  obtain ⟨n, rfl⟩ : ∃ n : Nat, kz = (n : Int) := ⟨kz.toNat, by omega⟩
  have hn : n + 1 ≤ s.length - (a + 1) := by omega
  obtain ⟨bb, hbb⟩ : ∃ x, x = a + (1 + n) := ⟨_, rfl⟩
  have hbl : bb ≤ s.length := by omega
  have HBB := Lib.hid hbb
  obtain ⟨d, hdd⟩ : ∃ x, x = bb + runN (s.drop bb) wsA := ⟨_, rfl⟩
  have HD := Lib.hid hdd
  have hrd := runN_le (s.drop bb) wsA
  rw [List.length_drop] at hrd
  have hdl : d ≤ s.length := by omega
  have HDL := Lib.hid hdl
  obtain ⟨nm, hnm⟩ : ∃ x, x = (s.drop a).take (1 + n) := ⟨_, rfl⟩
  have HN := Lib.hid hnm
  clear hkl hz hdd hrd
  go_upto_region 11 with fail
  go_cut [4] (fun t wx => t = .string ⟨(lowS nm).toArray⟩ ∧ Sc B b s a out wx ∧ Below B w wx)
  case first =>
    have H' := Lib.hid H4
    obtain ⟨v, hk, _, _⟩ := H4
    have hkd := Blk.drew hk
    have kcd := hkd.cell
    have kc := hk.cell
    have hSm := fun W => small_any nm W (by rw [hnm]; simp; omega)
    have K0 := (Below.refl w4.heap.size w4).drew
    subst hnm
    clear hdl hbb HBB
    have z1 : IntKind.i64.wrap ((a : Int) + 1) = (a : Int) + 1 := IntWalk.i64_in _ (by omega)
    have z2 : IntKind.i64.wrap ((a : Int) + 1 + (n : Int)) = (a : Int) + 1 + (n : Int) := IntWalk.i64_in _ (by omega)
    have z3 : ((a : Int) + 1 + (n : Int)).toNat = a + 1 + n := by omega
    have z4 : (0 : Int) ≤ a := by omega
    have z5 : (a : Int) ≤ (a : Int) + 1 + (n : Int) := by omega
    have z6 : (a : Int) + 1 + (n : Int) ≤ (s.length : Int) := by omega
    have z7 : a + 1 + n - a = 1 + n := by omega
    go_region_held3 (fun W => (∀ k, W.cell? ⟨b, k, none⟩ = (#[.string ⟨s.toArray⟩, .int .i64 (a : Int), v])[k]?) ∧ Below w4.heap.size w4 W)
      (first
        | with_reducible exact ⟨kcd, K0⟩
        | with_reducible exact ⟨(hk.next K hk.lt).cell, K⟩)
      ((go_at_call 42; go_split_ands; with_reducible refine (hSm _).mono ?_; rintro e w10 ⟨rfl, hb⟩; have K := belowStep hb (w0 := w4) (by assumption)))
    all_goals go_split_ands
    all_goals
      go_wp2_with fail
      go_meet
      exact ⟨rfl, H'.out.next (by assumption), B4.trans (Below.mono (B := w4.heap.size) (by assumption) H'.out.base)⟩
  case rest =>
  obtain ⟨rfl, H5, B5⟩ := hcut
  rename_i hK
  refine hK _ _ ?_
  exact attr_tail B b s nm a n bb d out w wc (attrN s i) hg hgB H5 B5 hs hol hBb hlt hn hbb hbl HBB HD hdl HDL HN HK HE
end Go.Proofs.YtignjjnflcpiiaaGreatDoor
