/- strings.NewReplacer and its build, for pairs whose first texts are single, distinct bytes and one of whose second texts is no single byte. Condition: 2 to 100 pairs, texts of at most 100 bytes that are not empty. -/
import Derived.Deep.WholeRow
import Derived.Lib.SliceRun
import Derived.Test.YtignjjnflcpiiaaGreatDoorQ06
namespace Go.Proofs.YtignjjnflcpiiaaGreatDoor
open Go Go.RowKit
abbrev Pr := UInt8 × Bs
def prC (p : Pr) : List Value := [.string ⟨#[p.1]⟩, .string ⟨p.2.toArray⟩]
theorem prC_len (p : Pr) : (prC p).length = 2 := rfl
def strC (x : Bs) : List Value := [.string ⟨x.toArray⟩]
theorem strC_len (x : Bs) : (strC x).length = 1 := rfl
theorem strC_one (x : Bs) : ∀ u ∈ strC x, u.oneCell' = true := fun u hu => by simp [strC] at hu; rw [hu]; rfl
abbrev OwnT (w : World) (B : Nat) (v : Value) (l : List Bs) : Prop := OwnG 9 1 strC w B v l
def prL (prs : List Pr) : List Bs := prs.flatMap fun p => [[p.1], p.2]
theorem prL_cells (prs : List Pr) : (prL prs).flatMap strC = prs.flatMap prC := by
  unfold prL
  induction prs with
  | nil => rfl
  | cons p l ih => rw [List.flatMap_cons, List.flatMap_append, ih, List.flatMap_cons]; rfl
theorem prL_len (prs : List Pr) : (prL prs).length = 2 * prs.length := by
  unfold prL
  induction prs with
  | nil => rfl
  | cons p l ih => rw [List.flatMap_cons, List.length_append, ih]; simp; omega
def RdPr (w : World) (v : Value) (prs : List Pr) : Prop :=
  ∃ b cap, v = .slice (some ⟨b, 0, none⟩) (2 * prs.length) cap ∧ b < w.heap.size ∧ ∀ k (hk : k < prs.length), w.cell? ⟨b, 2 * k, none⟩ = some (.string ⟨#[prs[k].1]⟩) ∧ w.cell? ⟨b, 2 * k + 1, none⟩ = some (.string ⟨(prs[k].2).toArray⟩)
theorem RdPr.next {w w' : World} {v : Value} {prs : List Pr} (h : RdPr w v prs) (hb : Below w.heap.size w w') : RdPr w' v prs := by
  obtain ⟨b, cap, hv, hlt, hc⟩ := h
  exact ⟨b, cap, hv, Nat.lt_of_lt_of_le hlt hb.size, fun k hk => ⟨(hb.cell (p := ⟨b, _, none⟩) hlt).trans (hc k hk).1, (hb.cell (p := ⟨b, _, none⟩) hlt).trans (hc k hk).2⟩⟩
theorem OwnT.pr {w : World} {B : Nat} {v : Value} {prs : List Pr} (h : OwnT w B v (prL prs)) (h0 : 0 < prs.length) : RdPr w v prs := by
  obtain ⟨a, cap, hv, hc⟩ := OwnG.rd (by decide) strC_len h
  have hl := prL_len prs
  obtain ⟨b, ha, hlt, hcell⟩ := hc (by omega)
  subst ha
  refine ⟨b, cap, by rw [hv, hl], hlt, fun k hk => ?_⟩
  rw [prL_cells] at hcell
  have e0 := flat_at prC_len prs k hk 0 (by decide)
  have e1 := flat_at prC_len prs k hk 1 (by decide)
  rw [Nat.add_zero] at e0
  constructor
  · rw [hcell (2 * k) (by omega), Nat.mul_comm 2 k, e0]; rfl
  · rw [hcell (2 * k + 1) (by omega), Nat.mul_comm 2 k, e1]; rfl
theorem rowKeep {B : Nat} {e : TypeId} {k : Nat} {v : Value} {n : Nat} {xs : List Value} {w w' : World} (h : w.ownsRow B e k v n xs) (hb : ∀ g, v.ownBlock = some g → w'.heap[g]? = w.heap[g]?) : w'.ownsRow B e k v n xs := by
  rcases h with ⟨h3, h4⟩
  refine ⟨h3, ?_⟩
  rcases h4 with h4 | ⟨g, cap, cur, hv, hg, hh, r⟩
  · exact Or.inl h4
  · exact Or.inr ⟨g, cap, cur, hv, hg, (hb g (by rw [hv]; rfl)).trans hh, r⟩
theorem rowNe {B : Nat} {e : TypeId} {k : Nat} {v : Value} {n : Nat} {xs : List Value} {w : World} (h : w.ownsRow B e k v n xs) {R : Nat} {c : Array Value} {t : TypeId} (hR : Blk w R c t) (hne : t ≠ e) : ∀ g, v.ownBlock = some g → g ≠ R := by
  rintro g hg rfl
  rcases h.2 with ⟨hv, _⟩ | ⟨g', cap, cur, hv, _, hh, _⟩
  · rw [hv] at hg; cases hg
  · rw [hv] at hg; injection hg with hg; simp at hg; subst hg
    rw [hR] at hh
    injection hh with hh; injection hh with _ hh; exact hne hh
theorem rowLt {B : Nat} {e : TypeId} {k : Nat} {v : Value} {n : Nat} {xs : List Value} {w : World} (h : w.ownsRow B e k v n xs) : ∀ g, v.ownBlock = some g → g < w.heap.size := by
  intro g hg
  rcases h.2 with ⟨hv, _⟩ | ⟨g', cap, cur, hv, _, hh, _⟩
  · rw [hv] at hg; cases hg
  · rw [hv] at hg; injection hg with hg; simp at hg; subst hg
    rcases Nat.lt_or_ge g' w.heap.size with h' | h'
    · exact h'
    · rw [Array.getElem?_eq_none h'] at hh; cases hh
def NewRep (B : Nat) (prs : List Pr) (w : World) (e : Ending) (w' : World) : Prop :=
  ∃ b v, e = .returned (.pointer (some ⟨b, 0, none⟩)) ∧ B ≤ b ∧ Blk w' b #[.int .u32 0, .int .i32 0, .int .u32 0, .nilIface, v] 327 ∧ RdPr w' v prs ∧ (∀ g, v.ownBlock = some g → g ≠ b) ∧ Below B w w'
set_option maxHeartbeats 4000000 in
set_option maxRecDepth 100000 in
theorem newRep_any (bk c : Nat) (prs : List Pr) (w : World) (hc : ∀ j u, (prs.flatMap prC)[j]? = some u → w.cell? ((⟨bk, 0, none⟩ : Addr).add j) = some u) (h0 : 0 < prs.length) (h100 : prs.length ≤ 100) (n : Nat) (hn : n = 2 * prs.length) :
    Calls Tryz.prog 189 #[.slice (some ⟨bk, 0, none⟩) n c] w (NewRep w.heap.size prs w) := by
  have hmod : ((n : Int) % 2 == 1) = false := by rw [beq_eq_false_iff_ne]; omega
  have hn2 : n ≤ 200 := by omega
  have Hn := Lib.hid hn; clear hn
  have hlen := Lib.hid (prL_len prs)
  rw [← prL_cells] at hc
  have hc2 := Lib.hid hc; clear hc
  go_enter Tryz.func189, Tryz.ntmps189
  go_wp2_with (at_builtin; refine appG (α := Bs) (cs := strC) (size := 1) (z := .string ByteArray.empty) strC_len strC_one infoStr rfl (by decide) Tryz.underlying55 rfl _ _ rfl w.heap.size _ [] (prL prs) ⟨bk, 0, none⟩ n c (Hn.out.trans hlen.out.symm) rfl (OwnG.nil _ _ _ _ _) rfl hc2.out (by have := Hn.out; have := hlen.out; simp; omega) (by have := Hn.out; have := hlen.out; unfold maxLen; simp; omega) (Nat.le_refl _) ?_; intro v' w2 hown hg hb; rw [List.nil_append] at hown; obtain ⟨a2, cap2, hv, hrc⟩ := OwnG.rd (by decide) strC_len hown; subst hv)
  go_wp2_with fail
  go_ret
  refine ⟨w2.heap.size, _, rfl, hb.size, Blk.new _ _ _, ?_, fun g hg => Nat.ne_of_lt (rowLt hown g hg), hb.alloc hb.size _⟩
  exact (OwnT.pr hown h0).next ((Below.refl _ _).alloc (Nat.le_refl _) _)
def Keep (w w' : World) : Prop := ∀ g l, 1 ≤ l.length → ByteRow w g l → ByteRow w' g l
theorem Keep.trans {a b c : World} (h : Keep a b) (k : Keep b c) : Keep a c := fun g l h1 h2 => k g l h1 (h g l h1 h2)
theorem keep_below {w w' : World} (h : Below w.heap.size w w') : Keep w w' := fun _ _ _ h2 => h2.below h h2.lt
theorem ByteRow.ne_blk {w : World} {g : Nat} {l : Bs} (h : ByteRow w g l) (h1 : 1 ≤ l.length) {R : Nat} {c : Array Value} {t : TypeId} (hR : Blk w R c t) : g ≠ R := by
  rintro rfl
  obtain ⟨C, t', lo, hi, hb, hlo, _⟩ := h
  rw [hR] at hb
  injection hb with hb; injection hb with _ _ hb; injection hb with hb _; omega
theorem keep_set {w : World} {R : Nat} {c : Array Value} {t : TypeId} (hR : Blk w R c t) (k : Nat) (x : Value) : Keep w (w.setCell ⟨R, k, none⟩ x) := fun g _ h1 h2 =>
  h2.of_block (Below.heap_setCell w _ x g (h2.ne_blk h1 hR))
theorem keep_grown {w w' : World} {B : Nat} {e : TypeId} {k : Nat} {v : Value} {n : Nat} {xs : List Value} (h : w.ownsRow B e k v n xs) (hg : w.grownBy w' v.ownBlock) : Keep w w' := fun g _ h1 h2 => by
  refine h2.of_block (hg.block g h2.lt ?_)
  intro he
  rcases h.2 with ⟨hv, _⟩ | ⟨g', cap, cur, hv, _, hh, _⟩
  · rw [hv] at he; cases he
  · rw [hv] at he; injection he with he; simp at he; subst he
    exact h2.ne_blk h1 hh rfl
theorem Blk.grown {w w' : World} {R : Nat} {c : Array Value} {t : TypeId} {own : Option Nat} (h : Blk w R c t) (hg : w.grownBy w' own) (hne : ∀ g, own = some g → g ≠ R) : Blk w' R c t := by
  refine (hg.block R h.lt ?_).trans h
  intro e
  exact hne R e.symm rfl
theorem cellT2 (w : World) (o : UInt8) (t t2 : TypeId) : ∀ j u, ([[o]].flatMap strC)[j]? = some u → ((w.alloc (.cells #[.int .u8 (o.toNat : Int)] t)).alloc (.cells #[.string ⟨#[o]⟩] t2)).cell? ((⟨w.heap.size + 1, 0, none⟩ : Addr).add j) = some u := fun j u hj => by
  rw [addr_add0]
  have := (Blk.new (w.alloc (.cells #[.int .u8 (o.toNat : Int)] t)) #[.string ⟨#[o]⟩] t2).cell j
  rw [World.size_alloc] at this
  rw [this]
  match j, hj with
  | 0, hj => exact hj
  | j + 1, hj => simp [strC] at hj
theorem Blk.get {w : World} {R o : Nat} {c : Array Value} {t : TypeId} {v x : Value} (h : Blk w R (c.setIfInBounds 256 v) t) (hc : c[o]? = some x) (ho : o < 256) : w.cell? ⟨R, o, none⟩ = some x := by
  rw [h.cell, Array.getElem?_setIfInBounds, if_neg (by omega), hc]
def look (prs : List Pr) (c : UInt8) : Option Bs := (prs.find? fun p => p.1 == c).map (·.2)
def TabIs (w : World) (B : Nat) (cells : Array Value) (f : UInt8 → Option Bs) : Prop :=
  ∀ c : UInt8, (f c = none ∧ cells[c.toNat]? = some (.slice none 0 0)) ∨ ∃ n g cap, f c = some n ∧ cells[c.toNat]? = some (.slice (some ⟨g, 0, none⟩) n.length cap) ∧ B ≤ g ∧ 1 ≤ n.length ∧ ByteRow w g n
def RepAt (w : World) (R B : Nat) (f : UInt8 → Option Bs) (ks : List Bs) : Prop :=
  ∃ cells v, Blk w R cells 377 ∧ cells.size = 257 ∧ TabIs w B cells f ∧ cells[256]? = some v ∧ OwnT w B v ks
theorem TabIs.keep {w w' : World} {B : Nat} {cells : Array Value} {f : UInt8 → Option Bs} (h : TabIs w B cells f) (k : Keep w w') : TabIs w' B cells f := fun c => by
  rcases h c with h | ⟨n, g, cap, h1, h2, h3, h4, h5⟩
  · exact Or.inl h
  · exact Or.inr ⟨n, g, cap, h1, h2, h3, h4, k g n h4 h5⟩
theorem TabIs.put {w : World} {B : Nat} {cells : Array Value} {f : UInt8 → Option Bs} (h : TabIs w B cells f) (hs : cells.size = 257) (o : UInt8) (n : Bs) (g cap : Nat) (hg : B ≤ g) (h1 : 1 ≤ n.length) (hr : ByteRow w g n) (v : Value) :
    TabIs w B ((cells.setIfInBounds 256 v).setIfInBounds o.toNat (.slice (some ⟨g, 0, none⟩) n.length cap)) (fun c => if c = o then some n else f c) := fun c => by
  have hc := c.toNat_lt
  have ho := o.toNat_lt
  by_cases e : c = o
  · subst e
    refine Or.inr ⟨n, g, cap, by simp, ?_, hg, h1, hr⟩
    rw [Array.getElem?_setIfInBounds, if_pos rfl, if_pos (by simp; omega)]
  · have hne : ¬ o.toNat = c.toNat := fun h => e (UInt8.toNat_inj.1 h.symm)
    have hcell : ((cells.setIfInBounds 256 v).setIfInBounds o.toNat (.slice (some ⟨g, 0, none⟩) n.length cap))[c.toNat]? = cells[c.toNat]? := by
      rw [Array.getElem?_setIfInBounds, if_neg hne, Array.getElem?_setIfInBounds, if_neg (by omega)]
    rcases h c with ⟨h0, h2⟩ | ⟨m, g', cap', h2, h3, h4, h5, h6⟩
    · exact Or.inl ⟨by simp [e, h0], by rw [hcell]; exact h2⟩
    · exact Or.inr ⟨m, g', cap', by simp [e, h2], by rw [hcell]; exact h3, h4, h5, h6⟩
theorem look_drop {prs : List Pr} {m : Nat} (hm : m < prs.length) : look (prs.drop m) = fun c => if c = prs[m].1 then some prs[m].2 else look (prs.drop (m + 1)) c := by
  funext c
  rw [List.drop_eq_getElem_cons hm]
  unfold look
  rw [List.find?_cons]
  by_cases e : c = prs[m].1
  · simp [e]
  · have : (prs[m].1 == c) = false := by rw [beq_eq_false_iff_ne]; exact fun h => e h.symm
    simp [this, e]
theorem look_none {prs : List Pr} {m : Nat} (hm : m < prs.length) (hnd : (prs.map (·.1)).Nodup) : look (prs.drop (m + 1)) prs[m].1 = none := by
  unfold look
  rw [Option.map_eq_none_iff, List.find?_eq_none]
  intro q hq
  have h1 := hnd.sublist ((List.drop_sublist m prs).map (·.1))
  rw [List.drop_eq_getElem_cons hm, List.map_cons, List.nodup_cons] at h1
  intro e
  exact h1.1 (List.mem_map.2 ⟨q, hq, by simpa using e⟩)
structure PrsOk (prs : List Pr) : Prop where
  two : 2 ≤ prs.length
  few : prs.length ≤ 100
  nodup : (prs.map (·.1)).Nodup
  fit : ∀ p ∈ prs, 1 ≤ p.2.length ∧ p.2.length ≤ 100
  long : ∃ p ∈ prs, p.2.length ≠ 1
def allOne (prs : List Pr) : Bool := prs.all fun p => p.2.length == 1
set_option maxHeartbeats 4000000 in
set_option maxRecDepth 100000 in
theorem build_any (b : Nat) (x0 x1 x2 x3 v : Value) (prs : List Pr) (ok : PrsOk prs) (w : World) (hb : Blk w b #[x0, x1, x2, x3, v] 327) (hr : RdPr w v prs) :
    Calls Tryz.prog 303 #[.pointer (some ⟨b, 0, none⟩)] w fun e w' => ∃ R, e = .returned (.iface 378 (.pointer (some ⟨R, 0, none⟩))) ∧ w.heap.size ≤ R ∧ RepAt w' R w.heap.size (look prs) ((prs.map fun p => [p.1]).reverse) ∧ Below w.heap.size w w' := by
  have hc4 := hb.cell 4
  obtain ⟨k2, k100, knd, kfit, klong⟩ := ok
  have Knd := Lib.hid knd; clear knd
  have Kfit := Lib.hid kfit; clear kfit
  have Klong := Lib.hid klong; clear klong
  obtain ⟨bk, cap, rfl, hbk, hcell⟩ := hr
  have HC := Lib.hid hcell; clear hcell
  obtain ⟨n, hn⟩ : ∃ n, n = 2 * prs.length := ⟨_, rfl⟩
  rw [← hn] at hc4
  have e2 : ((n : Int) == 2) = false := by rw [beq_eq_false_iff_ne]; omega
  have hn200 : n ≤ 200 := by omega
  have hn4 : 4 ≤ n := by omega
  have Hn := Lib.hid hn; clear hn
  go_enter Tryz.func303, Tryz.ntmps303
  go_wp2_with fail
  go_loop [4, 5] (fun f i => ∃ (j z : Nat), i = .int .i64 z ∧ Hid (z = 2 * j) ∧ j ≤ prs.length ∧ f = .bool (allOne (prs.take j))) (fun _ i => n - (intOf i).toNat)
  case atStart => exact ⟨0, 0, rfl, rfl, by omega, rfl⟩
  case round =>
    obtain ⟨j, z, rfl, hz, hj, rfl⟩ := hrel
    by_cases hlt : j < prs.length
    · obtain ⟨c1, c2⟩ := HC.out j hlt
      have hf := Kfit.out prs[j] (List.getElem_mem _)
      have hzl : z + 1 < n := by have := hz.out; have := Hn.out; omega
      rw [← hz.out] at c1 c2
      have HT := Lib.hid (show allOne (prs.take (j + 1)) = (allOne (prs.take j) && (prs[j].2.length == 1)) from by
        unfold allOne
        rw [List.take_succ_eq_append_getElem hlt, List.all_append]; simp)
      generalize prs[j] = p at c1 c2 hf HT
      obtain ⟨o, n⟩ := p
      simp only at c1 c2 hf HT
      by_cases h1 : n.length = 1
      · have q1 : ((n.length : Int) != 1) = false := by rw [h1]; rfl
        have HT2 := Lib.hid (show allOne (prs.take (j + 1)) = allOne (prs.take j) from by rw [HT.out, h1]; simp)
        clear h1
        go_wp2_with fail
        go_round
        case rel => exact ⟨j + 1, z + 2, by go_num, by have := hz.out; exact Lib.hid (by omega), by omega, by rw [HT2.out]⟩
        case measure => simp [intOf]; omega
      · have q1 : ((n.length : Int) != 1) = true := by rw [bne_iff_ne]; omega
        have HT2 := Lib.hid (show allOne (prs.take (j + 1)) = false from by rw [HT.out]; simp; intro _; exact h1)
        clear h1
        go_wp2_with fail
        go_round
        case rel => exact ⟨j + 1, z + 2, by go_num, by have := hz.out; exact Lib.hid (by omega), by omega, by rw [HT2.out]⟩
        case measure => simp [intOf]; omega
    · obtain rfl : j = prs.length := by omega
      have hA : allOne (prs.take prs.length) = false := by
        rw [List.take_length]
        obtain ⟨p, hp, h1⟩ := Klong.out
        unfold allOne
        rw [Bool.eq_false_iff]
        intro h
        have := List.all_eq_true.1 h p hp
        simp at this; exact h1 this
      have hzl : ¬ z < n := by have := hz.out; have := Hn.out; omega
      rw [hA]
      clear hA
      obtain ⟨i0, hi0, hz0, hz1, hz2⟩ := info_parts infoStr
      have hmk := fun W => Go.run_make (P := Tryz.prog) W 55 9 i0 (.string ByteArray.empty) Tryz.underlying55 hi0 hz0 .i64 .i64 0 ((n : Int) / 2) (by omega) (by omega) (by rw [hz2]; omega) (by omega)
      rw [hz1] at hmk
      have hC0 := Lib.hid (size_madeCells (Value.string ByteArray.empty).cells (((n : Int) / 2).toNat * 1))
      generalize madeCells (Value.string ByteArray.empty).cells (((n : Int) / 2).toNat * 1) = C0 at hmk hC0
      clear hi0 hz0 hz1 hz2
      go_wp2_with fail
      have hsc : (storeCells ⟨w.heap.size + 1, 0, none⟩ (Tryz.zeroCells377.toList.set 256 (.slice (some ⟨w.heap.size, 0, none⟩) 0 (n / 2))) 0).run Tryz.prog ((w.alloc (.cells C0 9)).alloc (.cells Tryz.zeroCells377 377)) = .ok () ((w.alloc (.cells C0 9)).alloc (.cells (Tryz.zeroCells377.setIfInBounds 256 (.slice (some ⟨w.heap.size, 0, none⟩) 0 (n / 2))) 377)) := by
        have := run_storeCells_new (P := Tryz.prog) (w.alloc (.cells C0 9)) 377 Tryz.zeroCells377 (Tryz.zeroCells377.setIfInBounds 256 (.slice (some ⟨w.heap.size, 0, none⟩) 0 (n / 2))) (by kernel_rfl) (by kernel_rfl) (by kernel_rfl)
        rw [World.size_alloc, Array.toList_setIfInBounds] at this
        exact this
      simp only [hsc, Result.andThen]
      rw [Oper.upon_skip]
      clear hsc
      go_wp2_with fail
      have hZ : Tryz.zeroCells377 = Array.replicate 257 (.slice none 0 0) := by kernel_rfl
      rw [hZ]
      clear hZ hmk e2
      have hT0 : TabIs w w.heap.size ((Array.replicate 257 (Value.slice none 0 0)).setIfInBounds 256 (.slice (some ⟨w.heap.size, 0, none⟩) 0 (n / 2))) (look (prs.drop prs.length)) := fun c => by
        have hc := c.toNat_lt
        refine Or.inl ⟨by simp [look], ?_⟩
        rw [Array.getElem?_setIfInBounds, if_neg (by omega), Array.getElem?_replicate, if_pos (by omega)]
      have HT0 := Lib.hid hT0; clear hT0
      have HBk := Lib.hid (show Blk ((w.alloc (.cells C0 9)).alloc (.cells ((Array.replicate 257 (Value.slice none 0 0)).setIfInBounds 256 (.slice (some ⟨w.heap.size, 0, none⟩) 0 (n / 2))) 377)) (w.heap.size + 1) ((Array.replicate 257 (Value.slice none 0 0)).setIfInBounds 256 (.slice (some ⟨w.heap.size, 0, none⟩) 0 (n / 2))) 377 from by
        have := Blk.new (w.alloc (.cells C0 9)) ((Array.replicate 257 (Value.slice none 0 0)).setIfInBounds 256 (.slice (some ⟨w.heap.size, 0, none⟩) 0 (n / 2))) 377
        rw [World.size_alloc] at this; exact this)
      have hown0 : OwnT ((w.alloc (.cells C0 9)).alloc (.cells ((Array.replicate 257 (Value.slice none 0 0)).setIfInBounds 256 (.slice (some ⟨w.heap.size, 0, none⟩) 0 (n / 2))) 377)) w.heap.size (.slice (some ⟨w.heap.size, 0, none⟩) 0 (n / 2)) [] := by
        refine World.ownsRow.alloc ?_ _
        have h := World.ownsRow_made (base := w.heap.size) (e := 9) (size := 1) w C0 (n / 2) (Nat.le_refl _) (by unfold maxLen; omega) (by rw [hC0.out]; omega)
        exact h
      have HO0 := Lib.hid hown0; clear hown0
      have qT : ∀ (w : World) (a : Option Addr) (n c n' c' : Nat), (binOp .eql 126 (.slice a n c) (.slice none n' c')).run Tryz.prog w = .ok (.bool a.isNone) w := fun w a n c n' c' => Lib.run_eql_slice_nil w _ _ a n c n' c' Tryz.underlying126
      go_loopw [12] (fun i wr => ∃ (m : Nat) (z : Int) (cells : Array Value) (v : Value), i = .int .i64 z ∧ Hid (z = 2 * m - 2) ∧ m ≤ prs.length ∧ Blk wr (w.heap.size + 1) cells 377 ∧ Hid (cells.size = 257) ∧ TabIs wr w.heap.size cells (look (prs.drop m)) ∧ cells[256]? = some v ∧ OwnT wr w.heap.size v (((prs.drop m).map fun p => [p.1]).reverse) ∧ Below w.heap.size w wr) (fun i _ => (intOf i + 2).toNat)
      case atStart => exact ⟨prs.length, (n : Int) - 2, (Array.replicate 257 (Value.slice none 0 0)).setIfInBounds 256 (.slice (some ⟨w.heap.size, 0, none⟩) 0 (n / 2)), .slice (some ⟨w.heap.size, 0, none⟩) 0 (n / 2), rfl, by have := Hn.out; exact Lib.hid (by omega), Nat.le_refl _, HBk.out, Lib.hid (by simp), fun c => (HT0.out c).imp id (fun ⟨n, g, cap, h, _⟩ => by simp [look] at h), by rw [Array.getElem?_setIfInBounds, if_pos rfl, if_pos (by simp)], by simpa using HO0.out, ((Below.refl _ _).alloc (Nat.le_refl _) _).alloc (by simp) _⟩
      case round =>
        obtain ⟨m, z, cells, v, rfl, hz, hm, hbk2, hcs, htab, hc256, hown, B⟩ := hrel
        clear HT0 HBk HO0
        cases m with
        | zero =>
          have hz0 : z < 0 := by have := hz.out; omega
          go_wp2_with fail
          go_ret
          exact ⟨w.heap.size + 1, rfl, by omega, ⟨cells, v, hbk2, hcs.out, by rw [List.drop_zero] at htab; exact htab, hc256, by rw [List.drop_zero] at hown; exact hown⟩, B⟩
        | succ m =>
          obtain ⟨z, rfl⟩ : ∃ y : Nat, z = (y : Int) := ⟨2 * m, by have := hz.out; omega⟩
          have hz2 := Lib.hid (show z = 2 * m by have := hz.out; omega)
          have hzn : z + 1 < n := by have := hz2.out; have := Hn.out; omega
          obtain ⟨c1, c2⟩ := HC.out m (by omega)
          rw [← hz2.out] at c1 c2
          have c1 := (B.cell (p := ⟨bk, z, none⟩) hbk).trans c1
          have c2 := (B.cell (p := ⟨bk, z + 1, none⟩) hbk).trans c2
          have hf := Kfit.out prs[m] (List.getElem_mem _)
          have HL := Lib.hid (look_drop (show m < prs.length by omega))
          have HN := Lib.hid (look_none (show m < prs.length by omega) Knd.out)
          have HD := Lib.hid (show ((prs.drop m).map fun p => [p.1]).reverse = ((prs.drop (m + 1)).map fun p => [p.1]).reverse ++ [[prs[m].1]] from by rw [List.drop_eq_getElem_cons (show m < prs.length by omega), List.map_cons, List.reverse_cons])
          clear hz
          generalize prs[m] = p at c1 c2 hf HL HN HD
          obtain ⟨o, nw⟩ := p
          simp only at c1 c2 hf HL HN HD
          generalize hL1 : look (prs.drop (m + 1)) = f1 at htab HL HN
          generalize hK1 : ((prs.drop (m + 1)).map fun p => [p.1]).reverse = ks at hown HD
          have hkl : ks.length ≤ 100 := by rw [← hK1]; simp; omega
          clear hL1 hK1
          have hco : cells[o.toNat]? = some (.slice none 0 0) := by
            rcases htab o with h | ⟨n', g, cap', h, _⟩
            · exact h.2
            · rw [HN.out] at h; cases h
          have k1 := (hbk2.cell o.toNat).trans hco
          have k2' := (hbk2.cell 256).trans hc256
          have ho256 : (o.toNat : Int) < 256 := by have := o.toNat_lt; omega
          have hBs := B.size
          have hRlt := hbk2.lt
          have hown2 := OwnG.next hown (((Below.refl wr.heap.size wr).alloc (Nat.le_refl _) (.cells #[.int .u8 (o.toNat : Int)] 5)).alloc (by simp) (.cells #[.string ⟨#[o]⟩] 9))
          have hbk3 := (hbk2.alloc (.cells #[.int .u8 (o.toNat : Int)] 5)).alloc (.cells #[.string ⟨#[o]⟩] 9)
          have KP1 := Lib.hid (keep_below (((Below.refl wr.heap.size wr).alloc (Nat.le_refl _) (.cells #[.int .u8 (o.toNat : Int)] 5)).alloc (by simp) (.cells #[.string ⟨#[o]⟩] 9)))
          have hct := cellT2 wr o 5 9
          have hcv := fun w => run_bytes_of_string (P := Tryz.prog) w 9 126 5 ⟨nw.toArray⟩ Tryz.underlying9 Tryz.underlying126 Tryz.underlying5
          have hne := rowNe hown2 hbk3 (by decide)
          have HNe := Lib.hid hne; clear hne
          go_wp2_with (at_builtin; refine appG (α := Bs) (cs := strC) (size := 1) (z := .string ByteArray.empty) strC_len strC_one infoStr rfl (by decide) Tryz.underlying55 rfl _ _ rfl w.heap.size _ ks [[o]] ⟨wr.heap.size + 1, 0, none⟩ 1 1 rfl rfl hown2 rfl hct (by simp; omega) (by unfold maxLen; simp; omega) (by simp; omega) ?_; intro v' w4 hown4 hg4 hb4; have hbk4 := hbk3.grown hg4 HNe.out; have k4 := (hbk4.cell 256).trans hc256; have k5 := hbk4.free 256; obtain ⟨a4, cap4, hv4, _⟩ := OwnG.rd (by decide) strC_len hown4; subst hv4; have hbk5 := hbk4.set 256 (.slice a4 (ks.length + 1) cap4); have k6 := hbk5.get (o := o.toNat) hco o.toNat_lt; have k7 := hbk5.free o.toNat; have k8 := hbk4.lt; have k9 := hbk4.lt)
          have hR6 := hbk5.set o.toNat (.slice (some ⟨w4.heap.size, 0, none⟩) nw.length (grownCap (w4.setCell ⟨w.heap.size + 1, 256, none⟩ (.slice a4 (ks.length + 1) cap4)) nw.length 0 5))
          have KP2 := KP1.out.trans ((keep_grown hown2 hg4).trans ((keep_set hbk4 256 (.slice a4 (ks.length + 1) cap4)).trans (keep_set hbk5 o.toNat (.slice (some ⟨w4.heap.size, 0, none⟩) nw.length (grownCap (w4.setCell ⟨w.heap.size + 1, 256, none⟩ (.slice a4 (ks.length + 1) cap4)) nw.length 0 5)))))
          have hne4 := rowNe hown4 hbk4 (by decide)
          have hlt4 := rowLt hown4
          have B4 := ((B.alloc B.size (.cells #[.int .u8 (o.toNat : Int)] 5)).alloc (B.alloc B.size _).size (.cells #[.string ⟨#[o]⟩] 9)).trans hb4
          have B6 := (B4.setCell (p := ⟨w.heap.size + 1, 256, none⟩) (Nat.le_succ _) (.slice a4 (ks.length + 1) cap4)).setCell (p := ⟨w.heap.size + 1, o.toNat, none⟩) (Nat.le_succ _) (.slice (some ⟨w4.heap.size, 0, none⟩) nw.length (grownCap (w4.setCell ⟨w.heap.size + 1, 256, none⟩ (.slice a4 (ks.length + 1) cap4)) nw.length 0 5))
          have hrow := byteRow_conv ((w4.setCell ⟨w.heap.size + 1, 256, none⟩ (.slice a4 (ks.length + 1) cap4)).setCell ⟨w.heap.size + 1, o.toNat, none⟩ (.slice (some ⟨w4.heap.size, 0, none⟩) nw.length (grownCap (w4.setCell ⟨w.heap.size + 1, 256, none⟩ (.slice a4 (ks.length + 1) cap4)) nw.length 0 5))) nw (grownCap (w4.setCell ⟨w.heap.size + 1, 256, none⟩ (.slice a4 (ks.length + 1) cap4)) nw.length 0 5) 5
          rw [World.size_setCell, World.size_setCell] at hrow
          have hz3 := hz2.out
          go_roundw
          case rel =>
            refine ⟨m, (z : Int) - 2, (cells.setIfInBounds 256 (.slice a4 (ks.length + 1) cap4)).setIfInBounds o.toNat (.slice (some ⟨w4.heap.size, 0, none⟩) nw.length (grownCap (w4.setCell ⟨w.heap.size + 1, 256, none⟩ (.slice a4 (ks.length + 1) cap4)) nw.length 0 5)), .slice a4 (ks.length + 1) cap4, rfl, Lib.hid (by omega), by omega, (hR6.alloc _).drew, Lib.hid (by simpa using hcs.out), ?_, ?_, ?_, (B6.alloc B6.size _).drew⟩
            · rw [HL.out]
              exact ((htab.keep (KP2.trans (keep_below (((Below.refl _ _).alloc (Nat.le_refl _) _).drew)))).put hcs.out o nw w4.heap.size _ B4.size hf.1 hrow _)
            · rw [Array.getElem?_setIfInBounds, if_neg (by omega), Array.getElem?_setIfInBounds, if_pos rfl, if_pos (by rw [hcs.out]; omega)]
            · rw [HD.out]
              have h := rowKeep (w' := ((w4.setCell ⟨w.heap.size + 1, 256, none⟩ (.slice a4 (ks.length + 1) cap4)).setCell ⟨w.heap.size + 1, o.toNat, none⟩ (.slice (some ⟨w4.heap.size, 0, none⟩) nw.length (grownCap (w4.setCell ⟨w.heap.size + 1, 256, none⟩ (.slice a4 (ks.length + 1) cap4)) nw.length 0 5)))) hown4 (fun g hg => (Below.heap_setCell _ ⟨w.heap.size + 1, o.toNat, none⟩ _ g (hne4 g hg)).trans (Below.heap_setCell _ ⟨w.heap.size + 1, 256, none⟩ _ g (hne4 g hg)))
              rw [show Value.slice a4 (ks ++ [[o]]).length cap4 = .slice a4 (ks.length + 1) cap4 from by simp] at h
              exact rowNext h (((Below.refl _ _).alloc (Nat.le_refl _) _).drew)
          case measure => simp [intOf]; omega
end Go.Proofs.YtignjjnflcpiiaaGreatDoor
