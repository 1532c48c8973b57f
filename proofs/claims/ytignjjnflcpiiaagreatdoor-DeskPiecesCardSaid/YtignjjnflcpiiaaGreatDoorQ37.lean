/- A line's words: strings.FieldsFunc at the blank; how much they come to. Condition: so many bytes; desk's line. Condition: what the variables hold; so many bytes; A range over a function whose iterator keeps its state in cells of its own: the statement's law; the body never leaves the loop. No condit. -/
import Derived.Lib.FieldsP
import Derived.LoopIn
import Derived.LoopNIn
import Derived.OwnWalkIn
import Derived.RangeFuncBound
import Derived.RangeFuncCalls
import Derived.RangeFuncLeaves
import Derived.RangeFuncNested
import Derived.TacticsInMore
import Derived.Test.YtignjjnflcpiiaaGreatDoorQ36
namespace Go.Proofs.YtignjjnflcpiiaaGreatDoor
open Go Go.RowKit
theorem wordsF_run : ∀ (t cur r : Bs), (∀ c ∈ t, c ≠ 32) → wordsF cur (t ++ r) = wordsF (cur ++ t) r
  | [], cur, r, _ => by simp
  | c :: t, [], r, h => by
    show wordsF [] (c :: (t ++ r)) = _
    rw [wordsF, if_neg (h c (by simp))]
    have := wordsF_run t [c] r (fun x hx => h x (by simp [hx]))
    simpa using this
  | c :: t, x :: l, r, h => by
    show wordsF (x :: l) (c :: (t ++ r)) = _
    rw [wordsF, if_neg (h c (by simp))]
    have := wordsF_run t (x :: l ++ [c]) r (fun x hx => h x (by simp [hx]))
    simpa using this
def blankP (r : Nat) : Bool := r == 32
def pieceT (s : Bs) (x : Nat × Nat) : Bs := (s.drop x.1).take (x.2 - x.1)
def curT (s : Bs) (pos : Nat) : Option Nat → Bs
  | some a => pieceT s (a, pos)
  | none => []
theorem piece_more (s : Bs) (a pos k : Nat) (h : a ≤ pos) : pieceT s (a, pos + k) = pieceT s (a, pos) ++ (s.drop pos).take k := by
  unfold pieceT
  simp only
  rw [show pos + k - a = (pos - a) + k by omega, List.take_add, List.drop_drop, show a + (pos - a) = pos by omega]
theorem spans_words (s : Bs) : ∀ (f pos : Nat) (st : Option Nat) (acc : List (Nat × Nat)), s.length ≤ pos + f → pos ≤ s.length → (∀ a, st = some a → a < pos) →
    (Lib.closeSpans ⟨s.toArray⟩ (Lib.spansFromP blankP ⟨s.toArray⟩ f pos st acc)).map (pieceT s) = acc.map (pieceT s) ++ wordsF (curT s pos st) (s.drop pos) := by
  have hsz : (⟨s.toArray⟩ : ByteArray).size = s.length := by simp [ByteArray.size]
  have hend : ∀ (pos : Nat) (st : Option Nat) (acc : List (Nat × Nat)), pos = s.length → (∀ a, st = some a → a < pos) → (Lib.closeSpans ⟨s.toArray⟩ (acc, st)).map (pieceT s) = acc.map (pieceT s) ++ wordsF (curT s pos st) (s.drop pos) := by
    intro pos st acc hp hst
    rw [List.drop_of_length_le (by omega)]
    cases st with
    | none => simp [Lib.closeSpans, curT, wordsF]
    | some a =>
      have ha := hst a rfl
      have hl : (pieceT s (a, pos)).length = pos - a := by unfold pieceT; simp; omega
      simp only [Lib.closeSpans, curT, hsz, ← hp]
      cases hq : pieceT s (a, pos) with
      | nil => rw [hq] at hl; simp at hl; omega
      | cons x l => rw [wordsF]; simp [hq]
  intro f
  induction f with
  | zero =>
    intro pos st acc h1 h2 h3
    exact hend pos st acc (by omega) h3
  | succ f ih =>
    intro pos st acc h1 h2 h3
    unfold Lib.spansFromP
    rw [hsz]
    by_cases hlt : pos < s.length
    case neg => rw [if_neg hlt]; exact hend pos st acc (by omega) h3
    rw [if_pos hlt]
    have hw : ∃ k, (Utf8.decode ⟨s.toArray⟩ pos).2 = k ∧ 1 ≤ k ∧ pos + k ≤ s.length ∧ ((blankP (Utf8.decode ⟨s.toArray⟩ pos).1 = true ∧ k = 1 ∧ s[pos] = 32) ∨ (blankP (Utf8.decode ⟨s.toArray⟩ pos).1 = false ∧ ∀ c ∈ (s.drop pos).take k, c ≠ 32)) := by
      by_cases hc : s[pos].toNat < 128
      · rw [decode_lo s pos hlt hc]
        refine ⟨1, rfl, by omega, by omega, ?_⟩
        by_cases h32 : s[pos] = 32
        · left
          exact ⟨by rw [h32]; rfl, rfl, h32⟩
        · right
          refine ⟨?_, fun c hcm => ?_⟩
          · show (s[pos].toNat == 32) = false
            rw [beq_eq_false_iff_ne]
            intro e
            exact h32 (UInt8.toNat_inj.1 (by rw [e]; rfl))
          · obtain ⟨i, hi, rfl⟩ := List.getElem_of_mem hcm
            simp only [List.length_take, List.length_drop] at hi
            obtain rfl : i = 0 := by omega
            rw [List.getElem_take, List.getElem_drop]
            exact h32
      · obtain ⟨d1, d2, d3⟩ := decode_hi s pos hlt (by omega)
        refine ⟨_, rfl, Lib.width_pos _ _, d2, Or.inr ⟨?_, fun c hcm => ?_⟩⟩
        · show (_ == 32) = false
          rw [beq_eq_false_iff_ne]
          omega
        · obtain ⟨i, hi, rfl⟩ := List.getElem_of_mem hcm
          simp only [List.length_take, List.length_drop] at hi
          have := d3 (pos + i) (by omega) (by omega) (by omega)
          rw [List.getElem_take, List.getElem_drop]
          intro e
          rw [e] at this
          exact absurd this (by decide)
    obtain ⟨k, hk, hk1, hk2, hcase⟩ := hw
    rw [hk]
    rcases hcase with ⟨c1, rfl, c3⟩ | ⟨c1, c2⟩
    · rw [if_pos c1]
      cases st with
      | none =>
        simp only
        rw [ih (pos + 1) none acc (by omega) (by omega) (fun a h => by cases h), List.drop_eq_getElem_cons hlt, c3]
        simp only [curT]
        rw [wordsF, if_pos rfl]
      | some a =>
        have ha := h3 a rfl
        have hl : (pieceT s (a, pos)).length = pos - a := by unfold pieceT; simp; omega
        simp only
        rw [ih (pos + 1) none _ (by omega) (by omega) (fun a h => by cases h), List.drop_eq_getElem_cons hlt, c3]
        simp only [curT]
        cases hq : pieceT s (a, pos) with
        | nil => rw [hq] at hl; simp at hl; omega
        | cons x l =>
          rw [wordsF, if_pos rfl]
          simp [hq]
    · rw [if_neg (by rw [c1]; decide)]
      have hdr : s.drop pos = (s.drop pos).take k ++ s.drop (pos + k) := by rw [← List.drop_drop, List.take_append_drop]
      cases st with
      | none =>
        simp only
        rw [ih (pos + k) (some pos) acc (by omega) (by omega) (fun a h => by injection h; omega), hdr, wordsF_run _ _ _ c2]
        simp only [curT]
        rw [piece_more s pos pos k (Nat.le_refl _)]
        simp [pieceT]
      | some a =>
        have ha := h3 a rfl
        simp only
        rw [ih (pos + k) (some a) acc (by omega) (by omega) (fun a' h => by injection h; omega), hdr, wordsF_run _ _ _ c2]
        simp only [curT]
        rw [piece_more s a pos k (by omega)]
theorem fields_words (s : Bs) : Lib.goFieldsP blankP ⟨s.toArray⟩ = (wordsT s).map fun x => ⟨x.toArray⟩ := by
  have h := spans_words s s.length 0 none [] (by omega) (by omega) (fun a h => by cases h)
  have hsz : (⟨s.toArray⟩ : ByteArray).size = s.length := by simp [ByteArray.size]
  simp only [List.map_nil, List.nil_append, List.drop_zero, curT] at h
  unfold Lib.goFieldsP Lib.spansOfP wordsT
  rw [← h, hsz, List.map_map]
  refine List.map_congr_left fun x _ => ?_
  rw [ba_extract]
  rfl
theorem wordsF_sum : ∀ (s cur : Bs), ((wordsF cur s).map List.length).sum + (wordsF cur s).length ≤ cur.length + s.length + 1
  | [], [] => by simp [wordsF]
  | [], x :: l => by simp [wordsF]
  | c :: s, [] => by
    unfold wordsF
    split
    · have := wordsF_sum s []; simp at this ⊢; omega
    · have := wordsF_sum s [c]; simp at this ⊢; omega
  | c :: s, x :: l => by
    unfold wordsF
    split
    · have := wordsF_sum s []; simp at this ⊢; omega
    · have := wordsF_sum s (x :: l ++ [c]); simp at this ⊢; omega
theorem words_sum (s : Bs) : ((wordsT s).map List.length).sum + (wordsT s).length ≤ s.length + 1 := by
  have := wordsF_sum s []
  simpa [wordsT] using this
theorem mem_sum {x : Bs} : ∀ {l : List Bs}, x ∈ l → x.length ≤ (l.map List.length).sum
  | y :: l, h => by
    rw [List.map_cons, List.sum_cons]
    rcases List.mem_cons.1 h with rfl | h
    · omega
    · have := mem_sum h
      omega
theorem blank_len {l : List Bs} {n : Nat} (h : (l.map List.length).sum + l.length ≤ n) : (blankT l).length ≤ n ∧ l.length ≤ n ∧ ∀ x ∈ l, x.length ≤ n := by
  have h1 := join_len l [32]
  refine ⟨?_, by omega, fun x hx => ?_⟩
  · unfold blankT
    simp at h1
    omega
  · have := mem_sum hx
    omega
set_option maxHeartbeats 8000000 in
set_option maxRecDepth 100000 in
theorem line2_any (x : Nat) (_hx : x ≤ 1114111) (W : World) : Calls Tryz.prog 133 #[.int .i32 (x : Int)] W fun e w' => e = .returned (.bool (blankP x)) ∧ W = w' := by
  have HB := Lib.hid (show blankP x = ((x : Int) == 32) from by unfold blankP; rw [Bool.eq_iff_iff]; simp; omega)
  go_enter Tryz.func133, Tryz.ntmps133
  go_wp2_with fail
  go_ret
  exact ⟨by rw [HB.out]; rfl, rfl⟩
theorem line2_grows (w : World) : PredGrows Tryz.prog 133 #[] blankP w := fun W x hx _ =>
  (line2_any x hx W).mono fun _ _ ⟨h1, h2⟩ => ⟨h1, h2 ▸ Below.refl _ _⟩
theorem fields_any (s : Bs) (w : World) (hs : s.length ≤ 1000000000) :
    Calls Tryz.prog 132 #[.string ⟨s.toArray⟩, .func (.func 133) #[] #[]] w fun e w' => (∃ bk, e = .returned (.slice (some ⟨bk, 0, none⟩) (wordsT s).length (wordsT s).length) ∧ bk < w'.heap.size ∧ ∀ (j : Nat) x, (wordsT s)[j]? = some x → w'.cell? ⟨bk, j, none⟩ = some (.string ⟨x.toArray⟩)) ∧ Below w.heap.size w w' := by
  refine (Tryz.strings_FieldsFunc_grows 133 #[] (enters_of Tryz.func133 (by kernel_rfl) rfl) blankP ⟨s.toArray⟩ w (by simp [ByteArray.size]; omega) (line2_grows w)).mono ?_
  rintro e w' ⟨bk, rfl, _, hown, hb⟩
  rw [fields_words, List.length_map] at hown ⊢
  refine ⟨⟨bk, rfl, ?_, fun j x hx => ?_⟩, hb⟩
  · rcases hown.2 with ⟨h, _⟩ | ⟨g, cap, cur, hv, _, hg, _⟩
    · cases h
    · injection hv with h1
      injection h1 with h1
      injection h1 with h1
      subst h1
      rcases Nat.lt_or_ge bk w'.heap.size with h | h
      · exact h
      · simp [Array.getElem?_eq_none h] at hg
  · have := hown.cells (g := bk) rfl j (.string ⟨x.toArray⟩) (by simp [hx])
    by_cases hj0 : j = 0
    · subst hj0; simpa [Go.Addr.add] using this
    · simpa [Go.Addr.add, hj0] using this
theorem fnEq (k : Nat) (a b : Array Value) (w : World) : (binOp .eql 203 (.func (.func k) a b) .nilFunc).run Tryz.prog w = .ok (.bool false) w := by kernel_rfl
theorem fnEqNil (w : World) : (binOp .eql 203 .nilFunc .nilFunc).run Tryz.prog w = .ok (.bool true) w := by kernel_rfl
theorem door_idle {R : Ending → World → Prop} (tmps : Array Value) (b : Nat) (s : Bs) (w : World) (h4 : tmps[4]? = some (.pointer (some ⟨b, 0, none⟩))) (hk : Blk w b #[.string ⟨s.toArray⟩] 9) (h : R (.returned (.string ⟨s.toArray⟩)) w) :
    Leaves Tryz.prog Tryz.f79 tmps R [{ target := .fn (.func 131) #[.pointer (some ⟨b, 0, none⟩)], args := #[] }] .returning w := by
  refine leaves_cons (f := 131) (args := #[.pointer (some ⟨b, 0, none⟩)]) (by simp) (by simp [go_sem]) ?_
  refine (idle_any ⟨b, 0, none⟩ w).mono ?_
  rintro e u' w'' ⟨rfl, rfl, rfl⟩
  have kc : w''.cell? ⟨b, 0, none⟩ = some (.string ⟨s.toArray⟩) := hk.cell 0
  refine ⟨.string ⟨s.toArray⟩, ?_, h⟩
  simp [results, Tryz.results79, go_sem, h4, kc]
theorem door_thrown {R : Ending → World → Prop} (tmps : Array Value) (b : Nat) (c : Int) (old : Value) (w : World) (h4 : tmps[4]? = some (.pointer (some ⟨b, 0, none⟩))) (hk : Blk w b #[old] 9) (hg : Gz w) (hc : 0 ≤ c ∧ c ≤ 1000)
    (h : ∀ w', Blk w' b #[.string ⟨(errT c).toArray⟩] 9 → KeepX (fun k => k < w.heap.size ∧ k ≠ b) w w' → R (.returned (.string ⟨(errT c).toArray⟩)) w') :
    Leaves Tryz.prog Tryz.f79 tmps R [{ target := .fn (.func 131) #[.pointer (some ⟨b, 0, none⟩)], args := #[] }] (.panicking [{ v := .iface 199 (.agg #[.int .i64 c]), recovered := false }]) w := by
  refine leaves_cons (f := 131) (args := #[.pointer (some ⟨b, 0, none⟩)]) (by simp) (by simp [go_sem]) ?_
  refine (caught_any b c old w hk hg hc.1 hc.2).mono ?_
  rintro e u' w' ⟨rfl, rfl, hk', K⟩
  have kc : w'.cell? ⟨b, 0, none⟩ = some (.string ⟨(errT c).toArray⟩) := hk'.cell 0
  refine ⟨.string ⟨(errT c).toArray⟩, ?_, h w' hk' K⟩
  simp [results, Tryz.results79, go_sem, h4, kc]
theorem keepSet {X : Nat → Prop} {w w2 : World} {b : Nat} {u : Value} (h : KeepX X w w2) (hX : ∀ k, X k → k ≠ b) : KeepX X w (w2.setCell ⟨b, 0, none⟩ u) :=
  ⟨h.os, h.tape, h.output, by have := h.size; simpa [World.setCell] using this, fun k hk => (heap_set _ _ _ k (hX k hk)).trans (h.block k hk)⟩
set_option maxHeartbeats 16000000 in
set_option maxRecDepth 100000 in
theorem dline_any (X : Nat → Prop) (d : Nat) (dk : Dsk) (s : Bs) (w : World) (hX : ∀ k, X k → k < w.heap.size) (hXg : ∀ k, k ≤ 8 → X k) (hD : DeskM X w d dk) (hg : Gz w) (hs : s.length ≤ 900000) (hsd : dk.said.length ≤ 1000000) :
    Calls Tryz.prog 79 #[.pointer (some ⟨d, 0, none⟩), .string ⟨s.toArray⟩] w fun e w' => e = .returned (.string ⟨(lineD dk s).2.toArray⟩) ∧ DeskM X w' d (lineD dk s).1 ∧ KeepX X w w' := by
  have hmf : ∀ (fn : Fn) (first cap : Array Value) (w : World), (Instr.makeFunc fn first cap).run Tryz.prog w = .ok (.func fn first cap) w := fun _ _ _ _ => rfl
  have B0 := (Below.refl w.heap.size w).alloc (Nat.le_refl _) (Obj.cells #[.string ⟨#[]⟩] 9)
  have hk1 : Blk (w.alloc (.cells #[.string ⟨#[]⟩] 9)) w.heap.size #[.string ⟨#[]⟩] 9 := Blk.new w _ _
  have hD0 : DeskM (fun k => X k ∨ k = w.heap.size) w d dk := hD.weak (fun k hk h => h.elim id (fun e => by omega))
  have hD1 := hD0.next B0
  have hg1 := hg.next B0
  have hsz1 : (w.alloc (.cells #[.string ⟨#[]⟩] 9)).heap.size = w.heap.size + 1 := Array.size_push _
  have hF := fields_any s (w.alloc (.cells #[.string ⟨#[]⟩] 9)) (by omega)
  have hbl := blank_len (Nat.le_trans (words_sum s) (Nat.succ_le_succ hs))
  have HN := Lib.hid (show lineD dk s = match wordsT s with
    | [] => (dk, [111, 107])
    | n :: w => ((doesD dk n w).1, ansT (doesD dk n w).2) from rfl)
  go_enter_defers Tryz.func79, Tryz.ntmps79
  go_wp2_with fail
  with_reducible refine hF.mono ?_
  generalize w.alloc (.cells #[.string ⟨#[]⟩] 9) = w1 at B0 hk1 hD1 hg1 hsz1
  rintro e w2 ⟨⟨bk, rfl, hbk, hcl⟩, b2⟩
  have B2 := B0.trans (b2.mono (by omega))
  have hD2 := hD1.next b2
  have hk2 := hk1.next b2 hk1.lt
  have hg2 := hg1.next b2
  have hlt : w.heap.size < w1.heap.size := by omega
  clear hF hD0 hD1 hk1 hg1
  have kc := hk2.cell
  have kf := hk2.free
  cases hwd : wordsT s with
  | nil =>
    rw [hwd] at HN hcl
    clear hbl
    go_wp2_with fail
    refine door_idle _ w.heap.size [111, 107] _ rfl (by simpa using hk2.set 0 (.string ⟨#[111, 107]⟩)) ⟨by rw [HN.out], ?_, keepSet (KeepX.of hX B2) (fun k hk => by have := hX k hk; omega)⟩
    rw [HN.out]
    exact (hD2.keep (by simp [World.setCell]) (fun k hk _ => heap_set _ _ _ k (fun e => hk (Or.inr e)))).weak (fun k _ h => Or.inl h)
  | cons n l =>
    rw [hwd] at HN hcl hbl
    have hc0 : w2.cell? ⟨bk, 0, none⟩ = some (.string ⟨n.toArray⟩) := hcl 0 n rfl
    have hbl2 : (blankT l).length ≤ 1000000 ∧ l.length ≤ 1000000 ∧ ∀ x ∈ l, x.length ≤ 1000000 := by
      have h0 := words_sum s
      rw [hwd] at h0
      simp only [List.map_cons, List.sum_cons, List.length_cons] at h0
      exact blank_len (by omega)
    have hM := does_any (.pointer (some ⟨d, 0, none⟩)) n w2
    have hcmd := cmd_any d dk n l
    have herr := doesD_err dk n l
    have HN : Hid (lineD dk s = ((doesD dk n l).1, ansT (doesD dk n l).2)) := HN
    have HCL := Lib.hid hcl
    have hz : ((l.length : Int) + 1 == 0) = false := by rw [beq_eq_false_iff_ne]; omega
    clear hcl hbl
    go_wp2_with fail
    with_reducible refine hM.mono ?_
    rintro e w3 ⟨rfl, b3⟩
    have B3 := B2.trans (b3.mono B2.size)
    have hD3 := hD2.next b3
    have hk3 := hk2.next b3 hk2.lt
    have hg3 := hg2.next b3
    have hs3 := b3.size
    have hs2 := b2.size
    have hX3 : ∀ k, (X k ∨ k = w.heap.size) → k < w3.heap.size := fun k hk => by
      rcases hk with hk | hk
      · have := hX k hk; omega
      · omega
    have HW := Lib.hid (show ∀ j x, l[j]? = some x → w3.cell? ⟨bk, 1 + j, none⟩ = some (.string ⟨x.toArray⟩) from fun j x hx => by
      have := HCL.out (j + 1) x (by simpa using hx)
      rw [Nat.add_comm] at this
      exact (b3.cell (p := ⟨bk, 1 + j, none⟩) hbk).trans this)
    clear hM kc kf hk2 hD2 hg2 HCL hc0
    rcases hcmd with ⟨k, hlk, eg, hC⟩ | ⟨hlk, hno⟩
    · rw [hlk]
      have hq := fnEq k
      simp only [Option.getD_some]
      cases l with
      | nil =>
        have HR : RdW w3 (.slice (some ⟨bk, 0, none⟩) 0 0) [] := ⟨bk, 0, 0, rfl, by omega, Nat.le_refl _, fun j x hx => by simp at hx⟩
        simp only [List.length_nil] at hz
        go_wp2_with fail
        with_reducible refine (hC (fun k => X k ∨ k = w.heap.size) _ w3 ⟨hX3, fun k hk => Or.inl (hXg k hk), hD3, HR, hbl2.1, hbl2.2.1, hbl2.2.2, hg3, hsd⟩).mono ?_
        rintro e w4 ⟨ha, hD4, K4⟩
        have hk4 : Blk w4 w.heap.size #[.string ⟨#[]⟩] 9 := (K4.block _ (Or.inr rfl)).trans hk3
        have hg4 : Gz w4 := hg3.keepX (fun k hk => Or.inl (hXg k hk)) K4
        have KX : KeepX X w w4 := (KeepX.of hX B3).trans ⟨K4.os, K4.tape, K4.output, K4.size, fun k hk => K4.block k (Or.inl hk)⟩
        have kc4 := hk4.cell
        have kf4 := hk4.free
        generalize doesD dk n [] = r at ha hD4 herr HN
        obtain ⟨dk', a⟩ := r
        clear hC eg hq HR
        cases a with
        | ok t =>
          obtain rfl := ha
          go_wp2_with fail
          refine door_idle _ w.heap.size t _ rfl (by simpa using hk4.set 0 (.string ⟨t.toArray⟩)) ⟨by rw [HN.out]; rfl, ?_, keepSet KX (fun k hk => by have := hX k hk; omega)⟩
          rw [HN.out]
          exact (hD4.keep (by simp [World.setCell]) (fun k hk _ => heap_set _ _ _ k (fun e => hk (Or.inr e)))).weak (fun k _ h => Or.inl h)
        | error c =>
          obtain rfl := ha
          unfold thrown
          refine door_thrown _ w.heap.size c _ w4 rfl hk4 hg4 (herr c rfl) fun w5 _ K5 => ⟨by rw [HN.out]; rfl, ?_, ?_⟩
          · rw [HN.out]
            exact (hD4.keep K5.size (fun k hk hl => K5.block k ⟨hl, fun e => hk (Or.inr e)⟩)).weak (fun k _ h => Or.inl h)
          · exact KX.trans ⟨K5.os, K5.tape, K5.output, K5.size, fun k hk => K5.block k ⟨Nat.lt_of_lt_of_le (hX k hk) KX.size, fun e => by have := hX k hk; omega⟩⟩
      | cons x l =>
        have HR : RdW w3 (.slice (some ⟨bk, 1, none⟩) (l.length + 1) (l.length + 1)) (x :: l) := ⟨bk, 1, _, rfl, by omega, Nat.le_refl _, HW.out⟩
        simp only [List.length_cons] at hz
        go_wp2_with fail
        with_reducible refine (hC (fun k => X k ∨ k = w.heap.size) _ w3 ⟨hX3, fun k hk => Or.inl (hXg k hk), hD3, HR, hbl2.1, hbl2.2.1, hbl2.2.2, hg3, hsd⟩).mono ?_
        rintro e w4 ⟨ha, hD4, K4⟩
        have hk4 : Blk w4 w.heap.size #[.string ⟨#[]⟩] 9 := (K4.block _ (Or.inr rfl)).trans hk3
        have hg4 : Gz w4 := hg3.keepX (fun k hk => Or.inl (hXg k hk)) K4
        have KX : KeepX X w w4 := (KeepX.of hX B3).trans ⟨K4.os, K4.tape, K4.output, K4.size, fun k hk => K4.block k (Or.inl hk)⟩
        have kc4 := hk4.cell
        have kf4 := hk4.free
        generalize doesD dk n (x :: l) = r at ha hD4 herr HN
        obtain ⟨dk', a⟩ := r
        clear hC eg hq HR
        cases a with
        | ok t =>
          obtain rfl := ha
          go_wp2_with fail
          refine door_idle _ w.heap.size t _ rfl (by simpa using hk4.set 0 (.string ⟨t.toArray⟩)) ⟨by rw [HN.out]; rfl, ?_, keepSet KX (fun k hk => by have := hX k hk; omega)⟩
          rw [HN.out]
          exact (hD4.keep (by simp [World.setCell]) (fun k hk _ => heap_set _ _ _ k (fun e => hk (Or.inr e)))).weak (fun k _ h => Or.inl h)
        | error c =>
          obtain rfl := ha
          unfold thrown
          refine door_thrown _ w.heap.size c _ w4 rfl hk4 hg4 (herr c rfl) fun w5 _ K5 => ⟨by rw [HN.out]; rfl, ?_, ?_⟩
          · rw [HN.out]
            exact (hD4.keep K5.size (fun k hk hl => K5.block k ⟨hl, fun e => hk (Or.inr e)⟩)).weak (fun k _ h => Or.inl h)
          · exact KX.trans ⟨K5.os, K5.tape, K5.output, K5.size, fun k hk => K5.block k ⟨Nat.lt_of_lt_of_le (hX k hk) KX.size, fun e => by have := hX k hk; omega⟩⟩
    · rw [hlk]
      have hq := fnEqNil
      have hMe := must_err (.iface 30 (.int .i64 3)) 3 w3 (Or.inl rfl) hg3.r
      unfold thrown at hMe
      simp only [Option.getD_none]
      go_wp2_with fail
      with_reducible refine hMe.mono ?_
      rintro e w4 ⟨rfl, b4⟩
      refine door_thrown _ w.heap.size 3 _ w4 rfl (hk3.next b4 hk3.lt) (hg3.next b4) (by decide) fun w5 _ K5 => ?_
      rw [HN.out, hno]
      refine ⟨rfl, ?_, ?_⟩
      · exact ((hD3.next b4).keep K5.size (fun k hk hl => K5.block k ⟨hl, fun e => hk (Or.inr e)⟩)).weak (fun k _ h => Or.inl h)
      · have B4 := B3.trans (b4.mono B3.size)
        exact (KeepX.of hX B4).trans ⟨K5.os, K5.tape, K5.output, K5.size, fun k hk => K5.block k ⟨Nat.lt_of_lt_of_le (hX k hk) B4.size, fun e => by have := hX k hk; omega⟩⟩
abbrev Stp (c l : Nat) (A B : World) : Prop := KeepX (fun k => k < A.heap.size ∧ k ≠ c ∧ k ≠ l) A B
theorem Stp.putObj {c l : Nat} (A : World) (o : Obj) : Stp c l A (A.putObj l o) :=
  ⟨rfl, rfl, rfl, (grownBy_putObj' A l o).size, fun _ hk => World.putObj_heap_other hk.2.2⟩
def Rounds {α : Type} (l : Nat) (enc : α → Value) (xs : List α) (C : Nat → Prop) (m : Nat) (J : List α → World → Prop) : Prop :=
  ∀ pre x W, J pre W → (pre ++ [x]) <+: xs → YieldAt Fence.wide m Tryz.prog l #[enc x] W fun e W' => e = .returned (.bool true) ∧ J (pre ++ [x]) W' ∧ KeepX C W W'
def SeqC {α : Type} (n gf : Nat) (lb : Array Value) (enc : α → Value) (xs : List α) (c : Nat) (C : Nat → Prop) (w : World) : Prop :=
  ∀ (l : Nat) (J : List α → World → Prop) (W : World), Below w.heap.size w W → w.heap.size ≤ l → l < W.heap.size → (∀ pre A B, J pre A → Stp c l A B → B.heap[l]? = A.heap[l]? → J pre B) → Rounds l enc xs C (n - 1) J → J [] W →
    CallsIn Fence.wide n Tryz.prog gf (#[.func (.yield l) #[] #[]] ++ lb) W fun e W' => (∃ v, e = .returned v) ∧ J xs W'
theorem range_cells {α : Type} {g : Operand} {p : Tmp} {assign body : Code} {Q : Exit → Act → World → Prop} {a : Act} {w : World} {n : Nat} {gf : Nat} {lb : Array Value} (hg : a.eval g = .func (.func gf) #[] lb) (eg : ∀ args w, (callFunc gf args).run Tryz.prog w = .ok (.enter gf args) w)
    {enc : α → Value} {xs : List α} {c : Nat} {C : Nat → Prop} (hC : ∀ k, C k → k < w.heap.size) (hseq : SeqC (n - 1) gf lb enc xs c C w) (hcw : c < w.heap.size)
    (I : List α → World → Prop) (hI : ∀ pre A B, I pre A → Stp c (w.heap.size + 1) A B → I pre B) (h0 : ∀ W, Below w.heap.size w W → w.heap.size + 2 ≤ W.heap.size → I [] W) (a₁ : α → Act)
    (hassign : ∀ (x : α) (W : World) (K : Act → World → Prop), K (a₁ x) W → assign.wpIn (Fence.wide.inRound (w.heap.size + 1)) (n - 1 - 1) Tryz.prog (Exit.then K (fun _ _ _ => False)) { tmps := (#[p].zip #[enc x]).foldl (fun t (p, v) => t.setIfInBounds p v) a.tmps, defers := [] } W)
    (hbody : ∀ (pre : List α) (x : α) (W : World), I pre W → (pre ++ [x]) <+: xs → body.wpIn (Fence.wide.inRound (w.heap.size + 1)) (n - 1 - 1) Tryz.prog
      (fun e _ W' => e = .normal ∧ I (pre ++ [x]) W' ∧ KeepX (fun k => k = w.heap.size ∨ k = w.heap.size + 1 ∨ C k) W W') (a₁ x) W)
    (hdone : ∀ (W : World), I xs W → W.heap[w.heap.size]? = some (.deferred (some [])) → Q .normal { a with defers := { target := .collected w.heap.size, args := #[] } :: a.defers } W) :
    (Code.rangeFunc g #[p] assign body).wpIn Fence.wide n Tryz.prog Q a w := by
  refine wpIn_rangeFunc ?_
  intro fn hfn
  obtain ⟨rec, hrec⟩ : ∃ rec : LoopState → Loop, rec = fun st => { state := st, pending := none, fn, tmps := a.tmps, params := #[p], assign, body, defers := w.heap.size } := ⟨_, rfl⟩
  obtain ⟨W1, hW1⟩ : ∃ W1, (w.alloc (.deferred (some []))).alloc (.loop (rec .ready)) = W1 := ⟨_, rfl⟩
  have hB1 : Below w.heap.size w W1 := by rw [← hW1]; exact ((Below.refl _ w).alloc (Nat.le_refl _) _).alloc (by simp) _
  have hs1 : W1.heap.size = w.heap.size + 2 := by rw [← hW1, World.size_alloc, World.size_alloc]
  have hL1 : W1.heap[w.heap.size + 1]? = some (.loop (rec .ready)) := by
    rw [← hW1]; have := World.alloc_heap_new (w.alloc (.deferred (some []))) (.loop (rec .ready)); rwa [World.size_alloc] at this
  have hK1 : W1.heap[w.heap.size]? = some (.deferred (some [])) := by
    rw [← hW1]; exact (Below.heap_alloc _ _ _ (by simp)).trans (World.alloc_heap_new w _)
  refine ⟨w.heap.size + 1, [{ target := .collected w.heap.size, args := #[] }], W1, { target := .fn (.func gf) lb, args := #[.func (.yield (w.heap.size + 1)) #[] #[]] }, W1, gf,
    #[.func (.yield (w.heap.size + 1)) #[] #[]] ++ lb, W1, ?_, ?_, ?_, ?_, ?_, ?_⟩
  · rw [← hW1, hrec]; exact run_enterLoop_outer _ _ _ _ _
  · simp only [resolve, hg]
    simp [go_sem]
  · intro f' _; trivial
  · simp [invoke, go_sem, eg]
  · intro h; cases h
  · refine (hseq (w.heap.size + 1) (fun pre W => I pre W ∧ W.heap[w.heap.size + 1]? = some (.loop (rec .ready)) ∧ W.heap[w.heap.size]? = some (.deferred (some []))) W1 hB1 (by omega) (by omega) ?_ ?_ ⟨h0 W1 hB1 (by omega), hL1, hK1⟩).mono ?_
    · rintro pre A B ⟨hi, hl, hk⟩ hst hll
      refine ⟨hI _ _ _ hi hst, hll.trans hl, (hst.block _ ⟨?_, by omega, by omega⟩).trans hk⟩
      exact (Array.getElem?_eq_some_iff.1 hk).1
    · rintro pre x W ⟨hi, hl, hk⟩ hpx
      have hlt : w.heap.size + 1 < W.heap.size := (Array.getElem?_eq_some_iff.1 hl).1
      have hy := run_yield (P := Tryz.prog) (args := #[enc x]) hl (by rw [hrec]; rfl)
      rw [hrec] at hy
      refine ⟨fn, _, assign, body, hy, roundIn_of_wpIn hfn (hassign x W _ ?_)⟩
      clear hy
      refine ⟨_, run_beginRound hl (by rw [hrec]), ?_⟩
      have hl2 : (W.putObj (w.heap.size + 1) (.loop { rec .ready with state := .busy })).heap[w.heap.size + 1]? = some (.loop { rec .ready with state := .busy }) := World.putObj_heap_same hlt
      have hk2 : (W.putObj (w.heap.size + 1) (.loop { rec .ready with state := .busy })).heap[w.heap.size]? = some (.deferred (some [])) := (World.putObj_heap_other (by omega)).trans hk
      have st2 : Stp c (w.heap.size + 1) W (W.putObj (w.heap.size + 1) (.loop { rec .ready with state := .busy })) := Stp.putObj W _
      refine wpIn_mono (hbody pre x _ (hI _ _ _ hi st2) hpx) ?_
      rintro e a3 W3 ⟨rfl, hi3, hK3⟩
      have hl3 : W3.heap[w.heap.size + 1]? = some (.loop { rec .ready with state := .busy }) := (hK3.block _ (Or.inr (Or.inl rfl))).trans hl2
      have hk3 : W3.heap[w.heap.size]? = some (.deferred (some [])) := (hK3.block _ (Or.inl rfl)).trans hk2
      have hr := run_endRound (P := Tryz.prog) none hl3
      have hlt3 : w.heap.size + 1 < W3.heap.size := (Array.getElem?_eq_some_iff.1 hl3).1
      refine ⟨_, _, hr, rfl, ⟨hI _ _ _ hi3 (Stp.putObj W3 _), ?_, (World.putObj_heap_other (by omega)).trans hk3⟩, ?_⟩
      · rw [World.putObj_heap_same hlt3, hrec]
        simp
      · refine ⟨hK3.os, hK3.tape, hK3.output, Nat.le_trans st2.size (Nat.le_trans hK3.size (grownBy_putObj' W3 _ _).size), fun k hk => ?_⟩
        have hkw := hC k hk
        exact (World.putObj_heap_other (by omega)).trans ((hK3.block k (Or.inr (Or.inr hk))).trans (World.putObj_heap_other (by omega)))
    · rintro e W2 ⟨⟨v, rfl⟩, hi, hl, hk⟩
      have hrun := run_endLoop (P := Tryz.prog) hl (by rw [hrec]; simp)
      rw [hrec] at hrun
      exact ⟨none, _, hrun, hdone _ (hI _ _ _ hi (Stp.putObj W2 _)) ((World.putObj_heap_other (by omega)).trans hk)⟩
end Go.Proofs.YtignjjnflcpiiaaGreatDoor
namespace Go.Proofs.YtignjjnflcpiiaaGreatDoor
open Go Go.RowKit Go.Shelf
attribute [local go_sem] Oper.semAt_some
theorem indexByte_app {a b : Bs} {c : UInt8} (h : c ∉ a) : Lib.indexByte (a ++ c :: b) c = (a.length : Int) := by
  have h0 := Lib.indexByte_ge (a ++ c :: b) c
  by_cases h1 : Lib.indexByte (a ++ c :: b) c = -1
  · exact absurd (by simp) (Lib.indexByte_none h1 a.length)
  · obtain ⟨o, ho⟩ : ∃ o : Nat, Lib.indexByte (a ++ c :: b) c = o := ⟨(Lib.indexByte (a ++ c :: b) c).toNat, by omega⟩
    obtain ⟨h2, h3⟩ := Lib.indexByte_some ho
    rw [ho]
    by_cases hlt : o < a.length
    · rw [List.getElem?_append_left hlt] at h2
      exact absurd (List.mem_of_getElem? h2) h
    · by_cases hgt : a.length < o
      · exact absurd (by simp) (h3 a.length hgt)
      · omega
theorem indexByte_no {l : Bs} {c : UInt8} (h : c ∉ l) : Lib.indexByte l c = -1 := by
  have h0 := Lib.indexByte_ge l c
  by_cases h1 : Lib.indexByte l c = -1
  · exact h1
  · obtain ⟨o, ho⟩ : ∃ o : Nat, Lib.indexByte l c = o := ⟨(Lib.indexByte l c).toNat, by omega⟩
    exact absurd (List.mem_of_getElem? (Lib.indexByte_some ho).1) h
def leftS (cs : Nat) (W : World) : Nat := match W.cell? ⟨cs, 0, none⟩ with
  | some (.string b) => b.size
  | _ => 0
theorem leftS_eq {cs : Nat} {W : World} {l : Bs} (h : Blk W cs #[.string ⟨l.toArray⟩] 9) : leftS cs W = l.length := by
  have hc : W.cell? ⟨cs, 0, none⟩ = some (.string ⟨l.toArray⟩) := h.cell 0
  unfold leftS
  rw [hc]
  simp [ByteArray.size]
set_option maxHeartbeats 8000000 in
set_option maxRecDepth 100000 in
theorem splitSeq1_in (n cs cp cv : Nat) (s : Bs) (w : World) (hcs : Blk w cs #[.string ⟨s.toArray⟩] 9) (hcp : Blk w cp #[.string ⟨#[10]⟩] 9) (hcv : Blk w cv #[.int .i64 0] 3) (hn1 : cp ≠ cs) (hn2 : cv ≠ cs) (hl : s.length ≤ 1000000) :
    SeqC n 217 #[.pointer (some ⟨cp, 0, none⟩), .pointer (some ⟨cs, 0, none⟩), .pointer (some ⟨cv, 0, none⟩)] (fun x : Bs => .string ⟨x.toArray⟩) (splitC 10 s) cs (fun k => k = cs ∨ k = cp ∨ k = cv) w := by
  intro l J W hb hl1 hl2 hJs hR h0
  have HLT := Lib.hid hcs.lt
  have hcs := hcs.next hb hcs.lt
  have hcp := hcp.next hb hcp.lt
  have hcv := hcv.next hb hcv.lt
  have c1 : W.cell? ⟨cs, 0, none⟩ = some (.string ⟨s.toArray⟩) := hcs.cell 0
  have c2 : W.cell? ⟨cp, 0, none⟩ = some (.string ⟨#[10]⟩) := hcp.cell 0
  refine callsIn_of_wp Tryz.func217 rfl trivial ?_ rfl
  simp only [Tryz.ntmps217, List.size_toArray, List.length_cons, List.length_nil, Nat.reduceAdd, Nat.reduceSub, Array.replicate_succ, Array.replicate_zero, List.push_toArray, List.append_toArray, List.nil_append, List.cons_append]
  gi_wp2
  gi_loopw [7] (fun _ wr => ∃ (pre : List Bs) (rest : Bs), splitC 10 s = pre ++ splitC 10 rest ∧ rest.length ≤ 1000000 ∧ Blk wr cs #[.string ⟨rest.toArray⟩] 9 ∧ Blk wr cp #[.string ⟨#[10]⟩] 9 ∧ Blk wr cv #[.int .i64 0] 3 ∧ J pre wr ∧ l < wr.heap.size) (fun _ wr => leftS cs wr)
  case atStart => exact ⟨[], s, rfl, hl, hcs, hcp, hcv, h0, hl2⟩
  case round =>
    obtain ⟨pre, rest, hpre, hrl, hcs, hcp, hcv, hJ, hlw⟩ := hrel
    have c1 : wr.cell? ⟨cs, 0, none⟩ = some (.string ⟨rest.toArray⟩) := hcs.cell 0
    have c2 : wr.cell? ⟨cp, 0, none⟩ = some (.string ⟨#[10]⟩) := hcp.cell 0
    have c3 : wr.cell? ⟨cv, 0, none⟩ = some (.int .i64 0) := hcv.cell 0
    by_cases hm : (10 : UInt8) ∈ rest
    · obtain ⟨a, b, hab, hna⟩ : ∃ a b, rest = a ++ 10 :: b ∧ (10 : UInt8) ∉ a := by
        obtain ⟨a, b, h1, h2⟩ := List.eq_append_cons_of_mem hm
        exact ⟨a, b, h1, h2⟩
      subst hab
      have hIx : Calls Tryz.prog 66 #[.string ⟨(a ++ 10 :: b).toArray⟩, .string ⟨#[10]⟩] wr fun e w' => e = .returned (.int .i64 (a.length : Int)) ∧ wr = w' := by
        have h := Tryz.strings_Index_one ⟨(a ++ 10 :: b).toArray⟩ 10 wr
        rw [show (⟨(a ++ 10 :: b).toArray⟩ : ByteArray).data.toList = a ++ 10 :: b from by simp, indexByte_app hna] at h
        exact h.mono fun _ _ h => ⟨h.1, h.2.symm⟩
      rw [splitC_app hna] at hpre
      obtain ⟨fn, tmps, assign, body, hy, hRR⟩ := hR pre a wr hJ (by rw [hpre]; exact ⟨splitC 10 b, by simp⟩)
      dsimp only at hy
      have hal : a.length + b.length + 1 ≤ 1000000 := by simp at hrl; omega
      have hw1 : wrap64 (a.length : Int) = a.length := by unfold wrap64; omega
      have hw2 : wrap64 ((a.length : Int) + 1) = (a.length : Int) + 1 := by unfold wrap64; omega
      have hlt0 : ¬ (a.length : Int) < 0 := by omega
      have hb1 : 0 ≤ (a.length : Int) ∧ (a.length : Int) ≤ (a.length : Int) + ((b.length : Int) + 1) := by omega
      have hb2 : 0 ≤ (a.length : Int) + 1 ∧ (a.length : Int) + 1 ≤ (a.length : Int) + ((b.length : Int) + 1) := by omega
      have ht1 : List.take a.length (a ++ 10 :: b) = a := by simp
      have ht2 : List.drop (a.length + 1) (a ++ 10 :: b) = b := by simp
      gi_wp2
      refine ⟨trivial, fun h => (by cases h), ?_⟩
      with_reducible refine (callsIn_wide.2 hIx).mono ?_
      rintro e w' ⟨rfl, rfl⟩
      gi_wp2
      refine ⟨fun h => (by cases h), ?_⟩
      refine hRR.mono ?_
      rintro e W' ⟨rfl, hJ', K⟩
      have hcs' : Blk W' cs #[.string ⟨(a ++ 10 :: b).toArray⟩] 9 := (K.block cs (Or.inl rfl)).trans hcs
      have hcp' : Blk W' cp #[.string ⟨#[10]⟩] 9 := (K.block cp (Or.inr (Or.inl rfl))).trans hcp
      have hcv' : Blk W' cv #[.int .i64 0] 3 := (K.block cv (Or.inr (Or.inr rfl))).trans hcv
      have d1 : W'.cell? ⟨cs, 0, none⟩ = some (.string ⟨(a ++ 10 :: b).toArray⟩) := hcs'.cell 0
      have d2 : W'.cell? ⟨cp, 0, none⟩ = some (.string ⟨#[10]⟩) := hcp'.cell 0
      have d3 := hcs'.free 0
      clear c1 c2 c3 hRR hy hIx
      have HH := Lib.hid (And.intro hJs (And.intro hJ' (And.intro hcs (And.intro hcs' (And.intro hcp' hcv')))))
      have HP := Lib.hid hpre
      have HK := Lib.hid K
      clear hJs hJ' hcs hcs' hcp' hcv' hpre K hR hJ
      gi_wp2
      obtain ⟨hJs, hJ', hcs, hcs', hcp', hcv'⟩ := HH.out
      have hpre := HP.out
      have K := HK.out
      have hkeep : ∀ k, k ≠ cs → (W'.setCell ⟨cs, 0, none⟩ (.string ⟨b.toArray⟩)).heap[k]? = W'.heap[k]? := fun k hk => heap_set _ _ _ k hk
      have hset : Blk (W'.setCell ⟨cs, 0, none⟩ (.string ⟨b.toArray⟩)) cs #[.string ⟨b.toArray⟩] 9 := by simpa using hcs'.set 0 (.string ⟨b.toArray⟩)
      have hJ2 : J (pre ++ [a]) (W'.setCell ⟨cs, 0, none⟩ (.string ⟨b.toArray⟩)) := hJs _ _ _ hJ' ⟨rfl, rfl, rfl, by simp [World.setCell], fun k hk => hkeep k hk.2.1⟩ (hkeep l (by have := HLT.out; omega))
      have hsz : l < (W'.setCell ⟨cs, 0, none⟩ (.string ⟨b.toArray⟩)).heap.size := by have := K.size; simp [World.setCell]; omega
      have ht3 : List.take (a.length + (b.length + 1) - (a.length + 1)) b = b := List.take_of_length_le (by omega)
      go_roundw
      case rel =>
        rw [ht3]
        exact ⟨pre ++ [a], b, by simp [hpre], by omega, hset, (hkeep cp hn1).trans hcp', (hkeep cv hn2).trans hcv', hJ2, hsz⟩
      case measure =>
        rw [ht3, leftS_eq hset, leftS_eq hcs]
        simp
        omega
    · have hIx : Calls Tryz.prog 66 #[.string ⟨rest.toArray⟩, .string ⟨#[10]⟩] wr fun e w' => e = .returned (.int .i64 (-1)) ∧ wr = w' := by
        have h := Tryz.strings_Index_one ⟨rest.toArray⟩ 10 wr
        rw [show (⟨rest.toArray⟩ : ByteArray).data.toList = rest from by simp, indexByte_no hm] at h
        exact h.mono fun _ _ h => ⟨h.1, h.2.symm⟩
      rw [splitC_none hm] at hpre
      obtain ⟨fn, tmps, assign, body, hy, hRR⟩ := hR pre rest wr hJ (by rw [hpre]; exact List.prefix_refl _)
      dsimp only at hy
      gi_wp2
      refine ⟨trivial, fun h => (by cases h), ?_⟩
      with_reducible refine (callsIn_wide.2 hIx).mono ?_
      rintro e w' ⟨rfl, rfl⟩
      gi_wp2
      refine ⟨fun h => (by cases h), ?_⟩
      refine hRR.mono ?_
      rintro e W' ⟨rfl, hJ', _⟩
      gi_wp2
      go_end0
      rw [hpre]
      exact ⟨⟨_, rfl⟩, hJ'⟩
end Go.Proofs.YtignjjnflcpiiaaGreatDoor
namespace Go.Proofs.YtignjjnflcpiiaaGreatDoor
open Go Go.RowKit
def seqFn (k : Nat) : Value := .func (.func 217) #[] #[.pointer (some ⟨k + 1, 0, none⟩), .pointer (some ⟨k, 0, none⟩), .pointer (some ⟨k + 2, 0, none⟩)]
def seqW (s : Bs) (w : World) : World := ((w.alloc (.cells #[.string ⟨s.toArray⟩] 9)).alloc (.cells #[.string ⟨#[10]⟩] 9)).alloc (.cells #[.int .i64 0] 3)
set_option maxHeartbeats 8000000 in
set_option maxRecDepth 100000 in
theorem splitSeq0_any (s : Bs) (w : World) : Calls Tryz.prog 128 #[.string ⟨s.toArray⟩, .string ⟨#[10]⟩, .int .i64 0] w fun e w' => e = .returned (seqFn w.heap.size) ∧ seqW s w = w' := by
  have hmf : ∀ (fn : Fn) (first cap : Array Value) (w : World), (Instr.makeFunc fn first cap).run Tryz.prog w = .ok (.func fn first cap) w := fun _ _ _ _ => rfl
  unfold seqFn seqW
  go_enter Tryz.func128, Tryz.ntmps128
  go_wp2_with fail
  go_ret
  exact ⟨by simp, rfl⟩
set_option maxHeartbeats 8000000 in
set_option maxRecDepth 100000 in
theorem splitSeq_any (s : Bs) (w : World) : Calls Tryz.prog 76 #[.string ⟨s.toArray⟩, .string ⟨#[10]⟩] w fun e w' => e = .returned (seqFn w.heap.size) ∧ seqW s w = w' := by
  have hS := splitSeq0_any s w
  go_enter Tryz.func76, Tryz.ntmps76
  go_wp2_with fail
  with_reducible refine hS.mono ?_
  rintro e w1 ⟨rfl, rfl⟩
  unfold seqFn
  go_wp2_with fail
  go_ret
  exact ⟨rfl, rfl⟩
theorem seqW_below (s : Bs) (w : World) : Below w.heap.size w (seqW s w) := (((Below.refl _ w).alloc (Nat.le_refl _) _).alloc (by simp) _).alloc (by simp; omega) _
theorem seqW_size (s : Bs) (w : World) : (seqW s w).heap.size = w.heap.size + 3 := by unfold seqW; simp
theorem seqW_s (s : Bs) (w : World) : Blk (seqW s w) w.heap.size #[.string ⟨s.toArray⟩] 9 := ((Blk.new w _ _).alloc _).alloc _
theorem seqW_p (s : Bs) (w : World) : Blk (seqW s w) (w.heap.size + 1) #[.string ⟨#[10]⟩] 9 := by
  have := (Blk.new (w.alloc (.cells #[.string ⟨s.toArray⟩] 9)) #[.string ⟨#[10]⟩] 9).alloc (.cells #[.int .i64 0] 3)
  simpa [seqW] using this
theorem seqW_v (s : Bs) (w : World) : Blk (seqW s w) (w.heap.size + 2) #[.int .i64 0] 3 := by
  have := Blk.new ((w.alloc (.cells #[.string ⟨s.toArray⟩] 9)).alloc (.cells #[.string ⟨#[10]⟩] 9)) #[.int .i64 0] 3
  simpa [seqW] using this
end Go.Proofs.YtignjjnflcpiiaaGreatDoor
namespace Go.Proofs.YtignjjnflcpiiaaGreatDoor
open Go
def deskT : Dsk → List Bs → Dsk
  | d, [] => d
  | d, s :: l => deskT (lineD d s).1 l
theorem deskT_snoc : ∀ (l : List Bs) (d : Dsk) (x : Bs), deskT d (l ++ [x]) = (lineD (deskT d l) x).1
  | [], _, _ => rfl
  | s :: l, d, x => by
    show deskT (lineD d s).1 (l ++ [x]) = _
    rw [deskT_snoc l]
    rfl
theorem linesD_app : ∀ (l k : List Bs) (d : Dsk), linesD d (l ++ k) = linesD d l ++ linesD (deskT d l) k
  | [], _, _ => rfl
  | s :: l, k, d => by
    show (lineD d s).2 ++ 10 :: linesD (lineD d s).1 (l ++ k) = _
    rw [linesD_app l]
    show _ = ((lineD d s).2 ++ 10 :: linesD (lineD d s).1 l) ++ linesD (deskT (lineD d s).1 l) k
    simp
theorem linesD_snoc (l : List Bs) (d : Dsk) (x : Bs) : linesD d (l ++ [x]) = linesD d l ++ ((lineD (deskT d l) x).2 ++ [10]) := by
  rw [linesD_app]
  rfl
def sessC (s : Bs) : Bs := if 20000 < s.length then [101, 114, 114, 111, 114, 32, 52, 10] else linesD ⟨none, []⟩ (splitC 10 (Lib.trimSuffix s [10]))
theorem openD_said (d : Dsk) (w : List Bs) : (openD d w).1.said.length ≤ d.said.length := by
  unfold openD
  split
  · exact Nat.le_refl _
  · split <;> simp
theorem doesD_said (d : Dsk) (n : Bs) (w : List Bs) : (doesD d n w).1.said.length ≤ d.said.length + (blankT w).length + 2 := by
  rcases does_cases n with rfl | rfl | rfl | rfl | rfl | rfl | rfl | rfl | rfl | rfl | rfl | rfl | rfl | rfl | rfl | rfl | h
  · show (d.said ++ (blankT w ++ [13, 10])).length ≤ _; simp; omega
  · show d.said.length ≤ _; omega
  · show d.said.length ≤ _; omega
  · show d.said.length ≤ _; omega
  · show d.said.length ≤ _; omega
  · show d.said.length ≤ _; omega
  · show d.said.length ≤ _; omega
  · show d.said.length ≤ _; omega
  · show d.said.length ≤ _; omega
  · have := openD_said d w; show (openD d w).1.said.length ≤ _; omega
  · show d.said.length ≤ _; omega
  · show d.said.length ≤ _; omega
  · show d.said.length ≤ _; omega
  · show d.said.length ≤ _; omega
  · show d.said.length ≤ _; omega
  · show d.said.length ≤ _; omega
  · rw [doesD_no h]
    show d.said.length ≤ _
    omega
theorem lineD_said (d : Dsk) (s : Bs) : (lineD d s).1.said.length ≤ d.said.length + s.length + 3 := by
  unfold lineD
  cases hw : wordsT s with
  | nil => simp only; omega
  | cons n l =>
    have h0 := words_sum s
    rw [hw] at h0
    simp only [List.map_cons, List.sum_cons, List.length_cons] at h0
    have h1 := (blank_len (l := l) (n := s.length + 1) (by omega)).1
    have h2 := doesD_said d n l
    simp only
    omega
theorem deskT_said : ∀ (l : List Bs) (d : Dsk), (deskT d l).said.length ≤ d.said.length + Lib.lens l + 3 * l.length
  | [], _ => by simp [deskT]
  | s :: l, d => by
    have h1 := deskT_said l (lineD d s).1
    have h2 := lineD_said d s
    show (deskT (lineD d s).1 l).said.length ≤ _
    simp [Lib.lens] at h1 ⊢
    omega
theorem lens_pre {pre xs : List Bs} (h : pre <+: xs) : Lib.lens pre ≤ Lib.lens xs ∧ pre.length ≤ xs.length := by
  obtain ⟨r, rfl⟩ := h
  simp [Lib.lens]
theorem lens_mem {x : Bs} : ∀ {l : List Bs}, x ∈ l → x.length ≤ Lib.lens l
  | y :: l, h => by
    simp only [Lib.lens, List.map_cons, List.sum_cons]
    rcases List.mem_cons.1 h with rfl | h
    · omega
    · have := lens_mem h
      simp [Lib.lens] at this
      omega
theorem linesD_pre {pre xs : List Bs} (d : Dsk) (h : pre <+: xs) : (linesD d pre).length ≤ (linesD d xs).length := by
  obtain ⟨r, rfl⟩ := h
  rw [linesD_app]
  simp
end Go.Proofs.YtignjjnflcpiiaaGreatDoor
