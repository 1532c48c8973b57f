/- Parts in memory; a world that is as another one but for one block. No condition; What the variables of the library hold that numerals need besides. No condition; Out of the row's laid variables: what the walks ask of an array of strings. No condition; What the walks ask, out of the row of binderykee. -/
import Derived.Carry
import Derived.Clock
import Derived.LaidHandle
import Derived.LaidMore
import Derived.Lay
import Derived.Lib.AppendIntMem
import Derived.Lib.LaidTab
import Derived.Lib.LaidU8
import Derived.Maps.AppendAt
import Derived.OpenShut
import Derived.Test.YtignjjnflcpiiaaGreatDoorR09
import Derived.Test.YtignjjnflcpiiaaGreatDoorRows
namespace Go.Proofs.YtignjjnflcpiiaaGreatDoor
open Go Go.RowKit
structure BelowO (lb B : Nat) (w w' : World) : Prop where
  os : w'.os = w.os
  tape : w'.tape = w.tape
  output : w'.output = w.output
  size : w.heap.size ≤ w'.heap.size
  block : ∀ k, k < B → k ≠ lb → w'.heap[k]? = w.heap[k]?
theorem BelowO.refl (lb B : Nat) (w : World) : BelowO lb B w w := ⟨rfl, rfl, rfl, Nat.le_refl _, fun _ _ _ => rfl⟩
theorem BelowO.of {lb B : Nat} {w w' : World} (h : Below B w w') : BelowO lb B w w' := ⟨h.os, h.tape, h.output, h.size, fun k hk _ => h.block k hk⟩
theorem BelowO.trans {lb B : Nat} {a b c : World} (h : BelowO lb B a b) (k : BelowO lb B b c) : BelowO lb B a c :=
  ⟨k.os.trans h.os, k.tape.trans h.tape, k.output.trans h.output, Nat.le_trans h.size k.size, fun i hi hn => (k.block i hi hn).trans (h.block i hi hn)⟩
theorem BelowO.mono {lb B B' : Nat} {w w' : World} (h : BelowO lb B w w') (hB : B' ≤ B) : BelowO lb B' w w' := ⟨h.os, h.tape, h.output, h.size, fun k hk hn => h.block k (Nat.lt_of_lt_of_le hk hB) hn⟩
theorem BelowO.set {lb B j : Nat} {a w : World} (h : BelowO lb B a w) (u : Value) : BelowO lb B a (w.setCell ⟨lb, j, none⟩ u) :=
  h.trans ⟨rfl, rfl, rfl, by simp [World.setCell], fun k _ hn => Below.heap_setCell _ _ _ _ (by simpa using hn)⟩
theorem BelowO.own {lb B : Nat} {a w : World} (h : BelowO lb B a w) {p : Go.Addr} (hp : B ≤ p.block) (u : Value) : BelowO lb B a (w.setCell p u) := h.trans (BelowO.of ((Below.refl B w).setCell hp u))
theorem BelowO.shut {lb B : Nat} {w w' : World} (h : BelowO lb B w w') (hl : B ≤ lb) : Below B w w' := ⟨h.os, h.tape, h.output, h.size, fun k hk => h.block k hk (by omega)⟩
theorem BelowO.cell {lb B : Nat} {w w' : World} (h : BelowO lb B w w') {p : Go.Addr} (hp : p.block < B) (hn : p.block ≠ lb) : w'.cell? p = w.cell? p := by
  unfold World.cell?; rw [h.block p.block hp hn]
theorem BelowO.next {lb B : Nat} {a b c : World} (h : BelowO lb B a b) (hb : Below b.heap.size b c) (hB : B ≤ b.heap.size) : BelowO lb B a c := h.trans (BelowO.of (hb.mono hB))
theorem Blk.nextO {w w' : World} {lb b : Nat} {c : Array Value} {t : TypeId} (h : Blk w b c t) (hb : BelowO lb w.heap.size w w') (hn : b ≠ lb) : Blk w' b c t := (hb.block b h.lt hn).trans h
theorem Gr.nextO {lb : Nat} {w w' : World} (h : Gr w) (hb : BelowO lb w.heap.size w w') (hl : 3 < lb) : Gr w' := by
  have hs := h.size
  obtain ⟨m, hm⟩ := h.g.maxLen
  refine ⟨⟨m, (hb.cell (p := ⟨_, 0, none⟩) hs (by simp only; omega)).trans hm⟩, fun k hk => ?_, fun k hk => ?_, ?_⟩
  · exact (hb.cell (p := ⟨1, k, none⟩) (by simp only; omega) (by simp only; omega)).trans (h.signs k hk)
  · exact (hb.cell (p := ⟨2, k, none⟩) (by simp only; omega) (by simp only; omega)).trans (h.ours k hk)
  · exact (hb.cell (p := ⟨0, 0, none⟩) (by simp only; omega) (by simp only; omega)).trans h.et
theorem Gr.keep {w w' : World} (h : Gr w) (hk : ∀ b, b ≤ 3 → w'.heap[b]? = w.heap[b]?) : Gr w' := by
  obtain ⟨m, hm⟩ := h.g.maxLen
  have go : ∀ b k, b ≤ 3 → w'.cell? ⟨b, k, none⟩ = w.cell? ⟨b, k, none⟩ := fun b k hb => by simp only [World.cell?]; rw [hk b hb]
  exact ⟨⟨m, (go _ _ (by decide)).trans hm⟩, fun k hk => (go _ _ (by decide)).trans (h.signs k hk), fun k hk => (go _ _ (by decide)).trans (h.ours k hk), (go _ _ (by decide)).trans h.et⟩
theorem OwnG.setO {α : Type} {e size : Nat} {cs : α → List Value} {w : World} {B : Nat} {v : Value} {xs : List α} (h : OwnG e size cs w B v xs) {a : Go.Addr} (ha : a.block < B) (u : Value) : OwnG e size cs (w.setCell a u) B v xs := by
  rcases h with ⟨h3, h4⟩
  refine ⟨h3, ?_⟩
  rcases h4 with h4 | ⟨g, cap, cur, hv, hg, hh, r⟩
  · exact Or.inl h4
  · exact Or.inr ⟨g, cap, cur, hv, hg, (Below.heap_setCell w a u g (by omega)).trans hh, r⟩
def RdB {α : Type} (size : Nat) (cs : α → List Value) (P : Nat → Prop) (w : World) (v : Value) (xs : List α) : Prop :=
  ∃ a cap, v = .slice a xs.length cap ∧ (0 < xs.length → ∃ b, a = some ⟨b, 0, none⟩ ∧ P b ∧ b < w.heap.size ∧ ∀ j, j < xs.length * size → w.cell? ⟨b, j, none⟩ = (xs.flatMap cs)[j]?)
theorem RdB.rd {α : Type} {size : Nat} {cs : α → List Value} {P : Nat → Prop} {w : World} {v : Value} {xs : List α} (h : RdB size cs P w v xs) : RdG size cs w v xs := by
  obtain ⟨a, cap, hv, hc⟩ := h
  exact ⟨a, cap, hv, fun h0 => by obtain ⟨b, h1, _, h2, h3⟩ := hc h0; exact ⟨b, h1, h2, h3⟩⟩
theorem RdB.weak {α : Type} {size : Nat} {cs : α → List Value} {P Q : Nat → Prop} {w : World} {v : Value} {xs : List α} (h : RdB size cs P w v xs) (hP : ∀ b, P b → b < w.heap.size → Q b) : RdB size cs Q w v xs := by
  obtain ⟨a, cap, hv, hc⟩ := h
  exact ⟨a, cap, hv, fun h0 => by obtain ⟨b, h1, hb, h2, h3⟩ := hc h0; exact ⟨b, h1, hP b hb h2, h2, h3⟩⟩
theorem RdB.keep {α : Type} {size : Nat} {cs : α → List Value} {P : Nat → Prop} {w w' : World} {v : Value} {xs : List α} (h : RdB size cs P w v xs) (hs : w.heap.size ≤ w'.heap.size) (hk : ∀ b, P b → b < w.heap.size → w'.heap[b]? = w.heap[b]?) : RdB size cs P w' v xs := by
  obtain ⟨a, cap, hv, hc⟩ := h
  refine ⟨a, cap, hv, fun h0 => ?_⟩
  obtain ⟨b, ha, hP, hlt, hcell⟩ := hc h0
  refine ⟨b, ha, hP, Nat.lt_of_lt_of_le hlt hs, fun j hj => ?_⟩
  rw [← hcell j hj]
  simp only [World.cell?]
  rw [hk b hP hlt]
theorem RdB.next {α : Type} {size : Nat} {cs : α → List Value} {P : Nat → Prop} {w w' : World} {v : Value} {xs : List α} (h : RdB size cs P w v xs) (hb : Below w.heap.size w w') : RdB size cs P w' v xs := h.keep hb.size fun b _ hlt => hb.block b hlt
theorem RdB.nextO {α : Type} {size : Nat} {cs : α → List Value} {P : Nat → Prop} {lb : Nat} {w w' : World} {v : Value} {xs : List α} (h : RdB size cs P w v xs) (hb : BelowO lb w.heap.size w w') (hl : ¬ P lb) : RdB size cs P w' v xs := h.keep hb.size fun b hP hlt => hb.block b hlt (fun e => hl (e ▸ hP))
theorem heap_set (w : World) (a : Go.Addr) (u : Value) (b : Nat) (h : b ≠ a.block) : (w.setCell a u).heap[b]? = w.heap[b]? := Below.heap_setCell w a u b h
theorem RdB.set {α : Type} {size : Nat} {cs : α → List Value} {P : Nat → Prop} {w : World} {v : Value} {xs : List α} (h : RdB size cs P w v xs) {a : Go.Addr} (u : Value) (hl : ¬ P a.block) : RdB size cs P (w.setCell a u) v xs := h.keep (by simp [World.setCell]) fun b hP _ => heap_set w a u b (fun e => hl (e ▸ hP))
theorem RdB.nil {α : Type} (size : Nat) (cs : α → List Value) (P : Nat → Prop) (w : World) (a : Option Go.Addr) (cap : Nat) : RdB size cs P w (.slice a 0 cap) ([] : List α) := ⟨a, cap, rfl, fun h => by simp at h⟩
theorem OwnG.rdB {α : Type} {e size : Nat} {cs : α → List Value} (hsz : 0 < size) (hcs : ∀ x, (cs x).length = size) {w : World} {B : Nat} {v : Value} {xs : List α} (h : OwnG e size cs w B v xs) : RdB size cs (fun b => B ≤ b ∧ v.ownBlock = some b) w v xs := by
  have h2 := h
  unfold OwnG at h2
  obtain ⟨a, cap, hv, hc⟩ := OwnG.rd hsz hcs h
  refine ⟨a, cap, hv, fun h0 => ?_⟩
  obtain ⟨b, ha, hlt, hcell⟩ := hc h0
  refine ⟨b, ha, ?_, hlt, hcell⟩
  rcases h2.2 with ⟨hv2, h3⟩ | ⟨g, cap2, cur, hv2, hg, _⟩
  · rw [hv2] at hv; injection hv with h4 h5; omega
  · have hv3 := hv2
    rw [hv2, ha] at hv; injection hv with h4 _ _; injection h4 with h4; injection h4 with h4
    subst h4
    exact ⟨hg, by rw [hv3]; rfl⟩
theorem OwnG.nextO {α : Type} {e size : Nat} {cs : α → List Value} {w w' : World} {B lb : Nat} {v : Value} {xs : List α} (h : OwnG e size cs w B v xs) (hb : BelowO lb w.heap.size w w') (hl : lb < B) : OwnG e size cs w' B v xs := by
  rcases h with ⟨h3, h4⟩
  refine ⟨h3, ?_⟩
  rcases h4 with h4 | ⟨g, cap, cur, hv, hg, hh, r⟩
  · exact Or.inl h4
  · have hlt : g < w.heap.size := by
      rcases Nat.lt_or_ge g w.heap.size with h' | h'
      · exact h'
      · rw [Array.getElem?_eq_none h'] at hh; cases hh
    exact Or.inr ⟨g, cap, cur, hv, hg, (hb.block g hlt (by omega)).trans hh, r⟩
theorem OwnG.mono {α : Type} {e size : Nat} {cs : α → List Value} {w : World} {B B' : Nat} {v : Value} {xs : List α} (h : OwnG e size cs w B v xs) (hB : B' ≤ B) : OwnG e size cs w B' v xs := by
  rcases h with ⟨h3, h4⟩
  refine ⟨h3, ?_⟩
  rcases h4 with h4 | ⟨g, cap, cur, hv, hg, r⟩
  · exact Or.inl h4
  · exact Or.inr ⟨g, cap, cur, hv, Nat.le_trans hB hg, r⟩
theorem OwnG.own_lt {α : Type} {e size : Nat} {cs : α → List Value} {w : World} {B : Nat} {v : Value} {xs : List α} (h : OwnG e size cs w B v xs) (g : Nat) (hg : v.ownBlock = some g) : g < w.heap.size := by
  rcases h.2 with ⟨hv, _⟩ | ⟨g', cap, cur, hv, _, hh, _⟩
  · rw [hv] at hg; cases hg
  · rw [hv] at hg; injection hg with hg
    simp only at hg
    subst hg
    rcases Nat.lt_or_ge g' w.heap.size with h' | h'
    · exact h'
    · rw [Array.getElem?_eq_none h'] at hh; cases hh
theorem OwnG.own_ge {α : Type} {e size : Nat} {cs : α → List Value} {w : World} {B : Nat} {v : Value} {xs : List α} (h : OwnG e size cs w B v xs) (g : Nat) (hg : v.ownBlock = some g) : B ≤ g := by
  rcases h.2 with ⟨hv, _⟩ | ⟨g', cap, cur, hv, hB, _⟩
  · rw [hv] at hg; cases hg
  · rw [hv] at hg; injection hg with hg
    simp only at hg
    omega
theorem appG2 {α : Type} {e size : Nat} {cs : α → List Value} {t bytes : Nat} {z : Value} (hcs : ∀ x, (cs x).length = size) (hone : ∀ x, ∀ u ∈ cs x, u.oneCell' = true)
    (hinfo : (Tryz.prog.info? e).map (fun i => (i.zero, i.size, i.bytes)) = some (some z, size, bytes)) (hzs : z.cells.size = size) (hsz : 0 < size) (ht : Tryz.prog.underlying t = some (.slice e))
    {Q : Exit → Act → World → Prop} {ops : Array Oper} {rest : List Oper} {o : Oper} {a : Act} {w : World} (hgd : o.guard = none) (s x : Operand)
    (ho : o.op = .call { callee := .builtin .append, args := #[s, x], argTypes := #[t, t] }) (B : Nat) (v : Value) (xs ys : List α) (ad : Go.Addr) (m c : Nat) (hm : m = ys.length)
    (hs : a.eval s = v) (hown : OwnG e size cs w B v xs) (hx : a.eval x = .slice (some ad) m c) (hc : ∀ j u, (ys.flatMap cs)[j]? = some u → w.cell? (ad.add j) = some u) (hn : (xs.length + ys.length) * bytes ≤ 140737488355328) (hn2 : xs.length + ys.length ≤ maxLen) (hbase : B ≤ w.heap.size)
    (h : ∀ v' w', OwnG e size cs w' B v' (xs ++ ys) → w.grownBy w' v.ownBlock → Below B w w' → (v'.ownBlock = v.ownBlock ∨ v'.ownBlock = some w.heap.size) → wpList Tryz.prog ops Q rest (a.put o.dst v') w') : wpList Tryz.prog ops Q (o :: rest) a w := by
  subst hm
  obtain ⟨i0, hi, hz0, hz1, hz2⟩ := info_parts hinfo
  refine wpList_append_own_at (w := w) hgd s x t ho B e i0 z size bytes ht hi hz0 hz1 hz2 hzs hsz v xs.length _ hs hown ad ys.length c (ys.flatMap cs) hx (flat_len hcs ys) hc ?_ hn2 hn hbase ?_
  · intro u hu
    obtain ⟨y, _, hy⟩ := List.mem_flatMap.1 hu
    exact hone y u hy
  · intro v' w' h1 h2 _ h4
    refine h v' w' ?_ h2 ((Below.refl B w).grown h2 hbase fun k hk => OwnG.own_ge hown k hk) h4
    unfold OwnG
    rw [List.flatMap_append, List.length_append]; exact h1
theorem RdB.grown {α : Type} {size : Nat} {cs : α → List Value} {P : Nat → Prop} {w w' : World} {v : Value} {xs : List α} {row : Option Nat} (h : RdB size cs P w v xs) (hg : w.grownBy w' row) (hP : ∀ b, P b → some b ≠ row) : RdB size cs P w' v xs := h.keep hg.size fun b hb hlt => hg.block b hlt (hP b hb)
theorem RdG.opens {α : Type} {size : Nat} {cs : α → List Value} (hcs : ∀ x, (cs x).length = size) {w : World} {v : Value} {xs : List α} (h : RdG size cs w v xs) : ∃ a cap, v = .slice a xs.length cap ∧ ∀ k (hk : k < xs.length), ∃ b, a = some ⟨b, 0, none⟩ ∧ b < w.heap.size ∧ ∀ i, i < size → w.cell? ⟨b, k * size + i, none⟩ = (cs xs[k])[i]? := by
  obtain ⟨a, cap, hv, hc⟩ := h
  refine ⟨a, cap, hv, fun k hk => ?_⟩
  obtain ⟨b, ha, hlt, hcell⟩ := hc (by omega)
  refine ⟨b, ha, hlt, fun i hi => ?_⟩
  have h1 : (k + 1) * size ≤ xs.length * size := Nat.mul_le_mul_right _ hk
  rw [Nat.succ_mul] at h1
  rw [hcell _ (by omega), flat_at hcs xs k hk i hi]
theorem RdB.at {α : Type} {size : Nat} {cs : α → List Value} {P : Nat → Prop} (hcs : ∀ x, (cs x).length = size) {w : World} {a : Option Go.Addr} {n cap : Nat} {xs : List α} (h : RdB size cs P w (.slice a n cap) xs) (k : Nat) (hk : k < xs.length) : ∃ b, a = some ⟨b, 0, none⟩ ∧ P b ∧ b < w.heap.size ∧ ∀ i, i < size → w.cell? ⟨b, k * size + i, none⟩ = (cs xs[k])[i]? := by
  obtain ⟨a', cap', hv, hc⟩ := h
  injection hv with e1 e2 e3
  subst e1
  obtain ⟨b, ha, hP, hlt, hcell⟩ := hc (by omega)
  refine ⟨b, ha, hP, hlt, fun i hi => ?_⟩
  have h1 : (k + 1) * size ≤ xs.length * size := Nat.mul_le_mul_right _ hk
  rw [Nat.succ_mul] at h1
  rw [hcell _ (by omega), flat_at hcs xs k hk i hi]
abbrev Slc := Option Go.Addr × Nat × Nat
def slv (s : Slc) : Value := .slice s.1 s.2.1 s.2.2
abbrev PRaw := Slc × Bs × Bool × Slc
def prtC (r : PRaw) : List Value := [slv r.1, .string ⟨r.2.1.toArray⟩, .bool r.2.2.1, slv r.2.2.2]
theorem prtC_len (r : PRaw) : (prtC r).length = 4 := rfl
theorem prtC_one (r : PRaw) : ∀ u ∈ prtC r, u.oneCell' = true := fun u hu => by
  simp [prtC, slv] at hu
  rcases hu with rfl | rfl | rfl | rfl <;> rfl
theorem infoPrt : (Tryz.prog.info? 44).map (fun i => (i.zero, i.size, i.bytes)) = some (some (.agg #[.slice none 0 0, .string ByteArray.empty, .bool false, .slice none 0 0]), 4, 72) := by kernel_rfl
def RdPrt (P : Nat → Prop) : Nat → World → PRaw → Prt → Prop
  | 0, _, _, _ => False
  | n + 1, w, r, .mk h b m ps => r.2.1 = b ∧ r.2.2.1 = m ∧ RdB 2 fldC P w (slv r.1) h ∧ ∃ raws : List PRaw, RdB 4 prtC P w (slv r.2.2.2) raws ∧ raws.length = ps.length ∧ ∀ k (h1 : k < raws.length) (h2 : k < ps.length), RdPrt P n w raws[k] ps[k]
theorem RdPrt.keep {P : Nat → Prop} {w w' : World} (hs : w.heap.size ≤ w'.heap.size) (hk : ∀ b, P b → b < w.heap.size → w'.heap[b]? = w.heap[b]?) : ∀ {n : Nat} {r : PRaw} {p : Prt}, RdPrt P n w r p → RdPrt P n w' r p
  | 0, _, _, h => h.elim
  | _ + 1, _, .mk _ _ _ _, ⟨h1, h2, h3, raws, h4, h5, h6⟩ => ⟨h1, h2, h3.keep hs hk, raws, h4.keep hs hk, h5, fun k k1 k2 => RdPrt.keep hs hk (h6 k k1 k2)⟩
theorem RdPrt.next {P : Nat → Prop} {n : Nat} {w w' : World} {r : PRaw} {p : Prt} (h : RdPrt P n w r p) (hb : Below w.heap.size w w') : RdPrt P n w' r p := RdPrt.keep hb.size (fun b _ hlt => hb.block b hlt) h
theorem RdPrt.nextO {P : Nat → Prop} {lb n : Nat} {w w' : World} {r : PRaw} {p : Prt} (h : RdPrt P n w r p) (hb : BelowO lb w.heap.size w w') (hl : ¬ P lb) : RdPrt P n w' r p := RdPrt.keep hb.size (fun b hP hlt => hb.block b hlt (fun e => hl (e ▸ hP))) h
theorem RdPrt.set {P : Nat → Prop} {n : Nat} {w : World} {r : PRaw} {p : Prt} (h : RdPrt P n w r p) {a : Go.Addr} (u : Value) (hl : ¬ P a.block) : RdPrt P n (w.setCell a u) r p := RdPrt.keep (by simp [World.setCell]) (fun b hP _ => heap_set w a u b (fun e => hl (e ▸ hP))) h
theorem RdPrt.weak {P Q : Nat → Prop} {w : World} (hP : ∀ b, P b → b < w.heap.size → Q b) : ∀ {n : Nat} {r : PRaw} {p : Prt}, RdPrt P n w r p → RdPrt Q n w r p
  | 0, _, _, h => h.elim
  | _ + 1, _, .mk _ _ _ _, ⟨h1, h2, h3, raws, h4, h5, h6⟩ => ⟨h1, h2, h3.weak hP, raws, h4.weak hP, h5, fun k k1 k2 => RdPrt.weak hP (h6 k k1 k2)⟩
theorem RdPrt.up {P : Nat → Prop} : ∀ {n : Nat} {w : World} {r : PRaw} {p : Prt}, RdPrt P n w r p → RdPrt P (n + 1) w r p
  | 0, _, _, _, h => h.elim
  | _ + 1, _, _, .mk _ _ _ _, ⟨h1, h2, h3, raws, h4, h5, h6⟩ => ⟨h1, h2, h3, raws, h4, h5, fun k k1 k2 => (h6 k k1 k2).up⟩
theorem RdPrt.to {P : Nat → Prop} {n m : Nat} {w : World} {r : PRaw} {p : Prt} (h : RdPrt P n w r p) (hm : n ≤ m) : RdPrt P m w r p := by
  obtain ⟨k, rfl⟩ : ∃ k, m = n + k := ⟨m - n, by omega⟩
  clear hm
  induction k with
  | zero => exact h
  | succ k ih => exact ih.up
theorem RdPrt.grown {P : Nat → Prop} {n : Nat} {w w' : World} {r : PRaw} {p : Prt} {row : Option Nat} (h : RdPrt P n w r p) (hg : w.grownBy w' row) (hP : ∀ b, P b → some b ≠ row) : RdPrt P n w' r p := RdPrt.keep hg.size (fun b hb hlt => hg.block b hlt (hP b hb)) h
def ErrN (w : World) (v : Value) (n : Int) : Prop := v = .iface 30 (.int .i64 n) ∨ ∃ b p, v = .iface 253 (.pointer (some ⟨b, 0, none⟩)) ∧ w.cell? ⟨b, 0, none⟩ = some (.int .i64 n) ∧ w.cell? ⟨b, 1, none⟩ = some (.int .i64 p)
theorem ErrN.v {w : World} {v : Value} {n : Int} (h : ErrN w v n) : ErrV w v n := Or.inr h
theorem ErrV.n {w : World} {v : Value} {n : Int} (h : ErrV w v n) (hn : n ≠ 0) : ErrN w v n := by
  rcases h with ⟨_, h⟩ | h
  · exact absurd h hn
  · exact h
theorem ErrN.next {w w' : World} {v : Value} {n : Int} (h : ErrN w v n) (hb : Below w.heap.size w w') : ErrN w' v n := by
  rcases h with h | ⟨b, p, h1, h2, h3⟩
  · exact Or.inl h
  · have hlt : b < w.heap.size := World.block_lt_of_cell? w _ h2
    exact Or.inr ⟨b, p, h1, (hb.cell (p := ⟨b, 0, none⟩) hlt).trans h2, (hb.cell (p := ⟨b, 1, none⟩) hlt).trans h3⟩
theorem ErrN.some {w : World} {v : Value} {n : Int} (h : ErrN w v n) : ∃ t x, v = .iface t x := by
  rcases h with h | ⟨b, p, h, _⟩
  · exact ⟨_, _, h⟩
  · exact ⟨_, _, h⟩
structure Gz (w : World) : Prop where
  r : Gr w
  tab : Lib.TabIs Tryz.prog w "internal/strconv.uint64pow10" .u64 Lib.pow10Tab
  syn : ∃ ev, w.cell? ⟨7, 0, none⟩ = some ev
  rng : ∃ ev, w.cell? ⟨8, 0, none⟩ = some ev
theorem tabName : Tryz.prog.globalNamed "internal/strconv.uint64pow10" = some 4 := by kernel_rfl
theorem Gz.size {w : World} (h : Gz w) : 8 < w.heap.size := by
  obtain ⟨ev, h1⟩ := h.rng
  exact World.block_lt_of_cell? w _ h1
theorem Gz.keep {w w' : World} (h : Gz w) (hk : ∀ b, b ≤ 8 → w'.heap[b]? = w.heap[b]?) : Gz w' := by
  have go : ∀ b k, b ≤ 8 → w'.cell? ⟨b, k, none⟩ = w.cell? ⟨b, k, none⟩ := fun b k hb => by simp only [World.cell?]; rw [hk b hb]
  refine ⟨h.r.keep fun b hb => hk b (Nat.le_trans hb (by decide)), ?_, ?_, ?_⟩
  · have ht := h.tab
    unfold Lib.TabIs World.var? at ht ⊢
    rw [tabName] at ht ⊢
    simp only [Option.bind_some] at ht ⊢
    rw [hk _ (by decide)]; exact ht
  · obtain ⟨ev, h1⟩ := h.syn
    exact ⟨ev, (go _ _ (by decide)).trans h1⟩
  · obtain ⟨ev, h1⟩ := h.rng
    exact ⟨ev, (go _ _ (by decide)).trans h1⟩
theorem Gz.next {w w' : World} (h : Gz w) (hb : Below w.heap.size w w') : Gz w' := h.keep fun b hle => hb.block b (by have := h.size; omega)
theorem Gz.nextO {lb : Nat} {w w' : World} (h : Gz w) (hb : BelowO lb w.heap.size w w') (hl : 8 < lb) : Gz w' := h.keep fun b hle => hb.block b (by have := h.size; omega) (by omega)
theorem itoa_any (n : Int) (h0 : -9223372036854775808 ≤ n) (h1 : n ≤ 9223372036854775807) (w : World) (hg : Gz w) :
    Calls Tryz.prog 41 #[.int .i64 n] w fun e w' => e = .returned (.string ⟨(Lib.itoa n).toArray⟩) ∧ Below w.heap.size w w' := by
  refine (Tryz.strconv_Itoa n h0 h1 w hg.tab).mono ?_
  rintro e w' ⟨rfl, k, os, rfl⟩
  exact ⟨rfl, Lib.below_grow _ w (Nat.le_refl _) k os⟩
theorem strs_arr {fuel n : Nat} {t e : TypeId} {w : World} {cs : List Value} {ss : List Bs} {p : List MemPlace} (ht : Tryz.prog.underlying t = some (.array n e)) (he : Tryz.prog.underlying e = some .string) (hce : Tryz.prog.cellsOf e = 1) (hct : Tryz.prog.cellsOf t = n)
    (h : DataW.trod (fun _ => ()) Tryz.prog w 0 (fun _ => true) false fuel t cs = some (.agg (ss.map fun s => .lit (.string s)), p)) : cs = ss.map fun s => Value.string ⟨s.toArray⟩ := by
  obtain ⟨xs, m, rfl, hx, hl, hxl, hall⟩ := DataW.trod_array ht h
  have hxs : xs.map (·.1) = ss.map fun s => (DataW.lit (.string s) : DataW Unit) := by
    have := congrArg Prod.fst hx
    simpa using this.symm
  have hsl : ss.length = n := by have := congrArg List.length hxs; simp at this; omega
  apply List.ext_getElem?
  intro i
  by_cases hi : i < n
  · have hf := hall i hi
    rw [hce, Nat.mul_one, List.getElem?_eq_getElem (by omega : i < xs.length)] at hf
    obtain ⟨z, hc, hz, _⟩ := DataW.trod_string he hf
    have h1 : cs[i]? = some (.string z) := by
      have := congrArg (·[0]?) hc
      simpa [List.getElem?_take, List.getElem?_drop] using this
    have h2 : (xs.map (·.1))[i]? = (ss.map fun s => (DataW.lit (.string s) : DataW Unit))[i]? := by rw [hxs]
    simp only [List.getElem?_map, List.getElem?_eq_getElem (by omega : i < xs.length), List.getElem?_eq_getElem (by omega : i < ss.length), Option.map_some, hz] at h2
    rw [h1, List.getElem?_map, List.getElem?_eq_getElem (by omega : i < ss.length)]
    simp at h2
    simp [← h2]
  · rw [List.getElem?_eq_none (by omega), List.getElem?_eq_none (by simp; omega)]
def oursL : List Bs := [[67, 111, 110, 116, 101, 110, 116, 45, 84, 121, 112, 101], [67, 111, 110, 116, 101, 110, 116, 45, 84, 114, 97, 110, 115, 102, 101, 114, 45, 69, 110, 99, 111, 100, 105, 110, 103]]
theorem ours_of {W : World} (h : Lib.VarReads Tryz.prog W "bindery/part.ours" (.agg (oursL.map fun s => .lit (.string s)))) : ∀ k, k < 2 → W.cell? ⟨2, k, none⟩ = oursRow[k]? := by
  obtain ⟨g, t, cs, fuel, p, hg, hty, hv, hd⟩ := h
  obtain rfl := Option.some.inj ((show Tryz.prog.globalNamed "bindery/part.ours" = some 2 by kernel_rfl).symm.trans hg)
  obtain rfl := Option.some.inj ((show (Tryz.prog.globals[2]?).map (·.type) = some 249 by kernel_rfl).symm.trans hty)
  have e := strs_arr Tryz.underlying249 Tryz.underlying9 (by kernel_rfl) (by kernel_rfl) hd
  intro k hk
  rw [World.var?_cell hg hv k, ← Array.getElem?_toList, e]
  rcases (show k = 0 ∨ k = 1 by omega) with rfl | rfl <;> rfl
theorem pow_of {W : World} (h : Lib.VarReads Tryz.prog W "internal/strconv.uint64pow10" (Lib.tabData .u64 Lib.pow10Tab)) : Lib.TabIs Tryz.prog W "internal/strconv.uint64pow10" .u64 Lib.pow10Tab := by
  obtain ⟨g, t, cs, fuel, p, hg, hty, hv, hd⟩ := h
  obtain rfl := Option.some.inj ((show Tryz.prog.globalNamed "internal/strconv.uint64pow10" = some 4 by kernel_rfl).symm.trans hg)
  obtain rfl := Option.some.inj ((show (Tryz.prog.globals[4]?).map (·.type) = some 340 by kernel_rfl).symm.trans hty)
  unfold Lib.TabIs
  rw [hv, ← Lib.cells_of_tab Tryz.underlying340 Tryz.underlying143 (by kernel_rfl) (by kernel_rfl) hd]
def signsL : List (List Bs) := [[[38], [38, 97, 109, 112, 59]], [[34], [38, 113, 117, 111, 116, 59]], [[39], [38, 35, 51, 57, 59]], [[60], [38, 108, 116, 59]], [[62], [38, 103, 116, 59]]]
theorem signs_of {W : World} (h : Lib.VarReads Tryz.prog W "bindery/page.signs" (.agg (signsL.map fun r => .agg (r.map fun s => .lit (.string s))))) : ∀ k, k < 10 → W.cell? ⟨1, k, none⟩ = sigRow[k]? := by
  obtain ⟨g, t, cs, fuel, p, hg, hty, hv, hd⟩ := h
  obtain rfl := Option.some.inj ((show Tryz.prog.globalNamed "bindery/page.signs" = some 1 by kernel_rfl).symm.trans hg)
  obtain rfl := Option.some.inj ((show (Tryz.prog.globals[1]?).map (·.type) = some 250 by kernel_rfl).symm.trans hty)
  obtain ⟨xs, m, rfl, hx, hl, hxl, hall⟩ := DataW.trod_array Tryz.underlying250 hd
  have hxs : xs.map (·.1) = signsL.map fun r => (DataW.agg (r.map fun s => .lit (.string s)) : DataW Unit) := by
    have := congrArg Prod.fst hx
    simpa using this.symm
  have hce : Tryz.prog.cellsOf 249 = 2 := by kernel_rfl
  have row : ∀ (i : Nat) (r : List Bs), signsL[i]? = some r → i < 5 → ((cs.toList.drop (i * 2)).take 2) = r.map fun s => Value.string ⟨s.toArray⟩ := fun i r hr hi => by
    have hf := hall i hi
    rw [hce] at hf
    have h2 : (xs.map (·.1))[i]? = some (DataW.agg (r.map fun s => .lit (.string s)) : DataW Unit) := by rw [hxs, List.getElem?_map, hr]; rfl
    rw [List.getElem?_map, Option.map_eq_some_iff] at h2
    obtain ⟨⟨y, q⟩, hy, rfl⟩ := h2
    rw [hy] at hf
    exact strs_arr Tryz.underlying249 Tryz.underlying9 (by kernel_rfl) (by kernel_rfl) hf
  intro k hk
  rw [World.var?_cell hg hv k, ← Array.getElem?_toList]
  have key : ∀ (i j : Nat) (r : List Bs), signsL[i]? = some r → i < 5 → j < 2 → cs.toList[i * 2 + j]? = (r.map fun s => Value.string ⟨s.toArray⟩)[j]? := fun i j r hr hi hj => by
    rw [← row i r hr hi, List.getElem?_take, if_pos hj, List.getElem?_drop]
  rcases (show k = 0 ∨ k = 1 ∨ k = 2 ∨ k = 3 ∨ k = 4 ∨ k = 5 ∨ k = 6 ∨ k = 7 ∨ k = 8 ∨ k = 9 by omega) with rfl | rfl | rfl | rfl | rfl | rfl | rfl | rfl | rfl | rfl
  · exact key 0 0 _ rfl (by decide) (by decide)
  · exact key 0 1 _ rfl (by decide) (by decide)
  · exact key 1 0 _ rfl (by decide) (by decide)
  · exact key 1 1 _ rfl (by decide) (by decide)
  · exact key 2 0 _ rfl (by decide) (by decide)
  · exact key 2 1 _ rfl (by decide) (by decide)
  · exact key 3 0 _ rfl (by decide) (by decide)
  · exact key 3 1 _ rfl (by decide) (by decide)
  · exact key 4 0 _ rfl (by decide) (by decide)
  · exact key 4 1 _ rfl (by decide) (by decide)
theorem gz_of {W : World} (hG : Ground W) (hs : W.ShapedOpen Tryz.prog) (h1 : Lib.VarReads Tryz.prog W "bindery/page.signs" (.agg (signsL.map fun r => .agg (r.map fun s => .lit (.string s))))) (h2 : Lib.VarReads Tryz.prog W "bindery/part.ours" (.agg (oursL.map fun s => .lit (.string s))))
    (h3 : Lib.VarReads Tryz.prog W "internal/strconv.uint64pow10" (Lib.tabData .u64 Lib.pow10Tab))
    (he : W.cell? ⟨0, 0, none⟩ = some (.iface 262 (.agg #[.pointer (some ⟨12, 25, none⟩)]))) : Gz W :=
  ⟨⟨hG, signs_of h1, ours_of h2, he⟩, pow_of h3, Clock.cell_of_shape (zero := #[.nilIface]) (t := 25) hs (of_decide_eq_true (by kernel_rfl)) (by kernel_rfl) rfl, Clock.cell_of_shape (zero := #[.nilIface]) (t := 25) hs (of_decide_eq_true (by kernel_rfl)) (by kernel_rfl) rfl⟩
end Go.Proofs.YtignjjnflcpiiaaGreatDoor
namespace Go.Proofs.YtignjjnflcpiiaaGreatDoor
open Go Go.ChangeShapes Go.WideShapes Go.ChangeAt Go.RowKit Go.ChangeMaps
abbrev laidBB : List (String × DataW Unit) := Rows.bundleBindsRow.laid
theorem seatOwnZ : ownKnob Tryz.prog.godebug = none := by kernel_rfl
theorem et_rtZ : (Tryz.prog.cutTypes.find? (·.1 == "internal/reflectlite.rtype")).map (·.2) = some 262 := by kernel_rfl
theorem et_rowZ : ((List.range 1000).filter fun t => Tryz.prog.rowNamed t [101, 114, 114, 111, 114]) = [25] := by kernel_rfl
theorem et_sizeZ : Tryz.prog.types.size ≤ 1000 := of_decide_eq_true (by kernel_rfl)
theorem gz_of_laidB {W : World} (hG : Ground W) (hs : W.ShapedOpen Tryz.prog) (h : laidMetH Tryz.prog laidBB W) : Gz W := by
  have h' : laidMet Tryz.prog (laidBB.filter fun x => x.2.handleName?.isNone) W ∧ handlesMet Tryz.prog [("errors.errorType", Rows.laid_errors_errorType)] W := h
  obtain ⟨name, u, ty, e1, e2, e3, e4, e5⟩ := h'.2 _ (List.mem_singleton.2 rfl)
  have en : name = [101, 114, 114, 111, 114] := (Option.some.inj e1).symm
  subst en
  obtain rfl := Option.some.inj (et_rtZ.symm.trans e2)
  have hm : ty ∈ (List.range 1000).filter fun t => Tryz.prog.rowNamed t [101, 114, 114, 111, 114] := List.mem_filter.2 ⟨List.mem_range.2 (Nat.lt_of_lt_of_le e3 et_sizeZ), e4⟩
  rw [et_rowZ] at hm
  obtain rfl := List.mem_singleton.1 hm
  have hh : typeHandle Tryz.prog 25 = .pointer (some ⟨12, 25, none⟩) := by kernel_rfl
  rw [hh] at e5
  have hr := fun n d (hm : (n, d) ∈ laidBB.filter fun x => x.2.handleName?.isNone) => Lib.laidMet.reads h'.1 hm
  exact gz_of hG hs (hr "bindery/page.signs" Rows.laid_bindery_page_signs (List.mem_of_getElem? (i := 4) (by kernel_rfl))) (hr "bindery/part.ours" Rows.laid_bindery_part_ours (List.mem_of_getElem? (i := 5) (by kernel_rfl))) (hr _ Rows.laid_internal_strconv_uint64pow10 (List.mem_of_getElem? (i := 2) (by kernel_rfl)))
    (by simpa using World.var?_cell (show Tryz.prog.globalNamed "errors.errorType" = some 0 by kernel_rfl) e5 0)
end Go.Proofs.YtignjjnflcpiiaaGreatDoor
namespace Go.Proofs.YtignjjnflcpiiaaGreatDoor
open Go
theorem cutP_crlf : ∀ {a : Bs} (b : Bs), (13 : UInt8) ∉ a → cutP [13, 10] (a ++ 13 :: 10 :: b) = some (a, b)
  | [], b, _ => by
    unfold cutP
    simp [List.isPrefixOf]
  | c :: a, b, h => by
    have hc : (13 : UInt8) ≠ c := fun e => h (by rw [e]; exact List.mem_cons_self ..)
    have ih := cutP_crlf b (a := a) (fun hm => h (List.mem_cons_of_mem _ hm))
    rw [List.cons_append]
    unfold cutP
    rw [ih]
    simp [List.isPrefixOf, hc]
theorem cut_line {a : Bs} (b : Bs) (h : (13 : UInt8) ∉ a) : Lib.cut (a ++ 13 :: 10 :: b) [13, 10] = (a, b, true) := by
  rw [cut_cutP, cutP_crlf b h]
theorem readHF_more : ∀ (f g : Nat) (out : List Fld) (s : Bs), s.length < f → s.length < g → readHF f out s = readHF g out s
  | 0, _, _, _, h, _ => absurd h (Nat.not_lt_zero _)
  | _ + 1, 0, _, _, _, h => absurd h (Nat.not_lt_zero _)
  | f + 1, g + 1, out, s, h1, h2 => by
    by_cases hs : s = []
    · subst hs; rfl
    rw [readHF_succ hs, readHF_succ hs]
    have hc := (cut_facts hs [13, 10] (by decide)).2.1
    split
    · rfl
    · cases lineOf out (Lib.cut s [13, 10]).1 with
      | none => rfl
      | some o => exact readHF_more f g o _ (by omega) (by omega)
def readO (out : List Fld) (s : Bs) : Option (List Fld × Bs) := readHF (s.length + 1) out s
theorem readO_line {out : List Fld} {x : Bs} (T : Bs) (h : (13 : UInt8) ∉ x) (hx : x ≠ []) : readO out (x ++ 13 :: 10 :: T) = match lineOf out x with
    | none => none
    | some o => readO o T := by
  unfold readO
  rw [readHF_succ (by simp), cut_line T h]
  simp only
  rw [if_neg (fun h => hx h.1)]
  cases lineOf out x with
  | none => rfl
  | some o => exact readHF_more _ _ o T (by simp; omega) (by omega)
theorem readO_end (out : List Fld) (T : Bs) : readO out (13 :: 10 :: T) = some (out, T) := by
  unfold readO
  rw [readHF_succ (by simp), show (13 :: 10 :: T : Bs) = [] ++ 13 :: 10 :: T from rfl, cut_line T (by simp)]
  simp
theorem dw_head {p : UInt8 → Bool} : ∀ {l : Bs} {x : UInt8} {t : Bs}, l.dropWhile p = x :: t → p x = false
  | [], _, _, h => by simp at h
  | a :: l, x, t, h => by
    rw [List.dropWhile_cons] at h
    split at h
    · exact dw_head h
    · rename_i hp; injection h with h1 _; subst h1; simpa using hp
theorem word_rest (l : Bs) : l.drop (wordN l) = [] ∨ ∃ t, l.drop (wordN l) = 32 :: t := by
  have e : l.drop (wordN l) = (l.drop (nb l)).dropWhile (fun c => c != 32) := by
    unfold wordN
    rw [← List.drop_drop]
    exact drop_takeWhile _ _
  rw [e]
  cases h : (l.drop (nb l)).dropWhile (fun c => c != 32) with
  | nil => exact Or.inl rfl
  | cons x t =>
    right
    have := dw_head h
    simp at this
    exact ⟨t, by rw [this]⟩
theorem lineOf_on {o : List Fld} {n v : Bs} (t x : Bs) : lineOf (o ++ [(n, v)]) (32 :: t ++ x) = some (o ++ [(n, v ++ (32 :: t ++ x))]) := by
  unfold lineOf
  simp [goesOn]
theorem line_back : ∀ (k : Nat) (head rest : Bs) (o o' : List Fld) (n v T : Bs), rest.length < k → (13 : UInt8) ∉ head → (13 : UInt8) ∉ rest → head ≠ [] → (rest = [] ∨ ∃ t, rest = 32 :: t) →
    (∀ x, (13 : UInt8) ∉ x → lineOf o (head ++ x) = some (o' ++ [(n, v ++ x)])) → readO o (lineF k head rest ++ T) = readO (o' ++ [(n, v ++ rest)]) T
  | 0, _, _, _, _, _, _, _, h, _, _, _, _, _ => absurd h (Nat.not_lt_zero _)
  | k + 1, head, rest, o, o', n, v, T, hk, h1, h2, h3, h4, h5 => by
    have h50 := h5 [] (by simp)
    rw [List.append_nil, List.append_nil] at h50
    unfold lineF
    by_cases hr : rest = []
    · rw [if_pos hr, hr, List.append_nil, List.append_assoc]
      show readO o (head ++ 13 :: 10 :: T) = _
      rw [readO_line T h1 h3, h50]
    · rw [if_neg hr]
      have hp := wordN_pos hr
      have hle := wordN_le rest
      obtain ⟨t, ht⟩ : ∃ t, rest.take (wordN rest) = 32 :: t := by
        rcases h4 with h4 | ⟨t, rfl⟩
        · exact absurd h4 hr
        · obtain ⟨w, hw⟩ : ∃ w, wordN (32 :: t) = w + 1 := ⟨wordN (32 :: t) - 1, by omega⟩
          rw [hw]; exact ⟨t.take w, rfl⟩
      have e := List.take_append_drop (wordN rest) rest
      have m1 : (13 : UInt8) ∉ rest.take (wordN rest) := fun h => h2 (List.mem_of_mem_take h)
      have m2 : (13 : UInt8) ∉ rest.drop (wordN rest) := fun h => h2 (List.mem_of_mem_drop h)
      have hl : (rest.drop (wordN rest)).length < k := by rw [List.length_drop]; omega
      by_cases hc : head.length + wordN rest > 76
      · rw [if_pos hc, if_pos hc, List.nil_append, List.append_assoc, List.append_assoc]
        show readO o (head ++ 13 :: 10 :: (lineF k (rest.take (wordN rest)) (rest.drop (wordN rest)) ++ T)) = _
        rw [readO_line _ h1 h3, h50]
        simp only
        rw [line_back k (rest.take (wordN rest)) (rest.drop (wordN rest)) _ o' n (v ++ rest.take (wordN rest)) T hl m1 m2 (by rw [ht]; simp) (word_rest rest) (fun x _ => by rw [ht, lineOf_on]; simp)]
        rw [List.append_assoc, e]
      · rw [if_neg hc, if_neg hc, List.nil_append]
        rw [line_back k (head ++ rest.take (wordN rest)) (rest.drop (wordN rest)) o o' n (v ++ rest.take (wordN rest)) T hl (fun h => (List.mem_append.1 h).elim h1 m1) m2 (by simp [h3]) (word_rest rest) (fun x hx => by
          rw [List.append_assoc, h5 _ (fun h => (List.mem_append.1 h).elim m1 hx), List.append_assoc])]
        rw [List.append_assoc, e]
theorem nameC_no : ∀ c : UInt8, nameC c = true → c ≠ 58 ∧ c ≠ 32 ∧ c ≠ 9 ∧ c ≠ 13 := by
  intro c h
  refine ⟨?_, ?_, ?_, ?_⟩ <;> (intro e; subst e; revert h; decide)
theorem saysC_no : ∀ c : UInt8, saysC c = true → c ≠ 13 := by
  intro c h e; subst e; revert h; decide
theorem nameB_mem {s : Bs} (h : nameB s = true) : (∀ c ∈ s, nameC c = true) ∧ s ≠ [] := by
  unfold nameB at h
  simp at h
  exact ⟨h.1, h.2⟩
theorem valueB_mem {s : Bs} (h : valueB s = true) : (∀ c ∈ s, saysC c = true) ∧ Lib.trimS s [32, 9] = s := by
  unfold valueB at h
  simp at h
  exact ⟨h.1, h.2⟩
theorem firstOf_rest (f : Fld) : f.2.drop (firstOf f).length = [] ∨ ∃ t, f.2.drop (firstOf f).length = 32 :: t := by
  unfold firstOf
  rw [cut_cutP]
  cases h : cutP [32] f.2 with
  | none => left; simp
  | some x =>
    obtain ⟨a, b⟩ := x
    right
    have := cutP_some h
    rw [this]; exact ⟨b, by simp⟩
theorem firstOf_app (f : Fld) : firstOf f ++ f.2.drop (firstOf f).length = f.2 := by
  unfold firstOf
  rw [cut_cutP]
  cases h : cutP [32] f.2 with
  | none => simp
  | some x =>
    obtain ⟨a, b⟩ := x
    have := cutP_some h
    rw [this]; simp
theorem field_back (f : Fld) (o : List Fld) (T : Bs) (h1 : nameB f.1 = true) (h2 : valueB f.2 = true) :
    readO o (lineT (f.1 ++ 58 :: 32 :: firstOf f) (f.2.drop (firstOf f).length) ++ T) = readO (o ++ [(f.1, 32 :: f.2)]) T := by
  obtain ⟨n1, n2⟩ := nameB_mem h1
  obtain ⟨v1, _⟩ := valueB_mem h2
  have ha := firstOf_app f
  have hv : (13 : UInt8) ∉ f.2 := fun h => saysC_no _ (v1 _ h) rfl
  have hn : (13 : UInt8) ∉ f.1 := fun h => (nameC_no _ (n1 _ h)).2.2.2 rfl
  have h58 : (58 : UInt8) ∉ f.1 := fun h => (nameC_no _ (n1 _ h)).1 rfl
  have hf : (13 : UInt8) ∉ firstOf f := fun h => hv (ha ▸ List.mem_append_left _ h)
  have hd : (13 : UInt8) ∉ f.2.drop (firstOf f).length := fun h => hv (List.mem_of_mem_drop h)
  unfold lineT
  rw [line_back _ _ _ o o f.1 (32 :: firstOf f) T (Nat.lt_succ_self _) (by
    intro h
    rcases List.mem_append.1 h with h | h
    · exact hn h
    · rcases List.mem_cons.1 h with h | h
      · revert h; decide
      · rcases List.mem_cons.1 h with h | h
        · revert h; decide
        · exact hf h) hd (by simp) (firstOf_rest f) (fun x _ => by
      unfold lineOf
      have hg : goesOn (f.1 ++ 58 :: 32 :: firstOf f ++ x) = false := by
        cases hh : f.1 with
        | nil => exact absurd hh n2
        | cons c l =>
          have := nameC_no c (n1 c (by rw [hh]; exact List.mem_cons_self ..))
          simp [goesOn, this.2.1, this.2.2.1]
      rw [hg, List.append_assoc, List.cons_append, cutC_mk h58]
      simp [h1])]
  rw [List.cons_append, ha]
theorem head_back1 : ∀ (l : List Fld) (t rest : Bs) (o : List Fld), writeHF l = some t → rightF l = true → readO o (t ++ rest) = readO (o ++ l.map fun f => (f.1, 32 :: f.2)) rest
  | [], t, rest, o, h, _ => by
    simp [writeHF] at h
    subst h; simp
  | f :: l, t, rest, o, h, hr => by
    have hr' : nameB f.1 = true ∧ valueB f.2 = true ∧ rightF l = true := by
      unfold rightF at hr ⊢
      simp only [List.all_cons, Bool.and_eq_true] at hr
      exact ⟨hr.1.1, hr.1.2, hr.2⟩
    unfold writeHF at h
    split at h
    · simp only [Option.map_eq_some_iff] at h
      obtain ⟨t', ht, rfl⟩ := h
      rw [List.append_assoc, field_back f o _ hr'.1 hr'.2.1, head_back1 l t' rest _ ht hr'.2.2]
      simp
    · cases h
theorem writeH_right {l : List Fld} (h : rightF l = true) : ∃ t, writeH l = some t := by
  have key : ∀ l : List Fld, rightF l = true → ∃ t, writeHF l = some t := by
    intro l
    induction l with
    | nil => exact fun _ => ⟨[], rfl⟩
    | cons f l ih =>
      intro h
      have h1 : rightF [f] = true ∧ rightF l = true := by
        unfold rightF at h ⊢
        simp only [List.all_cons, Bool.and_eq_true, List.all_nil] at h ⊢
        exact ⟨⟨h.1, trivial⟩, h.2⟩
      obtain ⟨t, ht⟩ := ih h1.2
      unfold writeHF
      rw [if_pos h1.1, ht]
      exact ⟨_, rfl⟩
  obtain ⟨t, ht⟩ := key l h
  unfold writeH
  rw [ht]
  exact ⟨_, rfl⟩
theorem readH_write {l : List Fld} {t : Bs} (h : writeH l = some t) (hr : rightF l = true) (rest : Bs) : readH (t ++ rest) = some (l.map (fun f => (f.1, 32 :: f.2)), rest) := by
  unfold writeH at h
  simp only [Option.map_eq_some_iff] at h
  obtain ⟨t', ht, rfl⟩ := h
  show readO [] _ = _
  rw [List.append_assoc, head_back1 l t' _ [] ht hr]
  show readO _ (13 :: 10 :: rest) = _
  rw [readO_end]; simp
theorem trimR_cons (c : UInt8) (v cs : Bs) : Lib.trimRightS (c :: v) cs = if Lib.trimRightS v cs = [] then (if cs.contains c then [] else [c]) else c :: Lib.trimRightS v cs := by
  unfold Lib.trimRightS
  rw [List.reverse_cons]
  have key : ∀ l : Bs, (l ++ [c]).dropWhile (cs.contains ·) = if l.dropWhile (cs.contains ·) = [] then (if cs.contains c then [] else [c]) else l.dropWhile (cs.contains ·) ++ [c] := by
    intro l
    induction l with
    | nil => simp [List.dropWhile_cons]
    | cons x l ih =>
      rw [List.cons_append, List.dropWhile_cons, List.dropWhile_cons]
      split
      · exact ih
      · simp
  rw [key]
  split
  · rename_i h; rw [h]; simp; split <;> simp
  · rename_i h; rw [if_neg (by simpa using h)]; simp
theorem trimS_cons {c : UInt8} {cs : Bs} (h : cs.contains c = true) (v : Bs) : Lib.trimS (c :: v) cs = Lib.trimS v cs := by
  unfold Lib.trimS
  rw [trimR_cons]
  split
  · rename_i h2; rw [h2]
  · unfold Lib.trimLeftS
    rw [List.dropWhile_cons_of_pos h]
theorem clean_back : ∀ l : List Fld, rightF l = true → cleanF (l.map fun f => (f.1, 32 :: f.2)) = some l
  | [], _ => rfl
  | f :: l, hr => by
    have hr' : nameB f.1 = true ∧ valueB f.2 = true ∧ rightF l = true := by
      unfold rightF at hr ⊢
      simp only [List.all_cons, Bool.and_eq_true] at hr
      exact ⟨hr.1.1, hr.1.2, hr.2⟩
    rw [List.map_cons]
    unfold cleanF
    simp only
    rw [trimS_cons (by decide), (valueB_mem hr'.2.1).2, if_pos hr'.2.1, clean_back l hr'.2.2]
    rfl
theorem head_back {l : List Fld} (hr : rightF l = true) : ∃ t, writeH l = some t ∧ ∀ rest, ∃ m, readH (t ++ rest) = some (m, rest) ∧ cleanF m = some l := by
  obtain ⟨t, ht⟩ := writeH_right hr
  exact ⟨t, ht, fun rest => ⟨_, readH_write ht hr rest, clean_back l hr⟩⟩
end Go.Proofs.YtignjjnflcpiiaaGreatDoor
