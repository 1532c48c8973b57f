/-
  Small laws on worlds that the walks of this seat share: a row of bytes whose mark lies behind it. No condition.
-/
import Derived.WalkKit
import Derived.WalkSpells
import Derived.WalkLawsBesides
import Derived.Handy
import Derived.Lib.Hide
import Derived.Lib.Strings
import Derived.Laws.IdiomStrings
import Derived.Deep.DeepCutAuto
namespace Go.Proofs.YtignjjnflcpiiaaDoor
open Go.RowKit

theorem ret_bool {a b : Bool} (h : a = b) : Ending.returned (.bool a) = .returned (.bool b) := by rw [h]
theorem ret_int {k : IntKind} {a b : Int} (h : a = b) : Ending.returned (.int k a) = .returned (.int k b) := by rw [h]
theorem ret_str {a b : List UInt8} (h : a = b) : Ending.returned (.string ⟨a.toArray⟩) = .returned (.string ⟨b.toArray⟩) := by rw [h]

/-- A byte of a text that is a list. -/
@[go_sem] theorem ba_get (l : List UInt8) (k : Nat) (h : k < (⟨l.toArray⟩ : ByteArray).size) : (⟨l.toArray⟩ : ByteArray)[k]'h = l[k]'h := rfl

/-- A part of a text that is a list. -/
@[go_sem] theorem ba_extract (l : List UInt8) (a b : Nat) : (⟨l.toArray⟩ : ByteArray).extract a b = ⟨((l.drop a).take (b - a)).toArray⟩ := Lib.extract_eq _ _ _
@[go_sem] theorem take_rest (l : List UInt8) (a : Nat) : (l.drop a).take (l.length - a) = l.drop a := List.take_of_length_le (by simp)

@[go_sem] theorem ba_append (a b : List UInt8) : (⟨a.toArray⟩ : ByteArray) ++ ⟨b.toArray⟩ = ⟨(a ++ b).toArray⟩ := by
  apply ByteArray.ext
  rw [ByteArray.data_append]
  simp

theorem addr_add0 (b j : Nat) : (⟨b, 0, none⟩ : Addr).add j = ⟨b, j, none⟩ := by
  unfold Addr.add
  split
  · rename_i h; rw [h]
  · simp

/-- One more call that makes memory of its own alone. -/
theorem belowStep {w0 W w1 : World} (hb : Below W.heap.size W w1) (K : Below w0.heap.size w0 W) : Below w0.heap.size w0 w1 := K.trans (hb.mono K.size)

/-- Block b is a row of the cells c, nothing of it frozen. -/
def Blk (w : World) (b : Nat) (c : Array Value) (t : TypeId) : Prop := w.heap[b]? = some (.cells c t (0, 0))

theorem Blk.cell {w : World} {b : Nat} {c : Array Value} {t : TypeId} (h : Blk w b c t) (j : Nat) : w.cell? ⟨b, j, none⟩ = c[j]? := by
  unfold Blk at h; simp [World.cell?, h]
theorem Blk.free {w : World} {b : Nat} {c : Array Value} {t : TypeId} (h : Blk w b c t) (j : Nat) : w.frozen? ⟨b, j, none⟩ = false := by
  unfold Blk at h; simp [World.frozen?, h]
theorem Blk.lt {w : World} {b : Nat} {c : Array Value} {t : TypeId} (h : Blk w b c t) : b < w.heap.size := by
  unfold Blk at h
  rcases Nat.lt_or_ge b w.heap.size with h' | h'
  · exact h'
  · simp [Array.getElem?_eq_none h'] at h
theorem Blk.next {w w' : World} {b B : Nat} {c : Array Value} {t : TypeId} (h : Blk w b c t) (hb : Below B w w') (hlt : b < B) : Blk w' b c t := (hb.block b hlt).trans h
theorem Blk.set {w : World} {b : Nat} {c : Array Value} {t : TypeId} (h : Blk w b c t) (j : Nat) (v : Value) : Blk (w.setCell ⟨b, j, none⟩ v) b (c.setIfInBounds j v) t := by
  unfold Blk at h ⊢; simp [World.setCell, Array.getElem?_modify, h]
theorem Blk.setO {w : World} {b : Nat} {c : Array Value} {t : TypeId} (h : Blk w b c t) {a : Addr} (ha : b ≠ a.block) (v : Value) : Blk (w.setCell a v) b c t := (Below.heap_setCell w a v b ha).trans h
theorem Blk.alloc {w : World} {b : Nat} {c : Array Value} {t : TypeId} (h : Blk w b c t) (o : Obj) : Blk (w.alloc o) b c t := (Below.heap_alloc w o b h.lt).trans h
theorem Blk.drew {w : World} {b : Nat} {c : Array Value} {t : TypeId} (h : Blk w b c t) : Blk w.drew b c t := h
theorem Blk.new (w : World) (c : Array Value) (t : TypeId) : Blk (w.alloc (.cells c t)) w.heap.size c t := heap_alloc_new w _

/-- Block b is a row of bytes that begins with l; what is frozen of it lies behind l. -/
def ByteRow (w : World) (b : Nat) (l : List UInt8) : Prop :=
  ∃ C t lo hi, w.heap[b]? = some (.cells C t (lo, hi)) ∧ l.length ≤ lo ∧ ∀ j (h : j < l.length), C[j]? = some (.int .u8 (l[j].toNat : Int))

theorem ByteRow.cell {w : World} {b : Nat} {l : List UInt8} (h : ByteRow w b l) {j : Nat} (hj : j < l.length) : w.cell? ⟨b, j, none⟩ = some (.int .u8 (l[j].toNat : Int)) := by
  obtain ⟨C, t, lo, hi, hb, hlo, hc⟩ := h
  simp [World.cell?, hb, hc j hj]

theorem ByteRow.frozen {w : World} {b : Nat} {l : List UInt8} (h : ByteRow w b l) {j : Nat} (hj : j < l.length) : w.frozen? ⟨b, j, none⟩ = false := by
  obtain ⟨C, t, lo, hi, hb, hlo, hc⟩ := h
  simp only [World.frozen?, hb]
  simp; omega

theorem ByteRow.lt {w : World} {b : Nat} {l : List UInt8} (h : ByteRow w b l) : b < w.heap.size := by
  obtain ⟨C, t, lo, hi, hb, _⟩ := h
  rcases Nat.lt_or_ge b w.heap.size with h' | h'
  · exact h'
  · simp [Array.getElem?_eq_none h'] at hb

theorem ByteRow.of_block {w w' : World} {b : Nat} {l : List UInt8} (h : ByteRow w b l) (e : w'.heap[b]? = w.heap[b]?) : ByteRow w' b l := by
  unfold ByteRow at h ⊢
  rw [e]; exact h

theorem ByteRow.below {w w' : World} {b B : Nat} {l : List UInt8} (h : ByteRow w b l) (hb : Below B w w') (hlt : b < B) : ByteRow w' b l := h.of_block (hb.block b hlt)

theorem ByteRow.set {w : World} {b : Nat} {l : List UInt8} (h : ByteRow w b l) (j : Nat) (c : UInt8) : ByteRow (w.setCell ⟨b, j, none⟩ (.int .u8 (c.toNat : Int))) b (l.set j c) := by
  obtain ⟨C, t, lo, hi, hb, hlo, hc⟩ := h
  refine ⟨C.setIfInBounds j (.int .u8 (c.toNat : Int)), t, lo, hi, ?_, by simpa using hlo, ?_⟩
  · simp [World.setCell, Array.getElem?_modify, hb]
  · intro i hi'
    have hi2 : i < l.length := by simpa using hi'
    rw [Array.getElem?_setIfInBounds]
    by_cases e : j = i
    · subst e
      have : j < C.size := by
        rcases Nat.lt_or_ge j C.size with h' | h'
        · exact h'
        · have := hc j hi2; rw [Array.getElem?_eq_none h'] at this; cases this
      simp [this]
    · simp [e, hc i hi2, List.getElem_set_ne e]

theorem byteRow_conv (w : World) (l : List UInt8) (cap e : Nat) : ByteRow (w.alloc (.cells (bytesRow ⟨l.toArray⟩ cap) e ((bytesRow ⟨l.toArray⟩ cap).size, (bytesRow ⟨l.toArray⟩ cap).size + 1))) w.heap.size l := by
  refine ⟨_, e, _, _, heap_alloc_new w _, ?_, ?_⟩
  · simp [bytesRow]
  · intro j hj
    rw [bytesRow_at _ _ _ (by simpa using hj)]
    simp

end Go.Proofs.YtignjjnflcpiiaaDoor
