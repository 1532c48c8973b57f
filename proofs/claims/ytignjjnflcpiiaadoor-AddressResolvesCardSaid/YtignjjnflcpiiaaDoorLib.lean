/-
  The shelf's contracts in the form in which this seat's walks take them: strings as lists of bytes, the world by 'Below'. Conditions: those of the shelf (lengths below 2^32 or 2^47).
-/
import Derived.Test.YtignjjnflcpiiaaDoorBase
import Derived.Test.YtignjjnflcpiiaaDoorWords
import Derived.Test.YtignjjnflcpiiaaDoorShelf
import Derived.Shelf.Strings.SlTrimAscii
namespace Go.Proofs.YtignjjnflcpiiaaDoor
open Go Go.RowKit

/-- What the library's variables hold, and that they lie below what the call makes. -/
structure Ground (w : World) : Prop where
  maxLen : ∃ m, w.cell? ⟨0, 0, none⟩ = some (.int .i64 m)

theorem Ground.below {w w' : World} {B : Nat} (h : Ground w) (hb : Below B w w') (hB : 0 < B) : Ground w' := by
  obtain ⟨m, hm⟩ := h.maxLen
  exact ⟨m, (hb.cell (p := ⟨_, 0, none⟩) hB).trans hm⟩

theorem Ground.size {w : World} (h : Ground w) : 0 < w.heap.size := by
  obtain ⟨m, hm⟩ := h.maxLen
  exact World.block_lt_of_cell? w _ hm

theorem Ground.next {w w' : World} (h : Ground w) (hb : Below w.heap.size w w') : Ground w' := h.below hb h.size

abbrev St (l : Bs) : Value := .string ⟨l.toArray⟩

theorem below_drewN (w : World) (n B : Nat) : Below B w (w.drewN n) := Go.below_drewN (Below.refl B w) n

/-- strings.IndexByte. -/
theorem idxByte (l : Bs) (c : Int) (d : UInt8) (hc : c.toNat.toUInt8 = d) (w : World) :
    Calls Tryd.prog 21 #[.string ⟨l.toArray⟩, .int .u8 c] w fun e w' => e = .returned (.int .i64 (Lib.indexByte l d)) ∧ w = w' := by
  refine (Tryd.strings_IndexByte ⟨l.toArray⟩ c w).mono ?_
  rintro e w' ⟨rfl, rfl⟩
  rw [hc]
  exact ⟨rfl, rfl⟩

/-- strings.Cut. -/
theorem cutS (l p : Bs) (w : World) (hl : l.length < 4294967281) (hg : Ground w) :
    Calls Tryd.prog 20 #[.string ⟨l.toArray⟩, .string ⟨p.toArray⟩] w fun e w' =>
      e = .returned (.tuple #[.string ⟨(Lib.cut l p).1.toArray⟩, .string ⟨(Lib.cut l p).2.1.toArray⟩, .bool (Lib.cut l p).2.2]) ∧ Below w.heap.size w w' := by
  obtain ⟨m, hm⟩ := hg.maxLen
  refine (Tryd.strings_Cut ⟨l.toArray⟩ ⟨p.toArray⟩ m w hl hm).mono ?_
  rintro e w' ⟨rfl, n, rfl⟩
  exact ⟨rfl, below_drewN w n _⟩

/-- strings.CutPrefix. -/
theorem cutPre (l p : Bs) (w : World) :
    Calls Tryd.prog 23 #[.string ⟨l.toArray⟩, .string ⟨p.toArray⟩] w fun e w' => e = .returned (.tuple #[.string ⟨(Lib.trimPrefix l p).toArray⟩, .bool (Lib.hasPrefix l p)]) ∧ w = w' := by
  refine (Tryd.strings_CutPrefix ⟨l.toArray⟩ ⟨p.toArray⟩ w).mono ?_
  rintro e w' ⟨rfl, rfl⟩
  exact ⟨rfl, rfl⟩

/-- strings.HasPrefix. -/
theorem hasPre (l p : Bs) (w : World) :
    Calls Tryd.prog 32 #[.string ⟨l.toArray⟩, .string ⟨p.toArray⟩] w fun e w' => e = .returned (.bool (Lib.hasPrefix l p)) ∧ w = w' := by
  refine (Tryd.strings_HasPrefix ⟨l.toArray⟩ ⟨p.toArray⟩ w).mono ?_
  rintro e w' ⟨rfl, rfl⟩
  exact ⟨rfl, rfl⟩

/-- strings.LastIndexByte. -/
theorem lastIdx (l : Bs) (c : Int) (w : World) (hl : l.length < 4611686018427387904) :
    Calls Tryd.prog 26 #[.string ⟨l.toArray⟩, .int .u8 c] w fun e w' => e = .returned (.int .i64 (Lib.lastIndexByte ⟨l.toArray⟩ c)) ∧ w = w' := by
  refine (Tryd.strings_LastIndexByte ⟨l.toArray⟩ c hl w).mono ?_
  rintro e w' ⟨rfl, rfl⟩
  exact ⟨rfl, rfl⟩

/-- strings.Index. -/
theorem idxStr (l p : Bs) (w : World) (hl : l.length < 4294967281) (hg : Ground w) :
    Calls Tryd.prog 30 #[.string ⟨l.toArray⟩, .string ⟨p.toArray⟩] w fun e w' => e = .returned (.int .i64 (Lib.index l p)) ∧ w = w' := by
  obtain ⟨m, hm⟩ := hg.maxLen
  refine (Tryd.strings_Index ⟨l.toArray⟩ ⟨p.toArray⟩ m w hl hm).mono ?_
  rintro e w' ⟨rfl, rfl⟩
  exact ⟨rfl, rfl⟩

/-- A row of strings. -/
def strRow (xs : List Bs) : Array Value := (xs.map fun x => Value.string ⟨x.toArray⟩).toArray

/-- strings.Split at one byte. -/
theorem splitOne (l : Bs) (c : UInt8) (w : World) (hl : l.length < 4294967281) (hg : Ground w) :
    Calls Tryd.prog 10 #[.string ⟨l.toArray⟩, .string ⟨#[c]⟩] w fun e w' =>
      e = .returned (.slice (some ⟨w.heap.size, 0, none⟩) (splitC c l).length (splitC c l).length) ∧ w' = w.alloc (.cells (strRow (splitC c l)) 9) := by
  obtain ⟨m, hm⟩ := hg.maxLen
  refine (Tryd.strings_Split ⟨l.toArray⟩ ⟨#[c]⟩ m w hl hm (Nat.le_refl 1)).mono ?_
  rintro e w' ⟨rfl, rfl⟩
  rw [countB_one, split_one, List.map_map]
  exact ⟨rfl, rfl⟩

/-- strings.Join. -/
theorem joinStr (bk o c : Nat) (xs : List Bs) (p : Bs) (w : World) (hcells : ∀ (j : Nat) x, xs[j]? = some x → w.cell? ⟨bk, o + j, none⟩ = some (.string ⟨x.toArray⟩)) (hbk : bk < w.heap.size) (hN : xs.length ≤ 140737488355328) (hcap : xs.length ≤ c) (hlen : (Lib.join xs p).length ≤ 140737488355328) :
    Calls Tryd.prog 35 #[.slice (some ⟨bk, o, none⟩) xs.length c, .string ⟨p.toArray⟩] w fun e w' => e = .returned (.string ⟨(Lib.join xs p).toArray⟩) ∧ Below w.heap.size w w' := by
  have hm : (xs.map fun x => (⟨x.toArray⟩ : ByteArray)).map (·.data.toList) = xs := by
    rw [List.map_map]; conv => rhs; rw [← List.map_id xs]
    exact List.map_congr_left fun x _ => rfl
  have h := Tryd.strings_Join bk o c (xs.map fun x => (⟨x.toArray⟩ : ByteArray)) ⟨p.toArray⟩ w (fun j x hj => by
    rw [List.getElem?_map] at hj
    cases hx : xs[j]? with
    | none => rw [hx] at hj; cases hj
    | some y => rw [hx] at hj; simp at hj; rw [← hj]; exact hcells j y hx) hbk (by simpa using hN) (by simpa using hcap) (by rw [hm]; exact hlen)
  rw [hm, List.length_map] at h
  exact h

/-- strings.Join of nothing. -/
theorem joinNone (a : Option Addr) (c : Nat) (p : Bs) (w : World) :
    Calls Tryd.prog 35 #[.slice a 0 c, .string ⟨p.toArray⟩] w fun e w' => e = .returned (.string ⟨#[]⟩) ∧ w = w' := by
  refine (Tryd.strings_Join_none a c ⟨p.toArray⟩ w).mono ?_
  rintro e w' ⟨rfl, rfl⟩
  exact ⟨rfl, rfl⟩

/-- A builder of the call's own that holds l. -/
abbrev Bld (B b : Nat) (l : Bs) (w : World) : Prop := Lib.IsBuilder 53 5 B b (Lib.byteCells l) w

theorem bldNew (w : World) : Bld w.heap.size w.heap.size [] (w.alloc (.cells #[.pointer none, .slice none 0 0] 53)) := Lib.fresh_isBuilder _ _ w

theorem Bld.mono {B B' b : Nat} {l : Bs} {w : World} (h : Bld B b l w) (hB : B' ≤ B) : Bld B' b l w := by
  have go : ∀ p, Lib.BuilderAt 53 5 B b p (Lib.byteCells l) w → Lib.BuilderAt 53 5 B' b p (Lib.byteCells l) w := by
    rintro p ⟨h1, v, h2, ⟨h3, h4⟩, h5⟩
    refine ⟨Nat.le_trans hB h1, v, h2, ⟨h3, ?_⟩, h5⟩
    rcases h4 with h4 | ⟨g, cap, cur, hv, hg, r⟩
    · exact Or.inl h4
    · exact Or.inr ⟨g, cap, cur, hv, Nat.le_trans hB hg, r⟩
  exact h.imp (go _) (go _)

theorem Bld.drew {B b : Nat} {l : Bs} {w : World} (h : Bld B b l w) : Bld B b l w.drew := h.imp (·.drew) (·.drew)

/-- strings.Builder.WriteString. -/
theorem wrStr (B b : Nat) (l s : Bs) (w : World) (h : Bld B b l w) (hlen : l.length + s.length ≤ 140737488355328) (hBw : B ≤ w.heap.size) :
    Calls Tryd.prog 24 #[.pointer (some ⟨b, 0, none⟩), .string ⟨s.toArray⟩] w fun e w' => e = .returned (.tuple #[.int .i64 s.length, .nilIface]) ∧ Bld B b (l ++ s) w' ∧ Below B w w' := by
  refine (Any.Builder_WriteString { Tryd.lays156 with } Tryd.Builder_Extra_156 B b (Lib.byteCells l) ⟨s.toArray⟩ w h (by rw [Lib.byteCells_length]; exact hlen) hBw).mono ?_
  rintro e w' ⟨rfl, h1, h2⟩
  refine ⟨rfl, Or.inr ?_, h2⟩
  have e : Lib.byteCells l ++ Lib.strCells ⟨s.toArray⟩ = Lib.byteCells (l ++ s) := by simp [Lib.byteCells, Lib.strCells]
  rw [← e]; exact h1

/-- strings.Builder.String. -/
theorem bldStr (B b : Nat) (l : Bs) (w : World) (h : Bld B b l w) (hBw : B ≤ w.heap.size) :
    Calls Tryd.prog 25 #[.pointer (some ⟨b, 0, none⟩)] w fun e w' => e = .returned (.string ⟨l.toArray⟩) ∧ Below B w w' := Tryd.Builder_String_any B b l w h hBw

/-- strings.Trim at a written cutset. -/
theorem trimStr (l cs : Bs) (w : World) (hl : l.length ≤ 9223372036854775807) (hcs : cs.length < 4294967281) (hascii : cs.all (fun b => decide (b.toNat < 128)) = true) :
    Calls Tryd.prog 38 #[.string ⟨l.toArray⟩, .string ⟨cs.toArray⟩] w fun e w' => e = .returned (.string ⟨(Lib.trimS l cs).toArray⟩) ∧ Below w.heap.size w w' :=
  Any.strings_Trim_laid Tryd.lays160 (by kernel_rfl) ⟨l.toArray⟩ ⟨cs.toArray⟩ w hl hcs (fun j b hj => by
    have := List.all_eq_true.1 hascii b (List.mem_of_getElem? hj)
    simpa using this)

/-- A slice of strings that the call itself made. -/
abbrev OwnS (w : World) (B : Nat) (v : Value) (xs : List Bs) : Prop := w.ownsRow B 9 1 v xs.length (xs.map fun x => Value.string ⟨x.toArray⟩)

theorem infoStr : (Tryd.prog.info? 9).map (fun i => (i.zero, i.size, i.bytes)) = some (some (.string ByteArray.empty), 1, 16) := by kernel_rfl

theorem OwnS.shape {w : World} {B : Nat} {v : Value} {xs : List Bs} (h : OwnS w B v xs) : ∃ a cap, v = .slice a xs.length cap := by
  rcases h.2 with ⟨hv, h0⟩ | ⟨g, cap, cur, hv, _⟩
  · exact ⟨none, 0, by rw [hv, h0]⟩
  · exact ⟨_, _, hv⟩

/-- append of one string to a slice of the call's own. -/
theorem appS {Q : Exit → Act → World → Prop} {ops : Array Oper} {rest : List Oper} {o : Oper} {a : Act} {w : World} (hgd : o.guard = none) (s x : Operand)
    (ho : o.op = .call { callee := .builtin .append, args := #[s, x], argTypes := #[32, 32] }) (B : Nat) (v : Value) (xs : List Bs) (y : Bs) (b : Nat)
    (hs : a.eval s = v) (hown : OwnS w B v xs) (hx : a.eval x = .slice (some ⟨b, 0, none⟩) 1 1) (hc : w.cell? ⟨b, 0, none⟩ = some (.string ⟨y.toArray⟩)) (hn : xs.length + 1 ≤ 8796093022208) (hbase : B ≤ w.heap.size)
    (h : ∀ v' w', OwnS w' B v' (xs ++ [y]) → w.grownBy w' v.ownBlock → Below B w w' → wpList Tryd.prog ops Q rest (a.put o.dst v') w') : wpList Tryd.prog ops Q (o :: rest) a w := by
  obtain ⟨i0, hi, hz0, hz1, hz2⟩ := info_parts infoStr
  refine wpList_append_own (w := w) hgd s x 32 ho B 9 i0 (.string ByteArray.empty) 1 16 Tryd.underlying32 hi hz0 hz1 hz2 rfl (by decide) v xs.length _ hs hown ⟨b, 0, none⟩ 1 1 [.string ⟨y.toArray⟩] hx rfl ?_ ?_ ?_ ?_ hbase ?_
  · intro j u hj
    match j, hj with
    | 0, hj => simp at hj; rw [addr_add0, ← hj]; exact hc
  · intro u hu; simp at hu; rw [hu]; rfl
  · unfold maxLen; omega
  · omega
  · intro v' w' h1 h2 _
    refine h v' w' ?_ h2 ((Below.refl B w).grown h2 hbase fun k hk => ?_)
    · have e : (xs.map fun x => Value.string ⟨x.toArray⟩) ++ [Value.string ⟨y.toArray⟩] = (xs ++ [y]).map fun x => Value.string ⟨x.toArray⟩ := by simp
      rw [e] at h1
      have e2 : (xs ++ [y]).length = xs.length + 1 := by simp
      unfold OwnS
      rw [e2]; exact h1
    · rcases hown.2 with ⟨hv, _⟩ | ⟨g, cap, cur, hv, hg, _⟩
      · rw [hv] at hk; cases hk
      · rw [hv] at hk; injection hk with hk; rw [← hk]; exact hg

/-- Its last element away. -/
theorem OwnS.pop {w : World} {B : Nat} {a : Option Addr} {cap : Nat} {xs : List Bs} {y : Bs} (h : OwnS w B (.slice a (xs.length + 1) cap) (xs ++ [y])) : OwnS w B (.slice a xs.length cap) xs := by
  have h0 : (xs ++ [y]).length = xs.length + 1 := by simp
  unfold OwnS at h
  rw [h0] at h
  have ha : ∃ g, a = some ⟨g, 0, none⟩ := by
    rcases h.2 with ⟨hv, h0⟩ | ⟨g, cap, cur, hv, _⟩
    · cases hv
    · injection hv with h1 _; exact ⟨g, h1⟩
  obtain ⟨g, rfl⟩ := ha
  rw [List.map_append] at h
  exact ownsRow_pop (by simp) h

/-- An element of it. -/
theorem OwnS.cell {w : World} {B g cap : Nat} {xs : List Bs} (h : OwnS w B (.slice (some ⟨g, 0, none⟩) xs.length cap) xs) (j : Nat) (y : Bs) (hj : xs[j]? = some y) : w.cell? ⟨g, j, none⟩ = some (.string ⟨y.toArray⟩) := by
  rcases h.2 with ⟨hv, _⟩ | ⟨g', cap', cur, hv, hg, hh, hn, hcap, hsz, htake⟩
  · cases hv
  · injection hv with h1 _ _
    injection h1 with h1
    injection h1 with h1
    subst h1
    have hlt : j < xs.length := (List.getElem?_eq_some_iff.1 hj).1
    have h2 : (cur.toList.take (xs.length * 1))[j]? = some (.string ⟨y.toArray⟩) := by rw [htake]; simp [hj]
    rw [List.getElem?_take, if_pos (by omega)] at h2
    simp [World.cell?, hh]
    simpa using h2

/-- The shape of one that ends in y. -/
theorem OwnS.shapeC {w : World} {B : Nat} {v : Value} {xs : List Bs} {y : Bs} (h : OwnS w B v (xs ++ [y])) :
    ∃ g cap, v = .slice (some ⟨g, 0, none⟩) (xs.length + 1) cap ∧ xs.length + 1 ≤ cap ∧ B ≤ g ∧ OwnS w B (.slice (some ⟨g, 0, none⟩) xs.length cap) xs ∧ (∀ (j : Nat) x, (xs ++ [y])[j]? = some x → w.cell? ⟨g, j, none⟩ = some (.string ⟨x.toArray⟩)) := by
  have h0 : (xs ++ [y]).length = xs.length + 1 := by simp
  have h' := h
  unfold OwnS at h'
  rw [h0] at h'
  rcases h'.2 with ⟨hv, h0⟩ | ⟨g, cap, cur, hv, hg, hh, hn, r⟩
  · omega
  · subst hv
    refine ⟨g, cap, rfl, hn, hg, OwnS.pop (y := y) (by unfold OwnS; rw [h0]; exact h'), fun j x hj => ?_⟩
    refine OwnS.cell (B := B) (cap := cap) (xs := xs ++ [y]) ?_ j x hj
    unfold OwnS; rw [h0]; exact h'

end Go.Proofs.YtignjjnflcpiiaaDoor
