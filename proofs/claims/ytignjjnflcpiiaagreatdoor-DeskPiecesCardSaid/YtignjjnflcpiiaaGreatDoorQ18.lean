/- part.given; slices.IndexFunc with it; slices.Clone of fields. Condition: at most 10^12 fields of texts of at most 10^12 bytes; what the variables hold; slices.DeleteFunc with part.given. Condition: at most 10^12 fields of texts of at most 10^12 bytes; what the variables hold; text.Pack writes bytes . -/
import Derived.Laws.CopyRow
import Derived.Test.YtignjjnflcpiiaaGreatDoorQ17
namespace Go.Proofs.YtignjjnflcpiiaaGreatDoor
open Go Go.RowKit
def givenB (f : Fld) : Bool := lowS f.1 == lowS cteN
set_option maxHeartbeats 4000000 in
set_option maxRecDepth 100000 in
theorem given_any (x y : Bs) (w : World) (hx : x.length ≤ 1000000000000) (hg : Gr w) :
    Calls Tryz.prog 195 #[.agg #[.string ⟨x.toArray⟩, .string ⟨y.toArray⟩]] w fun e w' => e = .returned (.bool (givenB (x, y))) ∧ Below w.heap.size w w' := by
  have c0 : w.cell? ⟨2, 1, none⟩ = some (.string ⟨#[67, 111, 110, 116, 101, 110, 116, 45, 84, 114, 97, 110, 115, 102, 101, 114, 45, 69, 110, 99, 111, 100, 105, 110, 103]⟩) := hg.ours 1 (by decide)
  have hgs := hg.size
  have hk := Blk.new w #[.string ⟨x.toArray⟩, .string ⟨y.toArray⟩] 92
  have B1 := (Below.refl w.heap.size w).alloc (Nat.le_refl _) (.cells #[.string ⟨x.toArray⟩, .string ⟨y.toArray⟩] 92)
  have c1 := (B1.cell (p := ⟨2, 1, none⟩) (by simp only; omega)).trans c0
  have hS1 := fun W => small_any x W (by omega)
  have hS2 := fun W => small_any [67, 111, 110, 116, 101, 110, 116, 45, 84, 114, 97, 110, 115, 102, 101, 114, 45, 69, 110, 99, 111, 100, 105, 110, 103] W (by decide)
  have HN := Lib.hid (show givenB (x, y) = (lowS x == lowS [67, 111, 110, 116, 101, 110, 116, 45, 84, 114, 97, 110, 115, 102, 101, 114, 45, 69, 110, 99, 111, 100, 105, 110, 103]) from rfl)
  generalize lowS x = lx at hS1 HN
  generalize lowS [67, 111, 110, 116, 101, 110, 116, 45, 84, 114, 97, 110, 115, 102, 101, 114, 45, 69, 110, 99, 111, 100, 105, 110, 103] = ly at hS2 HN
  have hsz : (w.alloc (.cells #[.string ⟨x.toArray⟩, .string ⟨y.toArray⟩] 92)).heap.size = w.heap.size + 1 := by simp
  have hlt1 : 2 < (w.alloc (.cells #[.string ⟨x.toArray⟩, .string ⟨y.toArray⟩] 92)).heap.size := by rw [hsz]; omega
  clear c0
  go_enter Tryz.func195, Tryz.ntmps195
  go_upto_region 1 with fail
  generalize World.alloc _ _ = W1 at hk B1 c1 hsz hlt1 ⊢
  have kcd := (Blk.drew hk).cell
  have c1d : W1.drew.cell? ⟨2, 1, none⟩ = some (.string ⟨#[67, 111, 110, 116, 101, 110, 116, 45, 84, 114, 97, 110, 115, 102, 101, 114, 45, 69, 110, 99, 111, 100, 105, 110, 103]⟩) := c1
  have K0 := (Below.refl W1.heap.size W1).drew
  go_region_held3 (fun W => (∀ k, W.cell? ⟨w.heap.size, k, none⟩ = (#[.string ⟨x.toArray⟩, .string ⟨y.toArray⟩])[k]?) ∧ W.cell? ⟨2, 1, none⟩ = some (.string ⟨#[67, 111, 110, 116, 101, 110, 116, 45, 84, 114, 97, 110, 115, 102, 101, 114, 45, 69, 110, 99, 111, 100, 105, 110, 103]⟩) ∧ Below W1.heap.size W1 W)
    (first
      | with_reducible exact ⟨kcd, c1d, K0⟩
      | with_reducible exact ⟨(hk.next K hk.lt).cell, (K.cell (p := ⟨2, 1, none⟩) hlt1).trans c1, K⟩)
    ((first
      | (go_at_call 42; go_split_ands; with_reducible refine (hS1 _).mono ?_; rintro e w10 ⟨rfl, hb⟩; have K := belowStep hb (w0 := W1) (by assumption))
      | (go_at_call 42; go_split_ands; with_reducible refine (hS2 _).mono ?_; rintro e w10 ⟨rfl, hb⟩; have K := belowStep hb (w0 := W1) (by assumption))))
  all_goals go_split_ands
  all_goals go_wp2_with fail
  all_goals
    go_ret
    exact ⟨ret_bool (by rw [HN.out]), B1.trans (Below.mono (B := W1.heap.size) (by assumption) B1.size)⟩
def idxP (p : Fld → Bool) : List Fld → Nat → Int
  | [], _ => -1
  | f :: l, k => if p f then k else idxP p l (k + 1)
set_option maxHeartbeats 4000000 in
set_option maxRecDepth 100000 in
theorem idxGiven_any (v : Value) (l : List Fld) (w : World) (hr : RdF w v l) (hok : FldsOk l) (hg : Gr w) :
    Calls Tryz.prog 180 #[v, .func (.func 195) #[] #[]] w fun e w' => e = .returned (.int .i64 (idxP givenB l 0)) ∧ Below w.heap.size w w' := by
  have hlen := hok.1
  have Hok := Lib.hid hok.2; clear hok
  obtain ⟨a, cap, rfl, hc⟩ := hr.open
  have HC := Lib.hid hc; clear hc hr
  go_enter Tryz.func180, Tryz.ntmps180
  go_wp2_with fail
  go_loopw [8] (fun i wr => ∃ k : Nat, i = .int .i64 k ∧ k ≤ l.length ∧ idxP givenB l 0 = idxP givenB (l.drop k) k ∧ Below w.heap.size w wr) (fun i _ => l.length - (intOf i).toNat)
  case atStart => exact ⟨0, rfl, by omega, by simp, Below.refl _ _⟩
  case round =>
    obtain ⟨k, rfl, hk, hall, B⟩ := hrel
    have Hall := Lib.hid hall; clear hall
    by_cases hlt : k < l.length
    · obtain ⟨b, rfl, hb0, h1, h2⟩ := HC.out k hlt
      have hf := Hok.out l[k] (List.getElem_mem _)
      have HD := Lib.hid (show idxP givenB (l.drop k) k = if givenB l[k] then (k : Int) else idxP givenB (l.drop (k + 1)) (k + 1) from by rw [List.drop_eq_getElem_cons hlt]; rfl)
      have c1 := (B.cell (p := ⟨b, k * 2, none⟩) hb0).trans h1
      have c2 := (B.cell (p := ⟨b, k * 2 + 1, none⟩) hb0).trans h2
      clear h1 h2
      generalize l[k] = f at hf HD c1 c2
      obtain ⟨x, y⟩ := f
      simp only at hf HD c1 c2
      have hG := given_any x y wr hf.1 (hg.next B)
      generalize givenB (x, y) = bg at hG HD
      go_wp2_with fail
      with_reducible refine hG.mono ?_
      rintro e w2 ⟨rfl, hb2⟩
      have B := B.trans (hb2.mono B.size)
      clear hb2 hG
      cases bg with
      | true =>
        have HG := Lib.hid (show idxP givenB l 0 = (k : Int) from by rw [Hall.out, HD.out]; rfl)
        go_wp2_with fail
        go_ret
        exact ⟨ret_int (by rw [HG.out]), B⟩
      | false =>
        have HG := Lib.hid (show idxP givenB l 0 = idxP givenB (l.drop (k + 1)) (k + 1) from by rw [Hall.out, HD.out]; rfl)
        go_wp2_with fail
        go_roundw
        case rel => exact ⟨k + 1, by go_num, by omega, HG.out, B⟩
        case measure => simp [intOf]; omega
    · obtain rfl : k = l.length := by omega
      have HG := Lib.hid (show idxP givenB l 0 = -1 from by rw [Hall.out, List.drop_length]; rfl)
      go_wp2_with fail
      go_ret
      exact ⟨ret_int (by rw [HG.out]), B⟩
theorem add_block (a : Go.Addr) (j : Nat) : (a.add j).block = a.block := by unfold Go.Addr.add; split <;> rfl
theorem ownF_made (w : World) : OwnF (w.alloc (.cells #[] 92)) w.heap.size (.slice (some ⟨w.heap.size, 0, none⟩) 0 0) [] :=
  ⟨rfl, Or.inr ⟨w.heap.size, 0, #[], rfl, Nat.le_refl _, heap_alloc_new w _, Nat.le_refl _, by decide, rfl, rfl⟩⟩
set_option maxHeartbeats 4000000 in
set_option maxRecDepth 100000 in
theorem clone_any (v : Value) (l : List Fld) (w : World) (hr : RdF w v l) (hlen : l.length ≤ 1000000000000) :
    Calls Tryz.prog 194 #[v] w fun e w' => ∃ v', e = .returned v' ∧ OwnF w' w.heap.size v' l ∧ Below w.heap.size w w' := by
  obtain ⟨a, cap, rfl, hc⟩ := hr
  have hE := fun W n c n' c' => Lib.run_eql_slice_nil W 42 92 a n c n' c' Tryz.underlying42
  cases a with
  | none =>
    have h0 : l = [] := by
      rcases Nat.eq_zero_or_pos l.length with h | h
      · exact List.length_eq_zero_iff.1 h
      · obtain ⟨b, h, _⟩ := hc h; cases h
    subst h0
    simp only [Option.isNone] at hE
    go_enter Tryz.func194, Tryz.ntmps194
    go_wp2_with fail
    go_ret
    exact ⟨_, rfl, OwnG.nil _ _ _ _ _, Below.refl _ _⟩
  | some ad =>
    simp only [Option.isNone] at hE
    have hb : 0 < l.length → ad.block < w.heap.size ∧ ∀ j u, (l.flatMap fldC)[j]? = some u → w.cell? (ad.add j) = some u := fun h => by
      obtain ⟨b, e, hlt, hcell⟩ := hc h
      injection e with e
      subst e
      refine ⟨hlt, fun j u hj => ?_⟩
      rw [addr_add0, hcell j ?_]
      · exact hj
      · have := (List.getElem?_eq_some_iff.1 hj).1
        rw [flat_len fldC_len] at this; exact this
    have hcs : ∀ j u, (l.flatMap fldC)[j]? = some u → (w.alloc (.cells #[] 92)).cell? (ad.add j) = some u := fun j u hj => by
      have h0 : 0 < l.length := by
        have := (List.getElem?_eq_some_iff.1 hj).1
        rw [flat_len fldC_len] at this; omega
      obtain ⟨h1, h2⟩ := hb h0
      rw [World.cell?_alloc_lt _ _ (ad.add j) (by rw [add_block]; exact h1)]
      exact h2 j u hj
    have HC := Lib.hid hcs
    clear hcs hb hc
    go_enter Tryz.func194, Tryz.ntmps194
    go_wp2_with (at_builtin; refine appG2 (α := Fld) (cs := fldC) (size := 2) (z := .agg #[.string ByteArray.empty, .string ByteArray.empty]) fldC_len fldC_one infoFld rfl (by decide) Tryz.underlying42 rfl _ _ rfl w.heap.size _ [] l ad _ cap rfl rfl (ownF_made w) rfl HC.out (by simp; omega) (by unfold maxLen; simp; omega) (by simp) ?_; intro v' w2 hown2 hg2 hb2 hob)
    go_wp2_with fail
    go_ret
    exact ⟨_, rfl, hown2, ((Below.refl _ _).alloc (Nat.le_refl _) _).trans hb2⟩
theorem OwnG.row {α : Type} {e size : Nat} {cs : α → List Value} {w : World} {B g n cap : Nat} {xs : List α} (h : OwnG e size cs w B (.slice (some ⟨g, 0, none⟩) n cap) xs) : ∃ cur, w.heap[g]? = some (.cells cur e (0, 0)) ∧ n = xs.length ∧ B ≤ g ∧ n ≤ cap ∧ cap ≤ maxLen ∧ cur.size = cap * size ∧ cur.toList.take (n * size) = xs.flatMap cs := by
  rcases h.2 with ⟨hv, _⟩ | ⟨g', cap', cur, hv, hg, hh, hn, hcap, hsz, htake⟩
  · cases hv
  · injection hv with h1 h2 h3
    injection h1 with h1
    injection h1 with h1
    subst h1 h2 h3
    exact ⟨cur, hh, rfl, hg, hn, hcap, hsz, htake⟩
theorem OwnG.mk {α : Type} {e size : Nat} {cs : α → List Value} (hcs : ∀ x, (cs x).length = size) {w : World} {B g n cap : Nat} {xs : List α} {cur : Array Value} (h1 : w.heap[g]? = some (.cells cur e (0, 0))) (h2 : n = xs.length) (h3 : B ≤ g) (h4 : n ≤ cap) (h5 : cap ≤ maxLen) (h6 : cur.size = cap * size) (h7 : cur.toList.take (n * size) = xs.flatMap cs) : OwnG e size cs w B (.slice (some ⟨g, 0, none⟩) n cap) xs := by
  subst h2
  exact ⟨flat_len hcs xs, Or.inr ⟨g, cap, cur, rfl, h3, h1, h4, h5, h6, h7⟩⟩
theorem OwnG.free {α : Type} {e size : Nat} {cs : α → List Value} {w : World} {B g n cap : Nat} {xs : List α} (h : OwnG e size cs w B (.slice (some ⟨g, 0, none⟩) n cap) xs) (j : Nat) : w.frozen? ⟨g, j, none⟩ = false := by
  obtain ⟨cur, hh, _⟩ := h.row
  simp [World.frozen?, hh]
theorem OwnG.cellAt {α : Type} {e size : Nat} {cs : α → List Value} (hcs : ∀ x, (cs x).length = size) {w : World} {B g n cap : Nat} {xs : List α} (h : OwnG e size cs w B (.slice (some ⟨g, 0, none⟩) n cap) xs) (k : Nat) (hk : k < xs.length) (i : Nat) (hi : i < size) : w.cell? ⟨g, k * size + i, none⟩ = (cs xs[k])[i]? := by
  obtain ⟨cur, hh, hn, _, _, _, _, htake⟩ := h.row
  subst hn
  have h1 : (k + 1) * size ≤ xs.length * size := Nat.mul_le_mul_right _ hk
  rw [Nat.succ_mul] at h1
  have h2 : (cur.toList.take (xs.length * size))[k * size + i]? = (xs.flatMap cs)[k * size + i]? := by rw [htake]
  rw [List.getElem?_take, if_pos (by omega), flat_at hcs xs k hk i hi] at h2
  simp [World.cell?, hh]
  simpa using h2
theorem flat_set2 : ∀ (ys : List Fld) (i : Nat) (x y : Bs), i < ys.length → ((ys.flatMap fldC).set (i * 2) (.string ⟨x.toArray⟩)).set (i * 2 + 1) (.string ⟨y.toArray⟩) = (ys.set i (x, y)).flatMap fldC
  | [], i, _, _, h => by simp at h
  | f :: ys, 0, x, y, _ => rfl
  | f :: ys, i + 1, x, y, h => by
    have ih := flat_set2 ys i x y (by simpa using h)
    rw [List.set_cons_succ, List.flatMap_cons, List.flatMap_cons, ← ih, List.set_append_right _ _ (by show 2 ≤ _; omega), List.set_append_right _ _ (by show 2 ≤ _; omega)]
    have e1 : (i + 1) * 2 - (fldC f).length = i * 2 := by show (i + 1) * 2 - 2 = _; omega
    have e2 : (i + 1) * 2 + 1 - (fldC f).length = i * 2 + 1 := by show (i + 1) * 2 + 1 - 2 = _; omega
    rw [e1, e2]
theorem OwnF.setAt {w : World} {B g n cap : Nat} {ys : List Fld} (h : OwnF w B (.slice (some ⟨g, 0, none⟩) n cap) ys) (i : Nat) (hi : i < ys.length) (x y : Bs) :
    OwnF ((w.setCell ⟨g, i * 2, none⟩ (.string ⟨x.toArray⟩)).setCell ⟨g, i * 2 + 1, none⟩ (.string ⟨y.toArray⟩)) B (.slice (some ⟨g, 0, none⟩) n cap) (ys.set i (x, y)) := by
  obtain ⟨_, _, hn, _⟩ := h.row
  subst hn
  unfold OwnF OwnG at h ⊢
  have h1 := (World.ownsRow.stored h (i * 2) (.string ⟨x.toArray⟩)).1
  have h2 := (World.ownsRow.stored h1 (i * 2 + 1) (.string ⟨y.toArray⟩)).1
  rw [flat_set2 ys i x y hi] at h2
  rw [List.length_set]
  exact h2
theorem run_clearF (w : World) (ty : TypeId) (g o m c : Nat) (cur : Array Value) (hm : 0 < m) (hh : w.heap[g]? = some (.cells cur 92 (0, 0))) (ho : o + m * 2 ≤ cur.size) :
    ∃ zs : List Value, zs.length = m * 2 ∧ (Builtin.clear_ #[42] ty #[.slice (some ⟨g, o, none⟩) m c]).run Tryz.prog w = .ok (.tuple #[]) (w.setRow g (cur.toList.take o ++ zs ++ cur.toList.drop (o + m * 2)).toArray) := by
  have hl : (Builtin.zeroCells #[Value.string ⟨#[]⟩, Value.string ⟨#[]⟩] m).toList.length = m * 2 := by simp [Builtin.zeroCells]
  refine ⟨(Builtin.zeroCells #[Value.string ⟨#[]⟩, Value.string ⟨#[]⟩] m).toList, hl, ?_⟩
  have hst := run_storeCells_at (P := Tryz.prog) g o 92 (Builtin.zeroCells #[Value.string ⟨#[]⟩, Value.string ⟨#[]⟩] m).toList 0 cur w hh (by rw [hl]; omega) (fun v hv => by
    simp only [Builtin.zeroCells, Array.toList_map, List.mem_map] at hv
    obtain ⟨i, _, rfl⟩ := hv
    have : i % 2 = 0 ∨ i % 2 = 1 := by omega
    rcases this with h | h
    · simp [h]; rfl
    · simp [h]; rfl)
  rw [hl] at hst
  simp only [Nat.add_zero] at hst
  obtain ⟨m, rfl⟩ : ∃ k, m = k + 1 := ⟨m - 1, by omega⟩
  simp [Builtin.clear_, run_underlying Tryz.underlying42, Value.cells, hst, Result.andThen]
theorem wpClearF {Q : Exit → Act → World → Prop} {ops : Array Oper} {rest : List Oper} {o : Oper} {a : Act} {w : World} (hgd : o.guard = none) (x : Operand)
    (ho : o.op = .call { callee := .builtin .clear, args := #[x], argTypes := #[42] }) (B g n cap i m c : Nat) (ys : List Fld) (hi : i < n) (hm : m = n - i)
    (hown : OwnF w B (.slice (some ⟨g, 0, none⟩) n cap) ys) (hx : a.eval x = .slice (some ⟨g, i * 2, none⟩) m c)
    (h : ∀ w', OwnF w' B (.slice (some ⟨g, 0, none⟩) i cap) (ys.take i) → BelowO g w.heap.size w w' → wpList Tryz.prog ops Q rest (a.put o.dst (.tuple #[])) w') : wpList Tryz.prog ops Q (o :: rest) a w := by
  obtain ⟨cur, hh, hn, hB, hnc, hcm, hsz, htake⟩ := hown.row
  obtain ⟨zs, hzl, hrun⟩ := run_clearF w o.type g (i * 2) m c cur (by omega) hh (by rw [hsz, hm]; omega)
  refine wpList_plain hgd fun K hK => ?_
  unfold Oper.wp
  simp [execOp, ho, resolve, invoke, builtin, hx, hrun, Result.andThen]
  refine hK _ _ (h _ ?_ ?_)
  · refine OwnG.mk fldC_len (setRow_heap w g cur _ _ _ hh) (by rw [List.length_take]; omega) hB (by omega) hcm ?_ ?_
    · simp [hzl]; omega
    · have h0 : (cur.toList.take (n * 2)).take (i * 2) = (ys.flatMap fldC).take (i * 2) := by rw [htake]
      rw [List.take_take, Nat.min_eq_left (by omega)] at h0
      have h1 : (ys.flatMap fldC).take (i * 2) = (ys.take i).flatMap fldC := by
        conv => lhs; rw [← List.take_append_drop i ys, List.flatMap_append]
        rw [List.take_append_of_le_length (by rw [flat_len fldC_len, List.length_take]; omega), List.take_of_length_le (by rw [flat_len fldC_len, List.length_take]; omega)]
      rw [← h1, ← h0]
      have hl : (cur.toList.take (i * 2)).length = i * 2 := by rw [List.length_take, Array.length_toList, hsz]; omega
      show List.take (i * 2) (List.take (i * 2) cur.toList ++ (zs ++ List.drop (i * 2 + m * 2) cur.toList)) = List.take (i * 2) cur.toList
      rw [List.take_append_of_le_length (by omega), List.take_of_length_le (by omega)]
  · exact ⟨rfl, rfl, rfl, by simp [World.setRow], fun k _ hk => by simp [World.setRow, Array.getElem?_modify]; intro e; exact absurd e.symm hk⟩
theorem delF_eq (l : List Fld) : delF l = l.filter fun f => !(givenB f) := rfl
theorem idxP_spec (p : Fld → Bool) : ∀ (l : List Fld) (k : Nat), (idxP p l k = -1 ∧ (l.filter fun f => !(p f)) = l) ∨ ∃ j, j < l.length ∧ idxP p l k = ((k + j : Nat) : Int) ∧ (l.filter fun f => !(p f)) = l.take j ++ ((l.drop (j + 1)).filter fun f => !(p f))
  | [], k => Or.inl ⟨rfl, rfl⟩
  | f :: l, k => by
    unfold idxP
    cases hp : p f with
    | true =>
      refine Or.inr ⟨0, by simp, by simp, ?_⟩
      simp [hp]
    | false =>
      rcases idxP_spec p l (k + 1) with ⟨h1, h2⟩ | ⟨j, h1, h2, h3⟩
      · refine Or.inl ⟨by simpa using h1, ?_⟩
        simp only [List.filter_cons, hp, Bool.not_false, if_true, h2]
      · refine Or.inr ⟨j + 1, by simp; omega, ?_, ?_⟩
        · simp only [Bool.false_eq_true, if_false, h2]; omega
        · simp only [List.filter_cons, hp, Bool.not_false, if_true, h3]; rfl
set_option maxHeartbeats 8000000 in
set_option maxRecDepth 100000 in
theorem delete_any (v : Value) (l : List Fld) (B : Nat) (w : World) (hown : OwnF w B v l) (hok : FldsOk l) (hg : Gr w) (hgB : 3 < B) :
    Calls Tryz.prog 193 #[v, .func (.func 195) #[] #[]] w fun e w' => ∃ v', e = .returned v' ∧ OwnF w' B v' (delF l) ∧ (Below w.heap.size w w' ∨ ∃ g, B ≤ g ∧ BelowO g w.heap.size w w') := by
  have hI := idxGiven_any v l w (OwnG.rd (by decide) fldC_len hown) hok hg
  have hlen := hok.1
  have Hok := Lib.hid hok.2; clear hok
  rcases idxP_spec givenB l 0 with ⟨h1, h2⟩ | ⟨j0, hj0, h1, h2⟩
  · rw [h1] at hI
    have HN := Lib.hid (show delF l = l from h2)
    clear h1 h2
    go_enter Tryz.func193, Tryz.ntmps193
    go_wp2_with fail
    with_reducible refine hI.mono ?_
    rintro e w1 ⟨rfl, b1⟩
    go_wp2_with fail
    go_ret
    exact ⟨_, rfl, by rw [HN.out]; exact OwnG.next hown b1, Or.inl b1⟩
  · rw [h1, Nat.zero_add] at hI
    have HD := Lib.hid (show delF l = l.take j0 ++ delF (l.drop (j0 + 1)) from h2)
    clear h1 h2
    obtain ⟨g, cap, hv⟩ : ∃ g cap, v = .slice (some ⟨g, 0, none⟩) l.length cap := by
      rcases hown.2 with ⟨hv, h0⟩ | ⟨g, cap, cur, hv, _⟩
      · omega
      · exact ⟨g, cap, hv⟩
    subst hv
    obtain ⟨_, _, _, hBg, hnc, _, _, _⟩ := hown.row
    go_enter Tryz.func193, Tryz.ntmps193
    go_wp2_with fail
    with_reducible refine hI.mono ?_
    rintro e w1 ⟨rfl, b1⟩
    have hown := OwnG.next hown b1
    have hj1 : ((j0 : Int) == -1) = false := by rw [beq_eq_false_iff_ne]; omega
    clear hI
    go_wp2_with fail
    go_loopw [5, 6] (fun iv jv wr => ∃ (i j : Nat) (ys : List Fld), iv = .int .i64 i ∧ jv = .int .i64 j ∧ i < j ∧ j ≤ l.length ∧ ys.length = l.length ∧ OwnF wr B (.slice (some ⟨g, 0, none⟩) l.length cap) ys ∧ Hid (delF l = ys.take i ++ delF (l.drop j)) ∧ Hid (ys.drop j = l.drop j) ∧ Gr wr ∧ BelowO g w.heap.size w wr) (fun _ jv _ => l.length - (intOf jv).toNat)
    case atStart => exact ⟨j0, j0 + 1, l, rfl, by go_num, by omega, by omega, rfl, hown, HD, Lib.hid rfl, hg.next b1, BelowO.of b1⟩
    case round =>
      clear hown HD
      obtain ⟨i, j, ys, rfl, rfl, hij, hj, hyl, hown, HD, HY, hgr, BO⟩ := hrel
      by_cases hlt : j < l.length
      · have hyj : ys[j]'(by omega) = l[j] := by
          have h3 := congrArg (fun z : List Fld => z[0]?) HY.out
          simp only [List.getElem?_drop, Nat.add_zero] at h3
          rw [List.getElem?_eq_getElem hlt, List.getElem?_eq_getElem (by omega)] at h3
          exact Option.some.inj h3
        have hf := Hok.out l[j] (List.getElem_mem _)
        have c1 := OwnG.cellAt fldC_len hown j (by omega) 0 (by decide)
        have c2 := OwnG.cellAt fldC_len hown j (by omega) 1 (by decide)
        have d1 := OwnG.cellAt fldC_len hown i (by omega) 0 (by decide)
        have d2 := OwnG.cellAt fldC_len hown i (by omega) 1 (by decide)
        rw [hyj] at c1 c2
        have HDJ := Lib.hid (show delF (l.drop j) = if givenB l[j] then delF (l.drop (j + 1)) else l[j] :: delF (l.drop (j + 1)) from by
          rw [List.drop_eq_getElem_cons hlt, delF_eq, delF_eq, List.filter_cons]
          cases givenB l[j] <;> rfl)
        have HYJ := Lib.hid (show ys.drop (j + 1) = l.drop (j + 1) from by
          have h3 := congrArg (List.drop 1) HY.out
          rw [List.drop_drop, List.drop_drop] at h3; exact h3)
        clear hyj
        generalize l[j] = f at hf c1 c2 HDJ
        obtain ⟨x, y⟩ := f
        simp only [fldC, Nat.add_zero, List.getElem?_cons_zero, List.getElem?_cons_succ] at hf c1 c2 d1 d2
        have kt := Blk.new wr #[.string ⟨x.toArray⟩, .string ⟨y.toArray⟩] 92
        have BA := (Below.refl wr.heap.size wr).alloc (Nat.le_refl _) (.cells #[.string ⟨x.toArray⟩, .string ⟨y.toArray⟩] 92)
        have hG := fun W hW => given_any x y W hf.1 hW
        generalize hgb : givenB (x, y) = bg at hG HDJ
        have BO1 := BO.next BA BO.size
        have hg1 := hgr.next BA
        have hown := OwnG.next hown BA
        have i0 : (0 : Int) ≤ i := by omega
        have i1 : (i : Int) < l.length := by omega
        have i2 : (0 : Int) ≤ j := by omega
        have i3 : (j : Int) < l.length := by omega
        clear hgb
        have ktc := kt.cell
        go_wp2_with fail
        with_reducible refine (hG _ hg1).mono ?_
        rintro e w3 ⟨rfl, b3⟩
        have kt := kt.next b3 kt.lt
        have hown := OwnG.next hown b3
        have BO3 := BO1.next b3 BO1.size
        have hg3 := hg1.next b3
        clear hG b3 BA ktc
        cases bg with
        | true =>
          have HN := Lib.hid (show delF l = ys.take i ++ delF (l.drop (j + 1)) from by rw [HD.out, HDJ.out]; rfl)
          clear HD HDJ
          go_wp2_with fail
          go_roundw
          case rel => exact ⟨i, j + 1, ys, rfl, by go_num, by omega, by omega, hyl, hown, HN, HYJ, hg3, BO3⟩
          case measure => simp [intOf]; omega
        | false =>
          have hd1 := OwnG.cellAt fldC_len hown i (by omega) 0 (by decide)
          have hd2 := OwnG.cellAt fldC_len hown i (by omega) 1 (by decide)
          simp only [fldC, Nat.add_zero, List.getElem?_cons_zero, List.getElem?_cons_succ] at hd1 hd2
          have hfr := OwnG.free hown
          have ktc := kt.cell
          have hset := OwnF.setAt hown i (by omega) x y
          have HN := Lib.hid (show delF l = (ys.set i (x, y)).take (i + 1) ++ delF (l.drop (j + 1)) from by
            rw [HD.out, HDJ.out, List.take_succ_eq_append_getElem (by rw [List.length_set]; omega), List.getElem_set_self, List.take_set_of_le (Nat.le_refl i)]
            simp)
          have HYS := Lib.hid (show (ys.set i (x, y)).drop (j + 1) = l.drop (j + 1) from by rw [← HYJ.out, List.drop_set_of_lt (by omega)])
          have hg4 : Gr ((w3.setCell ⟨g, i * 2, none⟩ (.string ⟨x.toArray⟩)).setCell ⟨g, i * 2 + 1, none⟩ (.string ⟨y.toArray⟩)) := hg3.keep fun b hb => (heap_set _ _ _ b (by simp only; omega)).trans (heap_set _ _ _ b (by simp only; omega))
          have BO4 := (BO3.set (j := i * 2) (.string ⟨x.toArray⟩)).set (j := i * 2 + 1) (.string ⟨y.toArray⟩)
          clear HD HDJ c1 c2 d1 d2 HY HYJ hown
          go_wp2_with fail
          go_roundw
          case rel => exact ⟨i + 1, j + 1, ys.set i (x, y), by go_num, by go_num, by omega, by omega, by rw [List.length_set]; exact hyl, hset, HN, HYS, hg4, BO4⟩
          case measure => simp [intOf]; omega
      · obtain rfl : j = l.length := by omega
        have HN := Lib.hid (show delF l = ys.take i from by rw [HD.out, List.drop_length]; simp [delF])
        have i1 : (i : Int) < l.length := by omega
        have i2 : (i : Int) ≤ cap := by omega
        have i3 : ¬ (cap = i) := by omega
        have i4 : (0 : Int) ≤ i := by omega
        clear HD HY
        go_wp2_with (refine wpClearF (by rfl) _ (by rfl) B g l.length cap i (l.length - i) (cap - i) ys (by omega) rfl hown (by rfl) ?_; intro w4 hown4 bo4)
        go_wp2_with fail
        go_ret
        exact ⟨_, rfl, by rw [HN.out]; exact hown4, Or.inr ⟨g, hBg, BO.trans (bo4.mono BO.size)⟩⟩
theorem L64_get (n : Nat) (h : n < 64) : (⟨#[65, 66, 67, 68, 69, 70, 71, 72, 73, 74, 75, 76, 77, 78, 79, 80, 81, 82, 83, 84, 85, 86, 87, 88, 89, 90, 97, 98, 99, 100, 101, 102, 103, 104, 105, 106, 107, 108, 109, 110, 111, 112, 113, 114, 115, 116, 117, 118, 119, 120, 121, 122, 48, 49, 50, 51, 52, 53, 54, 55, 56, 57, 43, 47]⟩ : ByteArray)[n]'(by exact h) = L64 n := by
  show _ = b64.getD n 0
  rw [List.getD_eq_getElem?_getD, List.getElem?_eq_getElem (show n < b64.length from h)]
  rfl
def pv (l : Bs) : Nat → Nat
  | 0 => 0
  | k + 1 => pv l k * 256 + (l.getD k 0).toNat
theorem pv_lt (l : Bs) (k : Nat) (hk : k ≤ 3) : pv l k < 16777216 := by
  have h0 := (l.getD 0 0).toNat_lt
  have h1 := (l.getD 1 0).toNat_lt
  have h2 := (l.getD 2 0).toNat_lt
  match k, hk with
  | 0, _ => simp [pv]
  | 1, _ => simp only [pv]; omega
  | 2, _ => simp only [pv]; omega
  | 3, _ => simp only [pv]; omega
theorem pack_round (rest : Bs) (line : Nat) (h : rest ≠ []) : ∃ N : Nat, 1 ≤ N ∧ N ≤ 3 ∧ N ≤ rest.length ∧ (N < 3 → N = rest.length) ∧
    packL rest line = quad (pv rest 3) N ++ (if line + 4 = 76 ∨ rest.drop N = [] then [13, 10] ++ packL (rest.drop N) 0 else packL (rest.drop N) (line + 4)) := by
  match rest, h with
  | [x], _ =>
    have e : pv [x] 3 = x.toNat * 65536 := by simp [pv]; omega
    exact ⟨1, by omega, by omega, by simp, by simp, by rw [packL, e]; simp [packL]⟩
  | [x, y], _ =>
    have e : pv [x, y] 3 = x.toNat * 65536 + y.toNat * 256 := by simp [pv]; omega
    exact ⟨2, by omega, by omega, by simp, by simp, by rw [packL, e]; simp [packL]⟩
  | x :: y :: z :: l, _ =>
    have e : pv (x :: y :: z :: l) 3 = x.toNat * 65536 + y.toNat * 256 + z.toNat := by simp [pv]; omega
    exact ⟨3, by omega, by omega, by simp, by omega, by rw [packL, e]; rfl⟩
set_option maxHeartbeats 4000000 in
set_option maxRecDepth 100000 in
theorem pack_any (b : Bs) (w : World) (hl : b.length ≤ 1000000000000) :
    Calls Tryz.prog 269 #[.string ⟨b.toArray⟩] w fun e w' => e = .returned (.string ⟨(packT b).toArray⟩) ∧ Below w.heap.size w w' := by
  have hT := packT_length b
  have b0 := bldNew w
  go_enter Tryz.func269, Tryz.ntmps269
  go_wp2_with fail
  go_loopw [0, 4] (fun s n wr => ∃ (rest : Bs) (line : Nat) (out : Bs), s = .string ⟨rest.toArray⟩ ∧ n = .int .i64 line ∧ line ≤ 72 ∧ line % 4 = 0 ∧ rest.length ≤ 1000000000000 ∧ out ++ packL rest line = packT b ∧ Bld w.heap.size w.heap.size out wr ∧ Below w.heap.size w wr) (fun s _ _ => lenOf s)
  case atStart => exact ⟨b, 0, [], rfl, rfl, by decide, rfl, hl, rfl, b0, by go_grown⟩
  case round =>
    obtain ⟨rest, line, out, rfl, rfl, hl1, hl2, hr, htot, hb, B⟩ := hrel
    have Htot := Lib.hid htot; clear htot
    have hlen : out.length + (packL rest line).length = (packT b).length := by rw [← Htot.out]; simp
    by_cases h0 : rest = []
    · subst h0
      have hd : packT b = out := by rw [← Htot.out]; simp [packL]
      have Hd := Lib.hid hd; clear hd
      go_wp2_with fail
      refine (bldStr _ _ _ _ hb B.size).mono ?_
      rintro e w2 ⟨rfl, hb2⟩
      go_wp2_with fail
      go_ret
      exact ⟨ret_str Hd.out.symm, B.trans hb2⟩
    · have hlen0 : 0 < rest.length := List.length_pos_iff.2 h0
      obtain ⟨N, hN1, hN3, hNr, hNl, hpk⟩ := pack_round rest line h0
      have hV := pv_lt rest 3 (by omega)
      have hql : out.length + 4 ≤ (packT b).length := by rw [← hlen, hpk]; simp [quad_length]
      have Hpk := Lib.hid hpk; clear hpk hlen
      have m1 : min (rest.length : Int) 3 = N := by omega
      go_wp2_with fail
      obtain ⟨w1, rfl⟩ : ∃ w1 : World, w1 = wr := ⟨_, rfl⟩
      go_loop [6, 15] (fun v i => ∃ k : Nat, k ≤ 3 ∧ i = .int .i64 k ∧ v = .int .i64 (pv rest k)) (fun _ i => 3 - (intOf i).toNat)
      case atStart => exact ⟨0, by omega, rfl, rfl⟩
      case round =>
        obtain ⟨k, hk, rfl, rfl⟩ := hrel
        by_cases hlt : k < 3
        · have hp := pv_lt rest k hk
          have hP := Lib.hid (show pv rest (k + 1) = pv rest k * 256 + (rest.getD k 0).toNat from rfl)
          by_cases hkN : k < N
          · have hkr : k < rest.length := by omega
            have hx : (rest[k].toNat : Int) < 256 := by have := rest[k].toNat_lt; omega
            have o2 := or64_8 (pv rest k) rest[k].toNat (by omega) (by omega) (by omega) (by omega)
            have HE := Lib.hid (show rest.getD k 0 = rest[k] from by rw [List.getD_eq_getElem?_getD, List.getElem?_eq_getElem hkr]; rfl)
            go_wp2_with fail
            go_round
            case rel => exact ⟨k + 1, by omega, by go_num, by rw [hP.out, HE.out]; go_num⟩
            case measure => simp [intOf]; omega
          · have HE := Lib.hid (show rest.getD k 0 = 0 from by rw [List.getD_eq_getElem?_getD, List.getElem?_eq_none (by omega)]; rfl)
            go_wp2_with fail
            go_round
            case rel => exact ⟨k + 1, by omega, by go_num, by rw [hP.out, HE.out]; go_num⟩
            case measure => simp [intOf]; omega
        · obtain rfl : k = 3 := by omega
          generalize pv rest 3 = V at hV Hpk
          go_wp2_with fail
          go_loopw [30] (fun i wx => ∃ k : Nat, k ≤ 4 ∧ i = .int .i64 k ∧ Bld w.heap.size w.heap.size (out ++ (quad V N).take k) wx ∧ Below w.heap.size w wx) (fun i _ => 4 - (intOf i).toNat)
          case atStart => exact ⟨0, by omega, rfl, by rw [List.take_zero, List.append_nil]; exact hb, B⟩
          case round =>
            clear hb B
            obtain ⟨k, hk, rfl, hb, B⟩ := hrel
            by_cases hlt : k < 4
            · obtain rfl | rfl | rfl | rfl : k = 0 ∨ k = 1 ∨ k = 2 ∨ k = 3 := by omega
              · have a1 : bits .and .i64 ((V : Int) / 262144) 63 = ((V / 262144 % 64 : Nat) : Int) := (and64_63 _ (by omega) (by omega)).trans (by omega)
                have hn : V / 262144 % 64 < 64 := by omega
                have HL := Lib.hid (L64_get (V / 262144 % 64) hn)
                have HT := Lib.hid (show (quad V N).take 1 = (quad V N).take 0 ++ [L64 (V / 262144 % 64)] from by rfl)
                generalize V / 262144 % 64 = n at a1 hn HL HT
                go_wp2_with fail
                refine (wrByte _ _ _ _ (L64 n) (by rw [← HL.out]; rfl) _ hb (by simp only [List.length_append, List.length_take, quad_length]; omega) B.size).mono ?_
                rintro e w2 ⟨rfl, hb, hb2⟩
                go_wp2_with fail
                go_roundw
                case rel => exact ⟨1, by omega, by go_num, by rw [HT.out, ← List.append_assoc]; exact hb, B.trans hb2⟩
                case measure => simp [intOf]
              · have a1 : bits .and .i64 ((V : Int) / 4096) 63 = ((V / 4096 % 64 : Nat) : Int) := (and64_63 _ (by omega) (by omega)).trans (by omega)
                have hn : V / 4096 % 64 < 64 := by omega
                have HL := Lib.hid (L64_get (V / 4096 % 64) hn)
                have HT := Lib.hid (show (quad V N).take 2 = (quad V N).take 1 ++ [L64 (V / 4096 % 64)] from by rfl)
                generalize V / 4096 % 64 = n at a1 hn HL HT
                go_wp2_with fail
                refine (wrByte _ _ _ _ (L64 n) (by rw [← HL.out]; rfl) _ hb (by simp only [List.length_append, List.length_take, quad_length]; omega) B.size).mono ?_
                rintro e w2 ⟨rfl, hb, hb2⟩
                go_wp2_with fail
                go_roundw
                case rel => exact ⟨2, by omega, by go_num, by rw [HT.out, ← List.append_assoc]; exact hb, B.trans hb2⟩
                case measure => simp [intOf]
              · by_cases hkN : 2 ≤ N
                · have a1 : bits .and .i64 ((V : Int) / 64) 63 = ((V / 64 % 64 : Nat) : Int) := (and64_63 _ (by omega) (by omega)).trans (by omega)
                  have hn : V / 64 % 64 < 64 := by omega
                  have HL := Lib.hid (L64_get (V / 64 % 64) hn)
                  have HT := Lib.hid (show (quad V N).take 3 = (quad V N).take 2 ++ [L64 (V / 64 % 64)] from by unfold quad; rw [if_pos hkN]; rfl)
                  generalize V / 64 % 64 = n at a1 hn HL HT
                  go_wp2_with fail
                  refine (wrByte _ _ _ _ (L64 n) (by rw [← HL.out]; rfl) _ hb (by simp only [List.length_append, List.length_take, quad_length]; omega) B.size).mono ?_
                  rintro e w2 ⟨rfl, hb, hb2⟩
                  go_wp2_with fail
                  go_roundw
                  case rel => exact ⟨3, by omega, by go_num, by rw [HT.out, ← List.append_assoc]; exact hb, B.trans hb2⟩
                  case measure => simp [intOf]
                · have HT := Lib.hid (show (quad V N).take 3 = (quad V N).take 2 ++ [61] from by unfold quad; rw [if_neg hkN]; rfl)
                  go_wp2_with fail
                  refine (wrByte _ _ _ _ 61 rfl _ hb (by simp only [List.length_append, List.length_take, quad_length]; omega) B.size).mono ?_
                  rintro e w2 ⟨rfl, hb, hb2⟩
                  go_wp2_with fail
                  go_roundw
                  case rel => exact ⟨3, by omega, by go_num, by rw [HT.out, ← List.append_assoc]; exact hb, B.trans hb2⟩
                  case measure => simp [intOf]
              · by_cases hkN : 3 ≤ N
                · have a1 : bits .and .i64 (V : Int) 63 = ((V % 64 : Nat) : Int) := (and64_63 _ (by omega) (by omega)).trans (by omega)
                  have hn : V % 64 < 64 := by omega
                  have HL := Lib.hid (L64_get (V % 64) hn)
                  have HT := Lib.hid (show (quad V N).take 4 = (quad V N).take 3 ++ [L64 (V % 64)] from by unfold quad; rw [if_pos hkN]; rfl)
                  generalize V % 64 = n at a1 hn HL HT
                  go_wp2_with fail
                  refine (wrByte _ _ _ _ (L64 n) (by rw [← HL.out]; rfl) _ hb (by simp only [List.length_append, List.length_take, quad_length]; omega) B.size).mono ?_
                  rintro e w2 ⟨rfl, hb, hb2⟩
                  go_wp2_with fail
                  go_roundw
                  case rel => exact ⟨4, by omega, by go_num, by rw [HT.out, ← List.append_assoc]; exact hb, B.trans hb2⟩
                  case measure => simp [intOf]
                · have HT := Lib.hid (show (quad V N).take 4 = (quad V N).take 3 ++ [61] from by unfold quad; rw [if_neg hkN]; rfl)
                  go_wp2_with fail
                  refine (wrByte _ _ _ _ 61 rfl _ hb (by simp only [List.length_append, List.length_take, quad_length]; omega) B.size).mono ?_
                  rintro e w2 ⟨rfl, hb, hb2⟩
                  go_wp2_with fail
                  go_roundw
                  case rel => exact ⟨4, by omega, by go_num, by rw [HT.out, ← List.append_assoc]; exact hb, B.trans hb2⟩
                  case measure => simp [intOf]
            · obtain rfl : k = 4 := by omega
              rw [List.take_of_length_le (by simp [quad_length])] at hb
              have hrd : (rest.drop N).length ≤ 1000000000000 := by simp; omega
              have hmeas : (rest.drop N).length < rest.length := by simp; omega
              have HE := Lib.hid (show out ++ packL rest line = out ++ quad V N ++ (if line + 4 = 76 ∨ rest.drop N = [] then [13, 10] ++ packL (rest.drop N) 0 else packL (rest.drop N) (line + 4)) from by rw [Hpk.out, List.append_assoc])
              have hq4 : (out ++ quad V N).length + 2 ≤ 140737488355328 := by simp [quad_length]; omega
              go_upto_region 22 with fail
              generalize rest.drop N = r at hrd hmeas HE ⊢
              generalize out ++ quad V N = o2 at hb HE hq4
              by_cases h76 : line = 72
              · subst h76
                have hE2 : packT b = o2 ++ [13, 10] ++ packL r 0 := by rw [← Htot.out, HE.out]; simp
                have HE2 := Lib.hid hE2; clear hE2 HE
                go_wp2_with fail
                refine (wrStr _ _ _ [13, 10] _ hb (by simpa using hq4) B.size).mono ?_
                rintro e w2 ⟨rfl, hb, hb2⟩
                go_wp2_with fail
                go_roundw
                case rel => exact ⟨r, 0, _, rfl, rfl, by omega, rfl, hrd, HE2.out.symm, hb, B.trans hb2⟩
                case measure => simpa using hmeas
              · have h76b : ((line : Int) + 4 == 76) = false := by rw [beq_eq_false_iff_ne]; omega
                by_cases hre : r = []
                · subst hre
                  have hE2 : packT b = o2 ++ [13, 10] ++ packL [] 0 := by rw [← Htot.out, HE.out]; simp
                  have HE2 := Lib.hid hE2; clear hE2 HE
                  go_wp2_with fail
                  refine (wrStr _ _ _ [13, 10] _ hb (by simpa using hq4) B.size).mono ?_
                  rintro e w2 ⟨rfl, hb, hb2⟩
                  go_wp2_with fail
                  go_roundw
                  case rel => exact ⟨[], 0, _, rfl, rfl, by omega, rfl, hrd, HE2.out.symm, hb, B.trans hb2⟩
                  case measure => simpa using hmeas
                · have hE2 : packT b = o2 ++ packL r (line + 4) := by rw [← Htot.out, HE.out]; simp [h76, hre]
                  have HE2 := Lib.hid hE2; clear hE2 HE
                  have hreb : r.isEmpty = false := by rw [Bool.eq_false_iff]; simpa using hre
                  go_wp2_with fail
                  go_roundw
                  case rel => exact ⟨r, line + 4, _, rfl, by go_num, by omega, by omega, hrd, HE2.out.symm, hb, B⟩
                  case measure => simpa using hmeas
end Go.Proofs.YtignjjnflcpiiaaGreatDoor
