/- desk's open. Condition: what the variables hold; so many bytes; desk's does: the map of what a line's first word does. No condition; What an error's number can be. No program; What a line's first word does: all sixteen commands by one contract. Condition: what the variables hold; so many bytes; What. -/
import Derived.MapKept
import Derived.Recover
import Derived.Test.YtignjjnflcpiiaaGreatDoorQ34
import Derived.Test.YtignjjnflcpiiaaGreatDoorQ35
namespace Go.Proofs.YtignjjnflcpiiaaGreatDoor
open Go Go.RowKit
theorem DeskM.emptied {X : Nat → Prop} {w w1 w2 : World} {d : Nat} {dk : Dsk} {bptr v : Value} (hk2 : Blk w2 d #[bptr, .pointer none, .slice none 0 0] 130) (hXd : ¬ X d)
    (hbn : (dk.bundle = none ∧ bptr = .pointer none) ∨ ∃ b bp, dk.bundle = some b ∧ bptr = .pointer (some ⟨bp, 0, none⟩) ∧ RdBnd (fun c => ¬ X c ∧ c ≠ d ∧ v.ownBlock ≠ some c) w bp b ∧ BndIn b ∧ b.root ≤ 1000000)
    (K1 : KeepX (fun k => k < w.heap.size ∧ v.ownBlock ≠ some k) w w1) (K2 : KeepX (fun k => k ≠ d) w1 w2) : DeskM X w2 d ⟨dk.bundle, []⟩ := by
  refine ⟨bptr, _, _, hk2, hXd, Or.inl rfl, OwnG.nil _ _ _ _ _, (fun g hg => by cases hg), ?_⟩
  rcases hbn with ⟨h1, h2⟩ | ⟨b, bp, h1, h2, h3, h4, h5⟩
  · exact Or.inl ⟨h1, h2⟩
  · exact Or.inr ⟨b, bp, h1, h2, h3.to (Nat.le_trans K1.size K2.size) (fun c ⟨p1, p2, p3⟩ hl => ⟨⟨p1, p2, (fun e => by cases e)⟩, (K2.block c p2).trans (K1.block c ⟨hl, p3⟩)⟩), h4, h5⟩
set_option maxHeartbeats 16000000 in
set_option maxRecDepth 100000 in
theorem dopen_any (X : Nat → Prop) (d : Nat) (dk : Dsk) (v : Value) (l : List Bs) (w : World) (hX : ∀ k, X k → k < w.heap.size) (hXg : ∀ k, k ≤ 8 → X k) (hD : DeskM X w d dk) (h : RdW w v l) (hg : Gz w) (hs : dk.said.length ≤ 1000000) :
    Calls Tryz.prog 230 #[.pointer (some ⟨d, 0, none⟩), v] w fun e w' => AnsOr (openD dk l).2 e ∧ DeskM X w' d (openD dk l).1 ∧ KeepX X w w' := by
  obtain ⟨bk, o, c, rfl, _⟩ := h
  by_cases h0 : l.length = 0
  case neg =>
    have HN := Lib.hid (show openD dk l = (dk, .error 3) from by unfold openD; rw [if_pos h0])
    have hW := words_no (some ⟨bk, o, none⟩) l.length c 0 (by rw [beq_eq_false_iff_ne]; omega) w hg.r
    unfold thrown at hW
    clear h0
    go_enter Tryz.func230, Tryz.ntmps230
    go_wp2_with fail
    with_reducible refine hW.mono ?_
    rintro e w1 ⟨rfl, b1⟩
    go_wp2_with fail
    refine ⟨rfl, ?_⟩
    rw [HN.out]
    exact ⟨rfl, hD.next b1, KeepX.of hX b1⟩
  have HF := Lib.hid (show openD dk l = match openB dk.said with
    | .error e => (⟨dk.bundle, []⟩, .error e)
    | .ok b => (⟨some b, []⟩, .ok (Lib.itoa b.whole.parts.length ++ 32 :: Lib.itoa b.root)) from by unfold openD; rw [if_neg (by omega)]; rfl)
  have hW := fun W => words_ok (some ⟨bk, o, none⟩) l.length c 0 (by rw [h0]; rfl) W
  clear h0
  obtain ⟨bptr, self, va, hk, hXd, hself, hown, hvo, hbn⟩ := hD
  have hlt := hk.lt
  have hStr := str_said d bptr self va dk.said w hk hown (fun e => (hvo d e).2 rfl)
  have hO := fun (W : World) (hG : Gr W) => open_any dk.said W (by omega) hG
  have hoi := fun b (h : openB dk.said = .ok b) => openB_in h
  have hor := fun b (h : openB dk.said = .ok b) => openB_root h
  generalize openB dk.said = ro at hO HF hoi hor
  clear hk hown hself
  have HB := Lib.hid hbn
  have HV := Lib.hid hvo
  clear hbn hvo
  go_enter Tryz.func230, Tryz.ntmps230
  go_wp2_with fail
  with_reducible refine (hW _).mono ?_
  rintro e w0 ⟨rfl, rfl⟩
  go_wp2_with fail
  with_reducible refine hStr.mono ?_
  rintro e w1 ⟨rfl, hk1, K1⟩
  have hR := reset_said d bptr self va w1 hk1
  clear hStr hW
  go_wp2_with fail
  with_reducible refine hR.mono ?_
  rintro e w2 ⟨rfl, hk2, K2⟩
  have hD2 := DeskM.emptied hk2 hXd HB.out K1 K2
  have KX2 : KeepX X w w2 := ⟨K2.os.trans K1.os, K2.tape.trans K1.tape, K2.output.trans K1.output, Nat.le_trans K1.size K2.size, fun k hx => (K2.block k (fun e => hXd (e ▸ hx))).trans (K1.block k ⟨hX k hx, fun e => (HV.out k e).1 hx⟩)⟩
  have hg2 := hg.keepX hXg KX2
  have hs2 := KX2.size
  have hX2 : ∀ k, X k → k < w2.heap.size := fun k hx => Nat.lt_of_lt_of_le (hX k hx) hs2
  have hO2 := hO w2 hg2.r
  clear hO hR hk1
  go_wp2_with fail
  with_reducible refine hO2.mono ?_
  rintro e w3 ⟨hh, b3⟩
  have hg3 := hg2.next b3
  have hs3 := b3.size
  have hk3 := hk2.next b3 hk2.lt
  have hD3 := hD2.next b3
  clear hO2 hk2 hD2
  rcases hh with ⟨b, bp, rfl, rfl, hRB⟩ | ⟨ce, rfl, rfl⟩
  · have HN := Lib.hid (show openD dk l = (⟨some b, []⟩, .ok (Lib.itoa b.whole.parts.length ++ 32 :: Lib.itoa b.root)) from HF.out)
    have hin := hoi b rfl
    have hroot := hor b rfl
    have hM := must_nil w3
    have kc := hk3.cell
    have kf := hk3.free
    clear hoi hor HF
    go_wp2_with fail
    with_reducible refine hM.mono ?_
    rintro e w4 ⟨rfl, rfl⟩
    go_upto_region 7 with fail
    have hk4 : Blk (w3.setCell ⟨d, 0, none⟩ (.pointer (some ⟨bp, 0, none⟩))) d #[.pointer (some ⟨bp, 0, none⟩), .pointer none, .slice none 0 0] 130 := by
      have := hk3.set 0 (.pointer (some ⟨bp, 0, none⟩))
      simpa using this
    have hb4 : ∀ k, k ≠ d → (w3.setCell ⟨d, 0, none⟩ (.pointer (some ⟨bp, 0, none⟩))).heap[k]? = w3.heap[k]? := fun k hk => heap_set _ _ _ k hk
    have hs4 : (w3.setCell ⟨d, 0, none⟩ (.pointer (some ⟨bp, 0, none⟩))).heap.size = w3.heap.size := by simp [World.setCell]
    have hRB4 := RdBnd.to (Q := fun c => ¬ X c ∧ c ≠ d ∧ (Value.slice none 0 0).ownBlock ≠ some c) hRB (Nat.le_of_eq hs4.symm) (fun c hc _ => ⟨⟨fun hx => by have := hX2 c hx; omega, by have := hk3.lt; omega, (fun e => by cases e)⟩, hb4 c (by omega)⟩)
    have hD4 : DeskM X (w3.setCell ⟨d, 0, none⟩ (.pointer (some ⟨bp, 0, none⟩))) d ⟨some b, []⟩ := ⟨_, _, _, hk4, hXd, Or.inl rfl, OwnG.nil _ _ _ _ _, (fun g hg => by cases hg), Or.inr ⟨b, bp, rfl, rfl, hRB4, hin, by omega⟩⟩
    have KX4 : KeepX X w (w3.setCell ⟨d, 0, none⟩ (.pointer (some ⟨bp, 0, none⟩))) := by
      have h3 := KX2.trans (KeepX.of hX2 b3)
      exact ⟨h3.os, h3.tape, h3.output, by have := h3.size; omega, fun k hx => (hb4 k (fun e => hXd (e ▸ hx))).trans (h3.block k hx)⟩
    generalize w3.setCell ⟨d, 0, none⟩ (.pointer (some ⟨bp, 0, none⟩)) = w4 at hD4 KX4 hRB4 ⊢
    clear hk4 hb4 hs4 hk3 hD3 hg3 hRB kc kf hM HB HV K1 K2 hg2
    have hg4 := hg.keepX hXg KX4
    have hX4 : ∀ k, X k → k < w4.heap.size := fun k hx => Nat.lt_of_lt_of_le (hX k hx) KX4.size
    have hP := parts_any _ bp b w4 hRB4 hin.whole
    have hpn := hin.whole.head.2.2
    have hRt := fun W (B : Below w4.heap.size w4 W) => root_any _ bp b W (hRB4.next B)
    have HI1 := fun (W : World) (hG : Gz W) => itoa_any b.whole.parts.length (by omega) (by omega) W hG
    have HI2 := fun (W : World) (hG : Gz W) => itoa_any b.root (by omega) (by omega) W hG
    have HD4 := Lib.hid hD4
    have HK4 := Lib.hid KX4
    clear hD4 KX4 hRB4
    have hi1 := Lib.itoa_length_le (b.whole.parts.length : Int) (by omega) (by omega)
    have hi2 := Lib.itoa_length_le (b.root : Int) (by omega) (by omega)
    generalize Lib.itoa b.whole.parts.length = i1 at HI1 HN hi1
    generalize Lib.itoa b.root = i2 at HI2 HN hi2
    generalize b.root = rt at hRt HI2 hroot
    go_wp2_with fail
    with_reducible refine hP.mono ?_
    rintro e w5 ⟨⟨v5, raws, rfl, hownP, hrl, _⟩, B5⟩
    obtain ⟨la, lc, hv5, _⟩ := (OwnG.rdB (by decide) prtC_len hownP).rd
    rw [hrl] at hv5
    subst hv5
    clear hownP hrl hP
    have hI := HI1 w5 (hg4.next B5)
    go_wp2_with fail
    with_reducible refine hI.mono ?_
    rintro e w6 ⟨rfl, b6⟩
    have B6 := B5.trans (b6.mono B5.size)
    have hR6 := hRt w6 B6
    clear hI
    go_wp2_with fail
    with_reducible refine hR6.mono ?_
    rintro e w7 ⟨rfl, rfl⟩
    have hI := HI2 w6 (hg4.next B6)
    go_wp2_with fail
    with_reducible refine hI.mono ?_
    rintro e w8 ⟨rfl, b8⟩
    have B8 := B6.trans (b8.mono B6.size)
    go_wp2_with fail
    go_ret
    rw [HN.out]
    exact ⟨rfl, HD4.out.next B8, HK4.out.trans (KeepX.of hX4 B8)⟩
  · have HN := Lib.hid (show openD dk l = (⟨dk.bundle, []⟩, .error ce) from HF.out)
    have hM := must_err (.iface 30 (.int .i64 ce)) ce w3 (Or.inl rfl) hg3.r
    unfold thrown at hM
    clear hoi hor HF
    go_wp2_with fail
    with_reducible refine hM.mono ?_
    rintro e w4 ⟨rfl, b4⟩
    go_wp2_with fail
    refine ⟨rfl, ?_⟩
    rw [HN.out]
    exact ⟨rfl, hD3.next b4, (KX2.trans (KeepX.of hX2 b3)).trans (KeepX.of (fun k hx => Nat.lt_of_lt_of_le (hX2 k hx) hs3) b4)⟩
def MapB (B : Nat) (w0 w : World) (r : Nat) (ks : List Bs) (vs : List Value) : Prop :=
  B ≤ r ∧ Below B w0 w ∧ ks.length = vs.length ∧ ∃ es : Array MapEntry, w.heap[r]? = some (.map es es.size) ∧ es.toList.map (fun e => (e.key, e.val)) = (ks.zip vs).map (fun x => (.string ⟨x.1.toArray⟩, x.2))
theorem MapB.new (w : World) : MapB w.heap.size w (w.alloc (.map #[] 0)) w.heap.size [] [] :=
  ⟨Nat.le_refl _, (Below.refl _ _).alloc (Nat.le_refl _) _, rfl, #[], heap_alloc_new w _, rfl⟩
def lookK : List Bs → List Value → Bs → Option Value
  | k :: ks, v :: vs, n => if n = k then some v else lookK ks vs n
  | _, _, _ => none
theorem beqBA (a b : Bs) : ((ByteArray.mk a.toArray) == (ByteArray.mk b.toArray)) = decide (a = b) := by
  by_cases h : a = b
  · subst h
    rw [decide_eq_true rfl]
    exact (MapKept.bytes_beq _ _).2 rfl
  · rw [decide_eq_false h]
    refine Bool.eq_false_iff.2 fun e => h ?_
    have e := (MapKept.bytes_beq _ _).1 e
    injection e with e
    simpa using e
theorem findNow_look (n : Bs) : ∀ (ks : List Bs) (vs : List Value) (es : List MapEntry) (i : Nat), ks.length = vs.length → es.map (fun e => (e.key, e.val)) = (ks.zip vs).map (fun x => (.string ⟨x.1.toArray⟩, x.2)) →
    ∃ a, Instr.findNow .string (.string ⟨n.toArray⟩) es i = some a ∧ a.map (·.2) = lookK ks vs n
  | [], _, [], _, _, _ => ⟨none, rfl, by cases ‹List Value› <;> rfl⟩
  | [], _, _ :: _, _, _, h => by simp at h
  | _ :: _, [], _, _, hl, _ => by simp at hl
  | _ :: _, _ :: _, [], _, _, h => by simp at h
  | k :: ks, v :: vs, e :: es, i, hl, h => by
    simp only [List.map_cons, List.zip_cons_cons, List.cons.injEq, Prod.mk.injEq] at h
    obtain ⟨⟨h1, h2⟩, h3⟩ := h
    unfold Instr.findNow lookK
    rw [h1]
    simp only [Instr.sameNow]
    rw [beqBA]
    by_cases hn : n = k
    · rw [decide_eq_true hn, if_pos hn]
      exact ⟨some (i, e.val), rfl, by rw [h2]; rfl⟩
    · rw [decide_eq_false hn, if_neg hn]
      exact findNow_look n ks vs es (i + 1) (by simpa using hl) h3
theorem lookK_none {n : Bs} : ∀ {ks : List Bs} {vs : List Value}, ks.contains n = false → lookK ks vs n = none
  | [], _, _ => by cases ‹List Value› <;> rfl
  | _ :: _, [], _ => rfl
  | k :: ks, v :: vs, h => by
    rw [List.contains_cons] at h
    rw [Bool.or_eq_false_iff] at h
    unfold lookK
    rw [if_neg (by simpa using h.1)]
    exact lookK_none h.2
theorem wpList_ins {ops : Array Oper} {rest : List Oper} {o : Oper} {a : Act} {w : World} {Q : Exit → Act → World → Prop} (B : Nat) (w0 : World) (r : Nat) (ks : List Bs) (vs : List Value) (k : Bs) (v : Value)
    (hg : o.guard = none) (m x y : Operand) (hop : o.op = Op.insert 293 m x y) (hm : a.eval m = .map (some r)) (hx : a.eval x = .string ⟨k.toArray⟩) (hy : a.eval y = v) (hks : ks.contains k = false) (hM : MapB B w0 w r ks vs)
    (h : ∀ w', MapB B w0 w' r (ks ++ [k]) (vs ++ [v]) → wpList Tryz.prog ops Q rest (a.put o.dst undef) w') : wpList Tryz.prog ops Q (o :: rest) a w := by
  obtain ⟨hB, hb, hl, es, hw, he⟩ := hM
  refine wpList_plain hg fun K hK => ?_
  obtain ⟨f, hf, hfl⟩ := findNow_look k ks vs es.toList 0 hl he
  rw [lookK_none hks] at hfl
  obtain rfl : f = none := by cases f with
    | none => rfl
    | some _ => cases hfl
  have hmt := Tryz.underlying293
  have hkt := Tryz.underlying9
  have hc : (Instr.checkKey false 10000 9 (.string ⟨k.toArray⟩)).run Tryz.prog w = .ok () w := MapKept.run_checkKey (k := .string ⟨k.toArray⟩) hkt (by simp [MapKept.IsKey]) false 9999
  unfold Oper.wp
  simp only [execOp, hop, hm, hx, hy]
  have hrun : (Instr.mapUpdate 293 (.map (some r)) (.string ⟨k.toArray⟩) v).run Tryz.prog w = .ok () { w with heap := w.heap.setIfInBounds r (.map (es.push { key := .string ⟨k.toArray⟩, val := v, born := es.size }) (es.size + 1)) } := by
    simp [Instr.mapUpdate, run_underlying hmt, MapKept.run_getObj_map hw, hc, MapKept.run_findKey hkt hf, MapKept.run_setObj_map _ hw, Result.andThen]
  simp [hrun, Result.andThen]
  refine hK _ _ (h _ ⟨hB, ?_, by simp [hl], es.push { key := .string ⟨k.toArray⟩, val := v, born := es.size }, ?_, ?_⟩)
  · exact ⟨hb.os, hb.tape, hb.output, by have := hb.size; simpa using this, fun i hi => by
      have := hb.block i hi
      rw [← this]
      simp only [Array.getElem?_setIfInBounds]
      rw [if_neg (by omega)]⟩
  · rw [(MapKept.heap_set hw).1, Array.size_push]
  · rw [Array.toList_push, List.map_append, he, List.zip_append hl, List.map_append]
    rfl
theorem run_look (B : Nat) (w0 w : World) (r : Nat) (ks : List Bs) (vs : List Value) (n : Bs) (hM : MapB B w0 w r ks vs) :
    (Instr.lookup 293 (.map (some r)) (.string ⟨n.toArray⟩) false).run Tryz.prog w = .ok ((lookK ks vs n).getD .nilFunc) w := by
  obtain ⟨_, _, hl, es, hw, he⟩ := hM
  obtain ⟨f, hf, hfl⟩ := findNow_look n ks vs es.toList 0 hl he
  have hmt := Tryz.underlying293
  have hkt := Tryz.underlying9
  have hc := fun b => MapKept.run_checkKey (P := Tryz.prog) (w := w) (k := .string ⟨n.toArray⟩) hkt (by simp [MapKept.IsKey]) b 9999
  have hz : (zeroValue 203).run Tryz.prog w = .ok .nilFunc w := by kernel_rfl
  cases f with
  | none =>
    rw [← hfl]
    simp [Instr.lookup, run_underlying hmt, MapKept.run_getObj_map hw, hc, MapKept.run_findKey hkt hf, Result.andThen, hz]
  | some x =>
    rw [← hfl]
    simp [Instr.lookup, run_underlying hmt, MapKept.run_getObj_map hw, hc, MapKept.run_findKey hkt hf, Result.andThen]
def keysD : List Bs := [wAdd, wAt, wBind, wDots, wFind, wHelp, wKind, wLead, wLinks, wOpen, wPack, wParts, wQuote, wResolve, wUnpack, wUnquote]
def fnsD (p : Value) : List Value := [.func (.func 221) #[p] #[], .func (.func 222) #[p] #[], .func (.func 223) #[p] #[], .func (.func 224) #[p] #[], .func (.func 225) #[p] #[], .func (.func 226) #[p] #[], .func (.func 227) #[p] #[], .func (.func 228) #[p] #[], .func (.func 229) #[p] #[], .func (.func 230) #[p] #[], .func (.func 231) #[p] #[], .func (.func 232) #[p] #[], .func (.func 233) #[p] #[], .func (.func 234) #[p] #[], .func (.func 235) #[p] #[], .func (.func 236) #[p] #[]]
set_option maxHeartbeats 8000000 in
set_option maxRecDepth 100000 in
theorem does_any (p : Value) (n : Bs) (w : World) :
    Calls Tryz.prog 134 #[p, .string ⟨n.toArray⟩] w fun e w' => e = .returned ((lookK keysD (fnsD p) n).getD .nilFunc) ∧ Below w.heap.size w w' := by
  have HM := Lib.hid (MapB.new w)
  have hmm : ∀ (w : World), (Instr.makeMap 293 none).run Tryz.prog w = .ok (.map (some w.heap.size)) (w.alloc (.map #[] 0)) := fun w => by simp [Instr.makeMap]
  have hmf : ∀ (fn : Fn) (first cap : Array Value) (w : World), (Instr.makeFunc fn first cap).run Tryz.prog w = .ok (.func fn first cap) w := fun _ _ _ _ => rfl
  go_enter Tryz.func134, Tryz.ntmps134
  go_wp2_with (refine wpList_ins w.heap.size w w.heap.size _ _ _ _ rfl _ _ _ rfl rfl rfl rfl (by decide) HM.out ?_; clear HM; intro w' hm; have HM := Lib.hid hm; clear hm)
  rw [run_look _ _ _ _ keysD (fnsD p) n HM.out]
  simp only [Result.andThen]
  rw [Oper.upon_value]
  generalize hr : (lookK keysD (fnsD p) n).getD .nilFunc = r
  go_wp2_with fail
  go_ret
  exact ⟨by rw [hr]; rfl, HM.out.2.1⟩
end Go.Proofs.YtignjjnflcpiiaaGreatDoor
namespace Go.Proofs.YtignjjnflcpiiaaGreatDoor
open Go
def ErrS {α : Type} (r : Except Int α) : Prop := ∀ e, r = .error e → 0 ≤ e ∧ e ≤ 1000
theorem errS_ok {α : Type} (x : α) : ErrS (.ok x) := fun _ h => by cases h
theorem errS_n {α : Type} (n : Int) (h0 : 0 ≤ n) (h1 : n ≤ 1000) : ErrS (.error n : Except Int α) := fun e h => by cases h; exact ⟨h0, h1⟩
theorem errS_to {α β : Type} {r : Except Int α} {e : Int} (h : ErrS r) (hr : r = .error e) : ErrS (.error e : Except Int β) := errS_n e (h e hr).1 (h e hr).2
theorem decodeF_errS (l : List Fld) (s : Bs) : ErrS (decodeF l s) := by
  unfold decodeF
  repeat' split
  all_goals first | exact errS_ok _ | exact errS_n _ (by decide) (by decide)
theorem eachR_errS {α β : Type} (f : Nat → α → Except Int (β × Nat)) (hf : ∀ n x, ErrS (f n x)) : ∀ (l : List α) (n : Nat), ErrS (eachR f n l)
  | [], _ => by unfold eachR; exact errS_ok _
  | x :: l, n => by
    unfold eachR
    split
    · exact errS_to (hf n x) (by assumption)
    · split
      · rename_i h; exact errS_to (eachR_errS f hf l _) h
      · exact errS_ok _
theorem partR_errS : ∀ (d left : Nat) (s : Bs), ErrS (partR d left s)
  | 0, _, _ => by unfold partR; exact errS_n _ (by decide) (by decide)
  | _ + 1, 0, _ => by unfold partR; exact errS_n _ (by decide) (by decide)
  | d + 1, left + 1, s => by
    unfold partR
    repeat' split
    all_goals first | exact errS_ok _ | exact errS_n _ (by decide) (by decide) | (rename_i h; exact errS_to (decodeF_errS _ _) h) | (rename_i h; exact errS_to (eachR_errS _ (fun n x => partR_errS d n x) _ _) h)
theorem readP_errS (s : Bs) : ErrS (readP s) := by
  unfold readP
  split
  · exact errS_n _ (by decide) (by decide)
  · cases h : partR 4 40 s with
    | error e => exact errS_to (partR_errS 4 40 s) h
    | ok x => exact errS_ok _
theorem openB_errS (s : Bs) : ErrS (openB s) := by
  unfold openB openP
  split
  · rename_i h; exact errS_to (readP_errS s) h
  · repeat' split
    all_goals first | exact errS_ok _ | exact errS_n _ (by decide) (by decide)
theorem partW_errS : ∀ (d left : Nat) (p : Prt), ErrS (partW d left p)
  | 0, _, _ => by unfold partW; exact errS_n _ (by decide) (by decide)
  | _ + 1, 0, _ => by unfold partW; exact errS_n _ (by decide) (by decide)
  | d + 1, left + 1, .mk _ _ _ _ => by
    unfold partW
    repeat' split
    all_goals first | exact errS_ok _ | exact errS_n _ (by decide) (by decide) | (rename_i h; exact errS_to (eachR_errS _ (fun n x => partW_errS d n x) _ _) h)
theorem bindB_errS (b : Bnd) : ErrS (bindB b) := by
  unfold bindB writeP
  split
  · rename_i h; exact errS_to (partW_errS 4 40 _) h
  · split
    · exact errS_n _ (by decide) (by decide)
    · exact errS_ok _
theorem atD_err (d : Dsk) (w : List Bs) : ErrS (atD d w) := by
  unfold atD
  repeat' split
  all_goals first | exact errS_ok _ | exact errS_n _ (by decide) (by decide) | (rename_i h; exact errS_to (bindB_errS _) h)
theorem bindD_err (d : Dsk) (w : List Bs) : ErrS (bindD d w) := by
  unfold bindD
  repeat' split
  all_goals first | exact errS_ok _ | exact errS_n _ (by decide) (by decide) | (rename_i h; exact errS_to (bindB_errS _) h)
theorem dotsD_err (w : List Bs) : ErrS (dotsD w) := by
  unfold dotsD
  repeat' split
  all_goals first | exact errS_ok _ | exact errS_n _ (by decide) (by decide) | (rename_i h; exact errS_to (bindB_errS _) h)
theorem findD_err (d : Dsk) (w : List Bs) : ErrS (findD d w) := by
  unfold findD
  repeat' split
  all_goals first | exact errS_ok _ | exact errS_n _ (by decide) (by decide) | (rename_i h; exact errS_to (bindB_errS _) h)
theorem helpD_err (w : List Bs) : ErrS (helpD w) := by
  unfold helpD
  repeat' split
  all_goals first | exact errS_ok _ | exact errS_n _ (by decide) (by decide) | (rename_i h; exact errS_to (bindB_errS _) h)
theorem kindD_err (w : List Bs) : ErrS (kindD w) := by
  unfold kindD
  repeat' split
  all_goals first | exact errS_ok _ | exact errS_n _ (by decide) (by decide) | (rename_i h; exact errS_to (bindB_errS _) h)
theorem leadD_err (d : Dsk) (w : List Bs) : ErrS (leadD d w) := by
  unfold leadD
  repeat' split
  all_goals first | exact errS_ok _ | exact errS_n _ (by decide) (by decide) | (rename_i h; exact errS_to (bindB_errS _) h)
theorem linksD_err (w : List Bs) : ErrS (linksD w) := by
  unfold linksD
  repeat' split
  all_goals first | exact errS_ok _ | exact errS_n _ (by decide) (by decide) | (rename_i h; exact errS_to (bindB_errS _) h)
theorem packD_err (w : List Bs) : ErrS (packD w) := by
  unfold packD
  repeat' split
  all_goals first | exact errS_ok _ | exact errS_n _ (by decide) (by decide) | (rename_i h; exact errS_to (bindB_errS _) h)
theorem partsD_err (d : Dsk) (w : List Bs) : ErrS (partsD d w) := by
  unfold partsD
  repeat' split
  all_goals first | exact errS_ok _ | exact errS_n _ (by decide) (by decide) | (rename_i h; exact errS_to (bindB_errS _) h)
theorem quoteD_err (w : List Bs) : ErrS (quoteD w) := by
  unfold quoteD
  repeat' split
  all_goals first | exact errS_ok _ | exact errS_n _ (by decide) (by decide) | (rename_i h; exact errS_to (bindB_errS _) h)
theorem resolveD_err (w : List Bs) : ErrS (resolveD w) := by
  unfold resolveD
  repeat' split
  all_goals first | exact errS_ok _ | exact errS_n _ (by decide) (by decide) | (rename_i h; exact errS_to (bindB_errS _) h)
theorem unpackD_err (w : List Bs) : ErrS (unpackD w) := by
  unfold unpackD
  repeat' split
  all_goals first | exact errS_ok _ | exact errS_n _ (by decide) (by decide) | (rename_i h; exact errS_to (bindB_errS _) h)
theorem unquoteD_err (w : List Bs) : ErrS (unquoteD w) := by
  unfold unquoteD
  repeat' split
  all_goals first | exact errS_ok _ | exact errS_n _ (by decide) (by decide) | (rename_i h; exact errS_to (bindB_errS _) h)
theorem openD_err (d : Dsk) (w : List Bs) : ErrS (openD d w).2 := by
  unfold openD
  by_cases h : w.length ≠ 0
  · rw [if_pos h]; exact errS_n _ (by decide) (by decide)
  · rw [if_neg h]
    cases hr : openB d.said with
    | error e => exact errS_to (openB_errS _) hr
    | ok b => exact errS_ok _
theorem does_cases (n : Bs) : n = wAdd ∨ n = wAt ∨ n = wBind ∨ n = wDots ∨ n = wFind ∨ n = wHelp ∨ n = wKind ∨ n = wLead ∨ n = wLinks ∨ n = wOpen ∨ n = wPack ∨ n = wParts ∨ n = wQuote ∨ n = wResolve ∨ n = wUnpack ∨ n = wUnquote ∨ (n ≠ wAdd ∧ n ≠ wAt ∧ n ≠ wBind ∧ n ≠ wDots ∧ n ≠ wFind ∧ n ≠ wHelp ∧ n ≠ wKind ∧ n ≠ wLead ∧ n ≠ wLinks ∧ n ≠ wOpen ∧ n ≠ wPack ∧ n ≠ wParts ∧ n ≠ wQuote ∧ n ≠ wResolve ∧ n ≠ wUnpack ∧ n ≠ wUnquote) := by
  by_cases h0 : n = wAdd
  · exact Or.inl h0
  by_cases h1 : n = wAt
  · exact Or.inr (Or.inl h1)
  by_cases h2 : n = wBind
  · exact Or.inr (Or.inr (Or.inl h2))
  by_cases h3 : n = wDots
  · exact Or.inr (Or.inr (Or.inr (Or.inl h3)))
  by_cases h4 : n = wFind
  · exact Or.inr (Or.inr (Or.inr (Or.inr (Or.inl h4))))
  by_cases h5 : n = wHelp
  · exact Or.inr (Or.inr (Or.inr (Or.inr (Or.inr (Or.inl h5)))))
  by_cases h6 : n = wKind
  · exact Or.inr (Or.inr (Or.inr (Or.inr (Or.inr (Or.inr (Or.inl h6))))))
  by_cases h7 : n = wLead
  · exact Or.inr (Or.inr (Or.inr (Or.inr (Or.inr (Or.inr (Or.inr (Or.inl h7)))))))
  by_cases h8 : n = wLinks
  · exact Or.inr (Or.inr (Or.inr (Or.inr (Or.inr (Or.inr (Or.inr (Or.inr (Or.inl h8))))))))
  by_cases h9 : n = wOpen
  · exact Or.inr (Or.inr (Or.inr (Or.inr (Or.inr (Or.inr (Or.inr (Or.inr (Or.inr (Or.inl h9)))))))))
  by_cases h10 : n = wPack
  · exact Or.inr (Or.inr (Or.inr (Or.inr (Or.inr (Or.inr (Or.inr (Or.inr (Or.inr (Or.inr (Or.inl h10))))))))))
  by_cases h11 : n = wParts
  · exact Or.inr (Or.inr (Or.inr (Or.inr (Or.inr (Or.inr (Or.inr (Or.inr (Or.inr (Or.inr (Or.inr (Or.inl h11)))))))))))
  by_cases h12 : n = wQuote
  · exact Or.inr (Or.inr (Or.inr (Or.inr (Or.inr (Or.inr (Or.inr (Or.inr (Or.inr (Or.inr (Or.inr (Or.inr (Or.inl h12))))))))))))
  by_cases h13 : n = wResolve
  · exact Or.inr (Or.inr (Or.inr (Or.inr (Or.inr (Or.inr (Or.inr (Or.inr (Or.inr (Or.inr (Or.inr (Or.inr (Or.inr (Or.inl h13)))))))))))))
  by_cases h14 : n = wUnpack
  · exact Or.inr (Or.inr (Or.inr (Or.inr (Or.inr (Or.inr (Or.inr (Or.inr (Or.inr (Or.inr (Or.inr (Or.inr (Or.inr (Or.inr (Or.inl h14))))))))))))))
  by_cases h15 : n = wUnquote
  · exact Or.inr (Or.inr (Or.inr (Or.inr (Or.inr (Or.inr (Or.inr (Or.inr (Or.inr (Or.inr (Or.inr (Or.inr (Or.inr (Or.inr (Or.inr (Or.inl h15)))))))))))))))
  exact Or.inr (Or.inr (Or.inr (Or.inr (Or.inr (Or.inr (Or.inr (Or.inr (Or.inr (Or.inr (Or.inr (Or.inr (Or.inr (Or.inr (Or.inr (Or.inr ⟨h0, h1, h2, h3, h4, h5, h6, h7, h8, h9, h10, h11, h12, h13, h14, h15⟩)))))))))))))))
theorem doesD_no {d : Dsk} {n : Bs} {w : List Bs} (h : n ≠ wAdd ∧ n ≠ wAt ∧ n ≠ wBind ∧ n ≠ wDots ∧ n ≠ wFind ∧ n ≠ wHelp ∧ n ≠ wKind ∧ n ≠ wLead ∧ n ≠ wLinks ∧ n ≠ wOpen ∧ n ≠ wPack ∧ n ≠ wParts ∧ n ≠ wQuote ∧ n ≠ wResolve ∧ n ≠ wUnpack ∧ n ≠ wUnquote) : doesD d n w = (d, .error 3) := by
  obtain ⟨h0, h1, h2, h3, h4, h5, h6, h7, h8, h9, h10, h11, h12, h13, h14, h15⟩ := h
  unfold doesD
  rw [if_neg h0, if_neg h1, if_neg h2, if_neg h3, if_neg h4, if_neg h5, if_neg h6, if_neg h7, if_neg h8, if_neg h9, if_neg h10, if_neg h11, if_neg h12, if_neg h13, if_neg h14, if_neg h15]
theorem doesD_err (d : Dsk) (n : Bs) (w : List Bs) : ErrS (doesD d n w).2 := by
  rcases does_cases n with rfl | rfl | rfl | rfl | rfl | rfl | rfl | rfl | rfl | rfl | rfl | rfl | rfl | rfl | rfl | rfl | h
  · exact errS_ok _
  · exact atD_err d w
  · exact bindD_err d w
  · exact dotsD_err w
  · exact findD_err d w
  · exact helpD_err w
  · exact kindD_err w
  · exact leadD_err d w
  · exact linksD_err w
  · exact openD_err d w
  · exact packD_err w
  · exact partsD_err d w
  · exact quoteD_err w
  · exact resolveD_err w
  · exact unpackD_err w
  · exact unquoteD_err w
  · rw [doesD_no h]
    exact errS_n _ (by decide) (by decide)
end Go.Proofs.YtignjjnflcpiiaaGreatDoor
namespace Go.Proofs.YtignjjnflcpiiaaGreatDoor
open Go Go.RowKit
structure CmdIn (X : Nat → Prop) (w : World) (d : Nat) (dk : Dsk) (v : Value) (l : List Bs) : Prop where
  lt : ∀ k, X k → k < w.heap.size
  low : ∀ k, k ≤ 8 → X k
  desk : DeskM X w d dk
  rd : RdW w v l
  len : (blankT l).length ≤ 1000000
  cnt : l.length ≤ 1000000
  each : ∀ x ∈ l, x.length ≤ 1000000
  g : Gz w
  said : dk.said.length ≤ 1000000
structure CmdOut (X : Nat → Prop) (w : World) (d : Nat) (r : Dsk × Ans) (e : Ending) (w' : World) : Prop where
  ans : AnsOr r.2 e
  desk : DeskM X w' d r.1
  keep : KeepX X w w'
theorem CmdIn.pure {X : Nat → Prop} {w : World} {d : Nat} {dk : Dsk} {v : Value} {l : List Bs} (h : CmdIn X w d dk v l) {f : Nat} {args : Array Value} {a : Ans} (hc : Calls Tryz.prog f args w fun e w' => AnsOr a e ∧ Below w.heap.size w w') : Calls Tryz.prog f args w fun e w' => CmdOut X w d (dk, a) e w' :=
  hc.mono fun _ _ ⟨h1, h2⟩ => ⟨h1, h.desk.next h2, KeepX.of h.lt h2⟩
theorem lookK_no (p : Value) {n : Bs} (h : n ≠ wAdd ∧ n ≠ wAt ∧ n ≠ wBind ∧ n ≠ wDots ∧ n ≠ wFind ∧ n ≠ wHelp ∧ n ≠ wKind ∧ n ≠ wLead ∧ n ≠ wLinks ∧ n ≠ wOpen ∧ n ≠ wPack ∧ n ≠ wParts ∧ n ≠ wQuote ∧ n ≠ wResolve ∧ n ≠ wUnpack ∧ n ≠ wUnquote) : lookK keysD (fnsD p) n = none := by
  obtain ⟨h0, h1, h2, h3, h4, h5, h6, h7, h8, h9, h10, h11, h12, h13, h14, h15⟩ := h
  unfold keysD fnsD
  rw [lookK, if_neg h0, lookK, if_neg h1, lookK, if_neg h2, lookK, if_neg h3, lookK, if_neg h4, lookK, if_neg h5, lookK, if_neg h6, lookK, if_neg h7, lookK, if_neg h8, lookK, if_neg h9, lookK, if_neg h10, lookK, if_neg h11, lookK, if_neg h12, lookK, if_neg h13, lookK, if_neg h14, lookK, if_neg h15]
  rfl
theorem cmd_any (d : Nat) (dk : Dsk) (n : Bs) (l : List Bs) : (∃ k, lookK keysD (fnsD (.pointer (some ⟨d, 0, none⟩))) n = some (.func (.func k) #[.pointer (some ⟨d, 0, none⟩)] #[]) ∧ (∀ args w, (callFunc k args).run Tryz.prog w = .ok (.enter k args) w) ∧
      ∀ (X : Nat → Prop) (v : Value) (w : World), CmdIn X w d dk v l → Calls Tryz.prog k #[.pointer (some ⟨d, 0, none⟩), v] w fun e w' => CmdOut X w d (doesD dk n l) e w') ∨
    (lookK keysD (fnsD (.pointer (some ⟨d, 0, none⟩))) n = none ∧ doesD dk n l = (dk, .error 3)) := by
  rcases does_cases n with rfl | rfl | rfl | rfl | rfl | rfl | rfl | rfl | rfl | rfl | rfl | rfl | rfl | rfl | rfl | rfl | hno
  · exact Or.inl ⟨221, rfl, enters_of Tryz.func221 (by kernel_rfl) rfl, fun X v w h => (dadd_any X d dk v l w h.lt h.desk h.rd h.len h.cnt h.said).mono fun _ _ ⟨h1, h2, h3⟩ => ⟨h1, h2, h3⟩⟩
  · exact Or.inl ⟨222, rfl, enters_of Tryz.func222 (by kernel_rfl) rfl, fun X v w h => h.pure (dat_any X d dk v l w h.desk h.rd h.each h.g h.cnt)⟩
  · exact Or.inl ⟨223, rfl, enters_of Tryz.func223 (by kernel_rfl) rfl, fun X v w h => h.pure (dbind_any X d dk v l w h.desk h.rd h.g)⟩
  · exact Or.inl ⟨224, rfl, enters_of Tryz.func224 (by kernel_rfl) rfl, fun X v w h => h.pure (ddots_any _ v l w h.rd h.cnt h.each h.g)⟩
  · exact Or.inl ⟨225, rfl, enters_of Tryz.func225 (by kernel_rfl) rfl, fun X v w h => h.pure (dfind_any X d dk v l w h.desk h.rd h.each h.g h.cnt)⟩
  · exact Or.inl ⟨226, rfl, enters_of Tryz.func226 (by kernel_rfl) rfl, fun X v w h => h.pure (dhelp_any _ v l w h.rd h.g)⟩
  · exact Or.inl ⟨227, rfl, enters_of Tryz.func227 (by kernel_rfl) rfl, fun X v w h => h.pure (dkind_any _ v l w h.rd h.len h.cnt h.g)⟩
  · exact Or.inl ⟨228, rfl, enters_of Tryz.func228 (by kernel_rfl) rfl, fun X v w h => h.pure (dlead_any X d dk v l w h.desk h.rd h.each h.g h.cnt)⟩
  · exact Or.inl ⟨229, rfl, enters_of Tryz.func229 (by kernel_rfl) rfl, fun X v w h => h.pure (dlinks_any _ v l w h.rd h.len h.cnt h.g)⟩
  · exact Or.inl ⟨230, rfl, enters_of Tryz.func230 (by kernel_rfl) rfl, fun X v w h => (dopen_any X d dk v l w h.lt h.low h.desk h.rd h.g h.said).mono fun _ _ ⟨h1, h2, h3⟩ => ⟨h1, h2, h3⟩⟩
  · exact Or.inl ⟨231, rfl, enters_of Tryz.func231 (by kernel_rfl) rfl, fun X v w h => h.pure (dpack_any _ v l w h.rd h.len h.cnt)⟩
  · exact Or.inl ⟨232, rfl, enters_of Tryz.func232 (by kernel_rfl) rfl, fun X v w h => h.pure (dparts_any X d dk v l w h.desk h.rd h.g)⟩
  · exact Or.inl ⟨233, rfl, enters_of Tryz.func233 (by kernel_rfl) rfl, fun X v w h => h.pure (dquote_any _ v l w h.rd h.len h.cnt)⟩
  · exact Or.inl ⟨234, rfl, enters_of Tryz.func234 (by kernel_rfl) rfl, fun X v w h => h.pure (dresolve_any _ v l w h.rd h.each h.g h.cnt)⟩
  · exact Or.inl ⟨235, rfl, enters_of Tryz.func235 (by kernel_rfl) rfl, fun X v w h => h.pure (dunpack_any _ v l w h.rd h.len h.cnt h.g)⟩
  · exact Or.inl ⟨236, rfl, enters_of Tryz.func236 (by kernel_rfl) rfl, fun X v w h => h.pure (dunquote_any _ v l w h.rd h.len h.cnt h.g)⟩
  · exact Or.inr ⟨lookK_no _ hno, doesD_no hno⟩
theorem DeskM.weak {X Y : Nat → Prop} {w : World} {d : Nat} {dk : Dsk} (h : DeskM X w d dk) (hY : ∀ k, k < w.heap.size → Y k → X k) : DeskM Y w d dk := by
  obtain ⟨bptr, self, v, h1, h2, h3, h4, h5, h6⟩ := h
  refine ⟨bptr, self, v, h1, fun hy => h2 (hY d h1.lt hy), h3, h4, fun g hg => ⟨fun hy => (h5 g hg).1 (hY g ?_ hy), (h5 g hg).2⟩, ?_⟩
  · rcases h4.2 with ⟨hv, _⟩ | ⟨g', cap, cur, hv, _, hh, _⟩
    · rw [hv] at hg; cases hg
    · rw [hv] at hg
      injection hg with hg
      simp only at hg
      subst hg
      rcases Nat.lt_or_ge g' w.heap.size with h' | h'
      · exact h'
      · simp [Array.getElem?_eq_none h'] at hh
  · rcases h6 with h6 | ⟨b, bp, h6, h7, h8, h9⟩
    · exact Or.inl h6
    · exact Or.inr ⟨b, bp, h6, h7, h8.weak (fun c hc hl => ⟨fun hy => hc.1 (hY c hl hy), hc.2⟩), h9⟩
theorem DeskM.keep {X : Nat → Prop} {w w' : World} {d : Nat} {dk : Dsk} (h : DeskM X w d dk) (hs : w.heap.size ≤ w'.heap.size) (hk : ∀ k, ¬ X k → k < w.heap.size → w'.heap[k]? = w.heap[k]?) : DeskM X w' d dk := by
  obtain ⟨bptr, self, v, h1, h2, h3, h4, h5, h6⟩ := h
  refine ⟨bptr, self, v, (hk d h2 h1.lt).trans h1, h2, h3, ?_, h5, ?_⟩
  · refine OwnG.keepB h4 (fun g hg => hk g (h5 g hg).1 ?_)
    rcases h4.2 with ⟨hv, _⟩ | ⟨g', cap, cur, hv, _, hh, _⟩
    · rw [hv] at hg; cases hg
    · rw [hv] at hg
      injection hg with hg
      simp only at hg
      subst hg
      rcases Nat.lt_or_ge g' w.heap.size with h' | h'
      · exact h'
      · simp [Array.getElem?_eq_none h'] at hh
  · rcases h6 with h6 | ⟨b, bp, h6, h7, h8, h9⟩
    · exact Or.inl h6
    · exact Or.inr ⟨b, bp, h6, h7, h8.keep hs (fun c hc hl => hk c hc.1 hl), h9⟩
set_option maxHeartbeats 8000000 in
set_option maxRecDepth 100000 in
theorem idle_any (q : Go.Addr) (w : World) :
    CallsD Tryz.prog 131 #[.pointer (some q)] .returning w fun e u' w' => e = .returned (.tuple #[]) ∧ u' = .returning ∧ w' = w := by
  refine callsD_of_wpS Tryz.func131 rfl fun c₀ cs hu => ?_
  apply wpS_seq
  apply wpS_region
  simp [wpOpsS, go_sem, recoverD, hu, Tryz.ntmps131, Exit.thenS]
  apply wpS_seq
  apply wpS_region
  simp [wpOpsS, go_sem, Exit.thenS]
  refine wpS_cond (t := false) (by simp [Act.eval, Array.replicate]) ?_
  simp only [Bool.false_eq_true, if_false]
  refine wpS_of_wp (wp_skip ?_)
  cases c₀
  simp_all [bodyPostS, results, Tryz.results131]
set_option maxHeartbeats 8000000 in
set_option maxRecDepth 100000 in
theorem caught_any (b : Nat) (c : Int) (old : Value) (w : World) (hk : Blk w b #[old] 9) (hg : Gz w) (hc0 : 0 ≤ c) (hc1 : c ≤ 1000) :
    CallsD Tryz.prog 131 #[.pointer (some ⟨b, 0, none⟩)] (.panicking [{ v := .iface 199 (.agg #[.int .i64 c]), recovered := false }]) w fun e u' w' => e = .returned (.tuple #[]) ∧ u' = .panicking [{ v := .iface 199 (.agg #[.int .i64 c]), recovered := true }] ∧ Blk w' b #[.string ⟨(errT c).toArray⟩] 9 ∧ KeepX (fun k => k < w.heap.size ∧ k ≠ b) w w' := by
  have HI := fun (W : World) (hG : Gz W) => itoa_any c (by omega) (by omega) W hG
  have hta : ∀ (w : World), (Instr.typeAssert (.iface 199 (.agg #[.int .i64 c])) 20 199 true).run Tryz.prog w = .ok (.tuple #[.agg #[.int .i64 c], .bool true]) w := fun _ => by kernel_rfl
  have kf := hk.free
  have hil := Lib.itoa_length_le c (by omega) (by omega)
  have HE := Lib.hid (show errT c = 101 :: 114 :: 114 :: 111 :: 114 :: 32 :: Lib.itoa c from rfl)
  generalize errT c = et at HE ⊢
  generalize Lib.itoa c = ic at HI hil HE
  refine callsD_of_wpS Tryz.func131 rfl fun c₀ cs hu => ?_
  apply wpS_seq
  apply wpS_region
  simp [wpOpsS, go_sem, recoverD, hu, Tryz.ntmps131, Exit.thenS]
  refine wpS_of_wp ?_
  change Code.wp _ _ _ { tmps := #[.pointer (some ⟨b, 0, none⟩), .iface 199 (.agg #[.int .i64 c]), undef, undef, .iface 199 (.agg #[.int .i64 c]), undef, undef, undef, undef, undef, undef, undef, undef, undef, undef, undef, undef, undef, undef], defers := [] } w
  have hlt := hk.lt
  go_wp2_with fail
  have B0 := (Below.refl w.heap.size w).alloc (Nat.le_refl _) (Obj.cells #[.int .i64 c] 199)
  with_reducible refine (HI _ (hg.next B0)).mono ?_
  rintro e w1 ⟨rfl, b1⟩
  have B1 := B0.trans (b1.mono B0.size)
  have hk1 := hk.next B1 hlt
  have kf1 := hk1.free
  have kc1 := hk1.cell
  clear HI hta kf
  go_wp2_with fail
  refine ⟨rfl, _, rfl, .tuple #[], by simp [results, Tryz.results131], rfl, rfl, ?_, ?_⟩
  · have := hk1.set 0 (.string ⟨(101 :: 114 :: 114 :: 111 :: 114 :: 32 :: ic).toArray⟩)
    rw [HE.out]
    simpa using this
  · exact ⟨B1.os, B1.tape, B1.output, by have := B1.size; simpa [World.setCell] using this, fun k hk => (heap_set _ _ _ k (by simpa using hk.2)).trans (B1.block k hk.1)⟩
end Go.Proofs.YtignjjnflcpiiaaGreatDoor
