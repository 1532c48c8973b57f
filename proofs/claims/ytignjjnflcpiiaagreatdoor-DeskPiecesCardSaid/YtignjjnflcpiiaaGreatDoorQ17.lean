/- part.read, part.Read. Condition: what the variables hold; at most 20000 bytes (Read: whatever comes); part.Read. Condition: what the variables hold; at most 10^12 bytes. -/
import Derived.Test.YtignjjnflcpiiaaGreatDoorQ16
namespace Go.Proofs.YtignjjnflcpiiaaGreatDoor
open Go Go.RowKit
def prtV (r : PRaw) : Value := .agg #[slv r.1, .string ⟨r.2.1.toArray⟩, .bool r.2.2.1, slv r.2.2.2]
def PartOr (B d lb left : Nat) (r : Except Int (Prt × Nat)) (e : Ending) (w' : World) : Prop :=
  (∃ p n raw, r = .ok (p, n) ∧ n ≤ left ∧ e = .returned (.tuple #[prtV raw, .nilIface]) ∧ RdPrt (fun b => B ≤ b) d w' raw p ∧ Blk w' lb #[.int .i64 n] 3) ∨ (∃ c raw, r = .error c ∧ e = .returned (.tuple #[prtV raw, .iface 30 (.int .i64 c)]))
abbrev OwnPr (w : World) (B : Nat) (v : Value) (l : List PRaw) : Prop := OwnG 44 4 prtC w B v l
theorem cellPr1 (w : World) (r : PRaw) (t : TypeId) (b : Nat) (hb : b = w.heap.size) : ∀ j u, ([r].flatMap prtC)[j]? = some u → (w.alloc (.cells #[slv r.1, .string ⟨r.2.1.toArray⟩, .bool r.2.2.1, slv r.2.2.2] t)).cell? ((⟨b, 0, none⟩ : Go.Addr).add j) = some u := fun j u hj => by
  subst hb
  rw [addr_add0, (Blk.new w #[slv r.1, .string ⟨r.2.1.toArray⟩, .bool r.2.2.1, slv r.2.2.2] t).cell]
  match j, hj with
  | 0, hj => exact hj
  | 1, hj => exact hj
  | 2, hj => exact hj
  | 3, hj => exact hj
  | j + 4, hj => simp [prtC] at hj
theorem appPr {Q : Exit → Act → World → Prop} {ops : Array Oper} {rest : List Oper} {o : Oper} {a : Act} {w : World} (hgd : o.guard = none) (s x : Operand)
    (ho : o.op = .call { callee := .builtin .append, args := #[s, x], argTypes := #[33, 33] }) (B : Nat) (v : Value) (xs : List PRaw) (y : PRaw) (b c : Nat)
    (hs : a.eval s = v) (hown : OwnPr w B v xs) (hx : a.eval x = .slice (some ⟨b, 0, none⟩) 1 c) (hc : ∀ j u, ([y].flatMap prtC)[j]? = some u → w.cell? ((⟨b, 0, none⟩ : Go.Addr).add j) = some u) (hn : xs.length + 1 ≤ 1000000000001) (hbase : B ≤ w.heap.size)
    (h : ∀ v' w', OwnPr w' B v' (xs ++ [y]) → w.grownBy w' v.ownBlock → Below B w w' → (v'.ownBlock = v.ownBlock ∨ v'.ownBlock = some w.heap.size) → wpList Tryz.prog ops Q rest (a.put o.dst v') w') : wpList Tryz.prog ops Q (o :: rest) a w :=
  appG2 (α := PRaw) (cs := prtC) (size := 4) (z := .agg #[.slice none 0 0, .string ByteArray.empty, .bool false, .slice none 0 0]) prtC_len prtC_one infoPrt rfl (by decide) Tryz.underlying33 hgd s x ho B v xs [y] ⟨b, 0, none⟩ 1 c rfl hs hown hx hc (by simp; omega) (by unfold maxLen; simp; omega) hbase h
def addR {β : Type} (qs : List β) : Except Int (List β × Nat) → Except Int (List β × Nat)
  | .error e => .error e
  | .ok (ys, m) => .ok (qs ++ ys, m)
theorem addR_nil {β : Type} (r : Except Int (List β × Nat)) : addR [] r = r := by
  cases r with
  | error e => rfl
  | ok x => rfl
theorem eachR_err {α β : Type} {f : Nat → α → Except Int (β × Nat)} {n : Nat} {l : List α} {k : Nat} {e : Int} (hk : k < l.length) (h : f n l[k] = .error e) (qs : List β) : addR qs (eachR f n (l.drop k)) = .error e := by
  rw [List.drop_eq_getElem_cons hk]
  unfold eachR; rw [h]; rfl
theorem eachR_ok {α β : Type} {f : Nat → α → Except Int (β × Nat)} {n m : Nat} {l : List α} {k : Nat} {y : β} (hk : k < l.length) (h : f n l[k] = .ok (y, m)) (qs : List β) : addR qs (eachR f n (l.drop k)) = addR (qs ++ [y]) (eachR f m (l.drop (k + 1))) := by
  rw [List.drop_eq_getElem_cons hk]
  conv => lhs; unfold eachR
  rw [h]
  simp only
  cases eachR f m (l.drop (k + 1)) with
  | error e => rfl
  | ok x => simp [addR]
theorem eachR_end {α β : Type} {f : Nat → α → Except Int (β × Nat)} {n : Nat} {l : List α} (qs : List β) : addR qs (eachR f n (l.drop l.length)) = .ok (qs, n) := by
  rw [List.drop_length]; simp [eachR, addR]
theorem boundF_le {n : Nat} {l : List Fld} {b : Bs} (h : FldsN n l) (hb : boundF l = some (some b)) : b.length ≤ n := by
  unfold boundF at hb
  cases hg : getF l ctN with
  | none => rw [hg] at hb; cases hb
  | some v =>
    rw [hg] at hb
    simp only at hb
    cases hk : readK v with
    | none => rw [hk] at hb; cases hb
    | some x =>
      obtain ⟨m, ps⟩ := x
      rw [hk] at hb
      simp only at hb
      split at hb
      · cases hp : getP ps boundN with
        | none => rw [hp] at hb; cases hb
        | some y =>
          rw [hp] at hb
          simp only at hb
          split at hb
          · cases hb
          · cases hb
            exact Nat.le_trans (getP_le (readK_n hk).2 hp) (getF_le h hg)
      · cases hb
theorem OwnS.t {w : World} {B : Nat} {v : Value} {xs : List Bs} (h : OwnS w B v xs) : OwnT w B v xs := by
  unfold OwnT OwnG
  unfold OwnS at h
  have e : xs.flatMap strC = xs.map fun x => Value.string ⟨x.toArray⟩ := by
    clear h
    induction xs with
    | nil => rfl
    | cons x xs ih => rw [List.flatMap_cons, List.map_cons, ih]; rfl
  rw [e]; exact h
theorem OwnPr.shape {w : World} {B : Nat} {v : Value} {xs : List PRaw} (h : OwnPr w B v xs) : ∃ a n cap, v = .slice a n cap := by
  obtain ⟨a, cap, hv, _⟩ := OwnG.rd (by decide) prtC_len h
  exact ⟨a, _, cap, hv⟩
def zPart : Array Value := #[.slice none 0 0, .string ⟨#[]⟩, .bool false, .slice none 0 0]
def zRaw : PRaw := ((none, 0, 0), [], false, (none, 0, 0))
set_option maxHeartbeats 16000000 in
set_option maxRecDepth 100000 in
theorem pread_any (d : Nat) : ∀ (left : Nat) (s : Bs) (lb : Nat) (dp li : Int) (w : World), Hid (dp = 5 - (d : Int)) → d ≤ 4 → Hid (li = left) → left ≤ 40 → Gr w → 3 < lb → Blk w lb #[.int .i64 li] 3 → s.length ≤ 20000 →
    Calls Tryz.prog 87 #[.string ⟨s.toArray⟩, .int .i64 dp, .pointer (some ⟨lb, 0, none⟩)] w fun e w' => PartOr w.heap.size d lb left (partR d left s) e w' ∧ BelowO lb w.heap.size w w' := by
  induction d with
  | zero =>
    intro left s lb dp li w hdp _ hli hl hg hml hb hs
    obtain rfl : dp = 5 := hdp.out
    have HN := Lib.hid (show partR 0 left s = .error 4 from rfl)
    have hl0 : 0 ≤ li ∧ li ≤ 40 := by have := hli.out; omega
    have kc := hb.cell 0
    have kf := hb.free 0
    have kcs : (w.setCell ⟨lb, 0, none⟩ (.int .i64 (li - 1))).cell? ⟨lb, 0, none⟩ = some (.int .i64 (li - 1)) := (hb.set 0 _).cell 0
    have hlb := hb.lt
    have hne : w.heap.size ≠ lb := by omega
    have BO : BelowO lb w.heap.size w (w.setCell ⟨lb, 0, none⟩ (.int .i64 (li - 1))) := (BelowO.refl _ _ _).set _
    by_cases h0 : li - 1 < 0
    all_goals
      go_enter Tryz.func87, Tryz.ntmps87
      go_wp2_with fail
      refine bodyPost_ret (v := .tuple #[.agg zPart, .iface 30 (.int .i64 4)]) (by simp [results, Tryz.results87, go_sem, zPart]) rfl ⟨Or.inr ⟨4, zRaw, HN.out, rfl⟩, ?_⟩
      exact BO.trans (BelowO.of ((Below.refl _ _).alloc (by simp) _))
  | succ d ih =>
    intro left s lb dp li w hdp hd4 hli hl hg hml hb hs
    have hdp1 : 1 ≤ dp ∧ dp ≤ 4 := by have := hdp.out; omega
    have hl0 : 0 ≤ li ∧ li ≤ 40 := by have := hli.out; omega
    have kc := hb.cell 0
    have kf := hb.free 0
    have kcs : (w.setCell ⟨lb, 0, none⟩ (.int .i64 (li - 1))).cell? ⟨lb, 0, none⟩ = some (.int .i64 (li - 1)) := (hb.set 0 _).cell 0
    have hlb := hb.lt
    have hne : w.heap.size ≠ lb := by omega
    have BO : BelowO lb w.heap.size w (w.setCell ⟨lb, 0, none⟩ (.int .i64 (li - 1))) := (BelowO.refl _ _ _).set _
    by_cases h0 : li - 1 < 0
    · have HN := Lib.hid (show partR (d + 1) left s = .error 4 from by
        obtain rfl : left = 0 := by have := hli.out; omega
        rfl)
      go_enter Tryz.func87, Tryz.ntmps87
      go_wp2_with fail
      refine bodyPost_ret (v := .tuple #[.agg zPart, .iface 30 (.int .i64 4)]) (by simp [results, Tryz.results87, go_sem, zPart]) rfl ⟨Or.inr ⟨4, zRaw, HN.out, rfl⟩, ?_⟩
      exact BO.trans (BelowO.of ((Below.refl _ _).alloc (by simp) _))
    obtain ⟨lf, rfl⟩ : ∃ n, left = n + 1 := ⟨left - 1, by have := hli.out; omega⟩
    have hli1 := Lib.hid (show li - 1 = (lf : Int) from by have := hli.out; omega)
    have hkl := ((hb.set 0 (.int .i64 (li - 1))).alloc (.cells zPart 44))
    have hkr := Blk.new (w.setCell ⟨lb, 0, none⟩ (.int .i64 (li - 1))) zPart 44
    have BO1 := BO.trans (BelowO.of ((Below.refl w.heap.size (w.setCell ⟨lb, 0, none⟩ (.int .i64 (li - 1)))).alloc (by simp) (.cells zPart 44)))
    have hg1 := hg.nextO BO1 hml
    have hsz : ((w.setCell ⟨lb, 0, none⟩ (.int .i64 (li - 1))).alloc (.cells zPart 44)).heap.size = w.heap.size + 1 := by simp
    rw [World.size_setCell] at hkr
    have HP := Lib.hid (show partR (d + 1) (lf + 1) s = match readH s with
      | none => .error 3
      | some (l0, body) => match cleanF l0 with
        | none => .error 1
        | some l => match boundF l with
          | none => .error 3
          | some none => (match decodeF l body with
            | .error e => .error e
            | .ok b => .ok (.mk l b false [], lf))
          | some (some b) => match cutB body b with
            | none => .error 3
            | some ps => match eachR (partR d) lf ps with
              | .error e => .error e
              | .ok (qs, n) => .ok (.mk l [] true qs, n) from rfl)
    have hRH := fun W hW => readHead_any s W (by omega) hW
    have hrw := fun o r (h : readH s = some (o, r)) => readH_weight h
    generalize readH s = rh at HP hRH hrw
    unfold zPart at hkl hkr BO1 hg1 hsz
    go_enter Tryz.func87, Tryz.ntmps87
    go_wp2_with fail
    generalize World.alloc _ _ = W1 at hkl hkr BO1 hg1 hsz ⊢
    clear kc kf kcs BO hg hb h0
    with_reducible refine (hRH _ hg1.g).mono ?_
    rintro e w2 ⟨hh, b2⟩
    have hkl := hkl.next b2 hkl.lt
    have hkr := hkr.next b2 hkr.lt
    have hg2 := hg1.next b2
    have B2 := BO1.next b2 BO1.size
    have hs2 := b2.size
    clear hRH b2
    rcases hh with ⟨o, body, v, rfl, _, _, _, rfl, hrd⟩ | ⟨v, rfl, rfl, hv⟩
    case inr =>
      have HN := Lib.hid (show partR (d + 1) (lf + 1) s = .error 3 from HP.out)
      have hT := tell_any v 3 w2 hv hg2
      obtain ⟨t, x, rfl⟩ := (hv.n (by decide)).some
      have kr := hkr.cell
      have kf := hkr.free
      clear HP hrw
      go_wp2_with fail
      with_reducible refine hT.mono ?_
      rintro e w3 ⟨rfl, b3⟩
      have hkr := hkr.next b3 hkr.lt
      have kr := hkr.cell
      have kf := hkr.free
      go_wp2_with fail
      refine bodyPost_ret (v := .tuple #[.agg zPart, .iface 30 (.int .i64 3)]) (by simp [results, Tryz.results87, go_sem, zPart, kr]) rfl ⟨Or.inr ⟨3, zRaw, HN.out, rfl⟩, ?_⟩
      exact ((((B2.next b3 B2.size).own (Nat.le_refl _) _).own (Nat.le_refl _) _).own (Nat.le_refl _) _).own (Nat.le_refl _) _
    obtain ⟨hwo, hbl⟩ := hrw o body rfl
    have hC := clean_any v o w2 hrd ((weight_n (n := 20000) (by omega)).ok (by decide))
    have hcw := fun l (h : cleanF o = some l) => cleanF_weight h
    have HP := Lib.hid (show partR (d + 1) (lf + 1) s = match cleanF o with
        | none => .error 1
        | some l => match boundF l with
          | none => .error 3
          | some none => (match decodeF l body with
            | .error e => .error e
            | .ok b => .ok (.mk l b false [], lf))
          | some (some b) => match cutB body b with
            | none => .error 3
            | some ps => match eachR (partR d) lf ps with
              | .error e => .error e
              | .ok (qs, n) => .ok (.mk l [] true qs, n) from HP.out)
    clear hrw
    generalize cleanF o = rc at hC hcw HP
    go_wp2_with fail
    with_reducible refine hC.mono ?_
    rintro e w3 ⟨hh, b3⟩
    have hkl := hkl.next b3 hkl.lt
    have hkr := hkr.next b3 hkr.lt
    have hg3 := hg2.next b3
    have B3 := B2.next b3 B2.size
    have hs3 := b3.size
    clear hC hrd b3 B2 hg2
    rcases hh with ⟨l, v2, rfl, rfl, hown⟩ | ⟨v2, rfl, rfl, hv⟩
    case inr =>
      have HN := Lib.hid (show partR (d + 1) (lf + 1) s = .error 1 from HP.out)
      have hT := tell_any v2 1 w3 hv hg3
      obtain ⟨t, x, rfl⟩ := (hv.n (by decide)).some
      have kr := hkr.cell
      have kf := hkr.free
      clear HP hcw
      go_wp2_with fail
      with_reducible refine hT.mono ?_
      rintro e w4 ⟨rfl, b4⟩
      have hkr := hkr.next b4 hkr.lt
      have kr := hkr.cell
      have kf := hkr.free
      go_wp2_with fail
      refine bodyPost_ret (v := .tuple #[.agg zPart, .iface 30 (.int .i64 1)]) (by simp [results, Tryz.results87, go_sem, zPart, kr]) rfl ⟨Or.inr ⟨1, zRaw, HN.out, rfl⟩, ?_⟩
      exact ((((B3.next b4 B3.size).own (Nat.le_refl _) _).own (Nat.le_refl _) _).own (Nat.le_refl _) _).own (Nat.le_refl _) _
    have hln := weight_n (n := 20000) (Nat.le_trans (hcw l rfl) (by omega))
    have hrB := OwnG.rdB (by decide) fldC_len hown
    have hB := bound_any v2 l w3 hrB.rd (hln.mono (by decide)) hg3
    obtain ⟨a2, cap2, rfl, _⟩ := hrB.rd
    have HP := Lib.hid (show partR (d + 1) (lf + 1) s = match boundF l with
          | none => .error 3
          | some none => (match decodeF l body with
            | .error e => .error e
            | .ok b => .ok (.mk l b false [], lf))
          | some (some b) => match cutB body b with
            | none => .error 3
            | some ps => match eachR (partR d) lf ps with
              | .error e => .error e
              | .ok (qs, n) => .ok (.mk l [] true qs, n) from HP.out)
    have hbb := fun b => boundF_le (b := b) hln
    have hrB : RdB 2 fldC (fun b => w.heap.size < b ∧ b < w3.heap.size) w3 (.slice a2 l.length cap2) l := hrB.weak fun b h1 h2 => ⟨by have := h1.1; omega, h2⟩
    clear hcw hown
    generalize boundF l = rb at hB HP hbb
    go_wp2_with fail
    with_reducible refine hB.mono ?_
    rintro e w4 ⟨hh, b4⟩
    have hkl := hkl.next b4 hkl.lt
    have hkr := hkr.next b4 hkr.lt
    have hg4 := hg3.next b4
    have B4 := B3.next b4 B3.size
    have hs4 := b4.size
    have hrB := hrB.next b4
    clear hB b4 B3 hg3
    rcases hh with ⟨b, rfl, rfl⟩ | ⟨rfl, rfl⟩ | ⟨rfl, rfl⟩
    case inr.inl =>
      have HP := Lib.hid (show partR (d + 1) (lf + 1) s = match decodeF l body with
            | .error e => .error e
            | .ok b => .ok (.mk l b false [], lf) from HP.out)
      have hkp := Blk.new w4 #[.slice a2 l.length cap2, .string ⟨#[]⟩, .bool false, .slice none 0 0] 44
      have BA := (Below.refl w4.heap.size w4).alloc (Nat.le_refl _) (.cells #[.slice a2 l.length cap2, .string ⟨#[]⟩, .bool false, .slice none 0 0] 44)
      have hkl := hkl.next BA hkl.lt
      have hkr := hkr.next BA hkr.lt
      have hg5 := hg4.next BA
      have B5 := B4.next BA B4.size
      have hrB := hrB.next BA
      have hD := decode_any _ l body _ hrB.rd (hln.mono (by decide)) (by omega) hg5
      clear BA hbb B4 hg4
      generalize decodeF l body = rd at hD HP
      go_wp2_with fail
      generalize World.alloc _ _ = W5 at hkp hkl hkr hg5 B5 hrB hD ⊢
      with_reducible refine hD.mono ?_
      rintro e w6 ⟨hh, b6⟩
      have hkp := hkp.next b6 hkp.lt
      have hkl := hkl.next b6 hkl.lt
      have hkr := hkr.next b6 hkr.lt
      have hrB := hrB.next b6
      have B6 := B5.next b6 B5.size
      have ne1 : w.heap.size ≠ w4.heap.size := by omega
      have ne2 : w4.heap.size ≠ w.heap.size := by omega
      have ne3 : lb ≠ w4.heap.size := by omega
      have hsB := hs4
      clear hD b6 B5
      rcases hh with ⟨o, rfl, rfl⟩ | ⟨c, rfl, _, rfl⟩
      · have HN := Lib.hid (show partR (d + 1) (lf + 1) s = .ok (.mk l o false [], lf) from HP.out)
        have hst : Blk (w6.setCell ⟨w4.heap.size, 1, none⟩ (.string ⟨o.toArray⟩)) w4.heap.size #[.slice a2 l.length cap2, .string ⟨o.toArray⟩, .bool false, .slice none 0 0] 44 := hkp.set 1 _
        have kp := hkp.cell
        have kpf := hkp.free
        have ks := hst.cell
        have hkr := hkr.setO (a := ⟨w4.heap.size, 1, none⟩) ne1 (.string ⟨o.toArray⟩)
        have kr := hkr.cell
        have krf := hkr.free
        clear HP
        go_wp2_with fail
        refine bodyPost_ret (v := .tuple #[.agg #[.slice a2 l.length cap2, .string ⟨o.toArray⟩, .bool false, .slice none 0 0], .nilIface]) (by simp [results, Tryz.results87, go_sem, kr]) rfl ⟨Or.inl ⟨_, _, ((a2, l.length, cap2), o, false, (none, 0, 0)), HN.out, by omega, rfl, ⟨rfl, rfl, ?_, [], RdB.nil _ _ _ _ _ _, rfl, fun k h => by simp at h⟩, ?_⟩, ?_⟩
        · exact (((((hrB.set _ (by simp only; omega)).set _ (by simp only; omega)).set _ (by simp only; omega)).set _ (by simp only; omega)).set _ (by simp only; omega)).weak fun b h _ => Nat.le_of_lt h.1
        · have := (((((hkl.setO (a := ⟨w4.heap.size, 1, none⟩) ne3 (.string ⟨o.toArray⟩)).setO (a := ⟨w.heap.size, 0, none⟩) hne.symm (.slice a2 l.length cap2)).setO (a := ⟨w.heap.size, 1, none⟩) hne.symm (.string ⟨o.toArray⟩)).setO (a := ⟨w.heap.size, 2, none⟩) hne.symm (.bool false)).setO (a := ⟨w.heap.size, 3, none⟩) hne.symm (.slice none 0 0))
          rw [hli1.out] at this
          exact this
        · exact ((((B6.own (by simp only; omega) _).own (Nat.le_refl _) _).own (Nat.le_refl _) _).own (Nat.le_refl _) _).own (Nat.le_refl _) _
      · have HN := Lib.hid (show partR (d + 1) (lf + 1) s = .error c from HP.out)
        have hst : Blk (w6.setCell ⟨w4.heap.size, 1, none⟩ (.string ⟨#[]⟩)) w4.heap.size #[.slice a2 l.length cap2, .string ⟨#[]⟩, .bool false, .slice none 0 0] 44 := hkp.set 1 _
        have kp := hkp.cell
        have kpf := hkp.free
        have ks := hst.cell
        have hkr := hkr.setO (a := ⟨w4.heap.size, 1, none⟩) ne1 (.string ⟨#[]⟩)
        have kr := hkr.cell
        have krf := hkr.free
        clear HP
        go_wp2_with fail
        refine bodyPost_ret (v := .tuple #[.agg #[.slice a2 l.length cap2, .string ⟨#[]⟩, .bool false, .slice none 0 0], .iface 30 (.int .i64 c)]) (by simp [results, Tryz.results87, go_sem, kr]) rfl ⟨Or.inr ⟨c, ((a2, l.length, cap2), [], false, (none, 0, 0)), HN.out, rfl⟩, ?_⟩
        exact ((((B6.own (by simp only; omega) _).own (Nat.le_refl _) _).own (Nat.le_refl _) _).own (Nat.le_refl _) _).own (Nat.le_refl _) _
    case inl =>
      have hbl2 := hbb b rfl
      have HP := Lib.hid (show partR (d + 1) (lf + 1) s = match cutB body b with
            | none => .error 3
            | some ps => match eachR (partR d) lf ps with
              | .error e => .error e
              | .ok (qs, n) => .ok (.mk l [] true qs, n) from HP.out)
      have hkp := Blk.new w4 #[.slice a2 l.length cap2, .string ⟨#[]⟩, .bool true, .slice none 0 0] 44
      have BA := (Below.refl w4.heap.size w4).alloc (Nat.le_refl _) (.cells #[.slice a2 l.length cap2, .string ⟨#[]⟩, .bool true, .slice none 0 0] 44)
      have hkl := hkl.next BA hkl.lt
      have hkr := hkr.next BA hkr.lt
      have hg5 := hg4.next BA
      have B5 := B4.next BA B4.size
      have hrB := hrB.next BA
      have hsz5 : (w4.alloc (.cells #[.slice a2 l.length cap2, .string ⟨#[]⟩, .bool true, .slice none 0 0] 44)).heap.size = w4.heap.size + 1 := by simp
      have hC := fun W hW => cut_any body b W (by omega) (by omega) hW
      clear BA hbb B4 hg4
      generalize cutB body b = rc at hC HP
      go_wp2_with fail
      generalize World.alloc _ _ = W5 at hkp hkl hkr hg5 B5 hrB hsz5 ⊢
      with_reducible refine (hC _ hg5).mono ?_
      rintro e w6 ⟨hh, b6⟩
      have hkp := hkp.next b6 hkp.lt
      have hkl := hkl.next b6 hkl.lt
      have hkr := hkr.next b6 hkr.lt
      have hrB := hrB.next b6
      have hg6 := hg5.next b6
      have B6 := B5.next b6 B5.size
      have hs6 := b6.size
      have ne1 : w.heap.size ≠ w4.heap.size := by omega
      have ne3 : lb ≠ w4.heap.size := by omega
      have hlt6 := hkp.lt
      clear hC b6 B5 hg5
      rcases hh with ⟨ps, v6, rfl, hpl, hpx, rfl, hps⟩ | ⟨rfl, rfl⟩
      case inr =>
        have HN := Lib.hid (show partR (d + 1) (lf + 1) s = .error 3 from HP.out)
        have kr := hkr.cell
        have krf := hkr.free
        clear HP
        go_wp2_with fail
        refine bodyPost_ret (v := .tuple #[.agg zPart, .iface 30 (.int .i64 3)]) (by simp [results, Tryz.results87, go_sem, zPart, kr]) rfl ⟨Or.inr ⟨3, zRaw, HN.out, rfl⟩, ?_⟩
        exact (((B6.own (Nat.le_refl _) _).own (Nat.le_refl _) _).own (Nat.le_refl _) _).own (Nat.le_refl _) _
      have HR := Lib.hid (show ∀ r, eachR (partR d) lf ps = r → partR (d + 1) (lf + 1) s = match r with
              | .error e => .error e
              | .ok (qs, n) => .ok (.mk l [] true qs, n) from fun r h => by rw [← h]; exact HP.out)
      have HX := Lib.hid hpx
      have hpsB := OwnG.rdB (by decide) strC_len hps.t
      obtain ⟨a6, c6, rfl, _⟩ := hpsB.rd
      have hpsB : RdB 1 strC (fun b => W5.heap.size ≤ b ∧ b < w6.heap.size) w6 (.slice a6 ps.length c6) ps := hpsB.weak fun b h1 h2 => ⟨h1.1, h2⟩
      have hkl : Blk w6 lb #[.int .i64 (lf : Int)] 3 := by
        have := hkl
        rw [hli1.out] at this
        exact this
      clear HP hps hpx
      go_wp2_with fail
      go_loopw [91] (fun i wr => ∃ (k n : Nat) (qs : List Prt) (raws : List PRaw) (sl : Slc), i = .int .i64 k ∧ k ≤ ps.length ∧ qs.length = k ∧ raws.length = k ∧ n ≤ lf ∧ Blk wr lb #[.int .i64 (n : Int)] 3 ∧ Blk wr w.heap.size #[.slice none 0 0, .string ⟨#[]⟩, .bool false, .slice none 0 0] 44 ∧ Blk wr w4.heap.size #[.slice a2 l.length cap2, .string ⟨#[]⟩, .bool true, slv sl] 44 ∧ OwnPr wr w6.heap.size (slv sl) raws ∧ RdB 2 fldC (fun b => w.heap.size < b ∧ b < w3.heap.size) wr (.slice a2 l.length cap2) l ∧ RdB 1 strC (fun b => W5.heap.size ≤ b ∧ b < w6.heap.size) wr (.slice a6 ps.length c6) ps ∧ Hid (∀ j (h1 : j < raws.length) (h2 : j < qs.length), RdPrt (fun b => w.heap.size < b ∧ b ≠ w4.heap.size ∧ (slv sl).ownBlock ≠ some b) d wr raws[j] qs[j]) ∧ Gr wr ∧ Hid (addR qs (eachR (partR d) n (ps.drop k)) = eachR (partR d) lf ps) ∧ BelowO lb w.heap.size w wr ∧ w6.heap.size ≤ wr.heap.size) (fun i _ => ps.length - (intOf i).toNat)
      case atStart => exact ⟨0, lf, [], [], (none, 0, 0), rfl, by omega, rfl, rfl, by omega, hkl, hkr, hkp, OwnG.nil _ _ _ _ _, hrB, hpsB, Lib.hid (fun j h1 => by simp at h1), hg6, Lib.hid (by rw [List.drop_zero, addR_nil]), B6, Nat.le_refl _⟩
      case round =>
        clear hkl hkr hkp hrB hpsB hg6 B6
        obtain ⟨k, n, qs, raws, sl, rfl, hk, hql, hrl, hn, hkl, hkr, hkp, hown, hrB, hpsB, HPR, hgr, Hall, B, hwr⟩ := hrel
        obtain ⟨sa, sn, sc⟩ := sl
        simp only [slv] at hkp hown HPR
        by_cases hlt : k < ps.length
        · obtain ⟨pb, rfl, hpb, hpb2, hcell⟩ := hpsB.at strC_len k hlt
          have hxl := Nat.le_trans (HX.out _ (List.getElem_mem hlt)) hbl
          have HE := Lib.hid (fun c (h : partR d n ps[k] = .error c) => eachR_err hlt h qs)
          have HO := Lib.hid (fun y m (h : partR d n ps[k] = .ok (y, m)) => eachR_ok hlt h qs)
          have c0 : wr.cell? ⟨pb, k, none⟩ = some (.string ⟨(ps[k]).toArray⟩) := by have := hcell 0 (by decide); simpa [strC] using this
          clear hcell
          generalize ps[k] = x at hxl HE HO c0
          have hI := ih n x lb (dp + 1) n wr (Lib.hid (by have := hdp.out; omega)) (by omega) (Lib.hid rfl) (by omega) hgr hml hkl (by omega)
          generalize partR d n x = rx at hI HE HO
          go_wp2_with fail
          with_reducible refine hI.mono ?_
          rintro e w8 ⟨hh, bo8⟩
          have hs8 := bo8.size
          have hkr := hkr.nextO bo8 (by omega)
          have hkp := hkp.nextO bo8 (by omega)
          have hgo := OwnG.own_lt hown
          have hgo2 := OwnG.own_ge hown
          have hown := hown.nextO bo8 (by omega)
          have hrB := hrB.nextO bo8 (by first | omega | (simp only; omega))
          have hpsB := hpsB.nextO bo8 (by first | omega | (simp only; omega))
          have hg8 := hgr.nextO bo8 hml
          have B8 := B.trans (bo8.mono (by omega))
          have HPR := Lib.hid (fun j h1 h2 => (HPR.out j h1 h2).nextO bo8 (by first | omega | (simp only; omega)))
          clear hI c0 hgr B hkl
          rcases hh with ⟨p, m, raw, rfl, hm, rfl, hrp, hkl⟩ | ⟨c, raw, rfl, rfl⟩
          case inr =>
            have HN := Lib.hid (show partR (d + 1) (lf + 1) s = .error c from HR.out _ (Hall.out.symm.trans (HE.out c rfl)))
            obtain ⟨⟨ra, rn, rcp⟩, rb, rm, ⟨ra', rn', rcp'⟩⟩ := raw
            simp only [prtV, slv]
            have hkr := hkr.alloc (.cells #[.slice ra rn rcp, .string ⟨rb.toArray⟩, .bool rm, .slice ra' rn' rcp'] 44)
            have kr := hkr.cell
            have krf := hkr.free
            clear HE HO Hall
            go_wp2_with fail
            refine bodyPost_ret (v := .tuple #[.agg zPart, .iface 30 (.int .i64 c)]) (by simp [results, Tryz.results87, go_sem, zPart, kr]) rfl ⟨Or.inr ⟨c, zRaw, HN.out, rfl⟩, ?_⟩
            exact ((((B8.next ((Below.refl _ _).alloc (Nat.le_refl _) _) B8.size).own (Nat.le_refl _) _).own (Nat.le_refl _) _).own (Nat.le_refl _) _).own (Nat.le_refl _) _
          have HN := Lib.hid (Eq.trans (HO.out p m rfl).symm Hall.out)
          have HPR := Lib.hid (show ∀ j (h1 : j < (raws ++ [raw]).length) (h2 : j < (qs ++ [p]).length), RdPrt (fun b => w.heap.size < b ∧ b ≠ w4.heap.size ∧ (Value.slice sa sn sc).ownBlock ≠ some b) d w8 (raws ++ [raw])[j] (qs ++ [p])[j] from fun j h1 h2 => by
            by_cases hj : j < raws.length
            · rw [List.getElem_append_left hj, List.getElem_append_left (by omega)]
              exact HPR.out j hj (by omega)
            · obtain rfl : j = raws.length := by simp at h1; omega
              have e1 : (raws ++ [raw])[raws.length] = raw := by simp
              have e2 : (qs ++ [p])[raws.length]'h2 = p := by rw [List.getElem_append_right (by omega)]; simp
              rw [e1, e2]
              refine RdPrt.weak (fun b h1 _ => ⟨by omega, by omega, fun e => ?_⟩) hrp
              have := hgo b e
              omega)
          clear HE HO Hall hrp
          obtain ⟨⟨ra, rn, rcp⟩, rb, rm, ⟨ra', rn', rcp'⟩⟩ := raw
          simp only [prtV, slv]
          have hkt := Blk.new w8 #[.slice ra rn rcp, .string ⟨rb.toArray⟩, .bool rm, .slice ra' rn' rcp'] 44
          have BA := (Below.refl w8.heap.size w8).alloc (Nat.le_refl _) (.cells #[.slice ra rn rcp, .string ⟨rb.toArray⟩, .bool rm, .slice ra' rn' rcp'] 44)
          have hs9 : (w8.alloc (.cells #[.slice ra rn rcp, .string ⟨rb.toArray⟩, .bool rm, .slice ra' rn' rcp'] 44)).heap.size = w8.heap.size + 1 := by simp
          have hkl := hkl.next BA hkl.lt
          have hkr := hkr.next BA hkr.lt
          have hkp := hkp.next BA hkp.lt
          have hown := OwnG.next hown BA
          have hrB := hrB.next BA
          have hpsB := hpsB.next BA
          have hg9 := hg8.next BA
          have B9 := B8.next BA B8.size
          have HPR := Lib.hid (fun j h1 h2 => (HPR.out j h1 h2).next BA)
          have kp := hkp.cell
          have kt := hkt.cell
          clear BA hg8 B8
          go_wp2_with (at_builtin; refine appPr rfl _ _ rfl w6.heap.size _ raws ((ra, rn, rcp), rb, rm, (ra', rn', rcp')) _ 1 rfl (OwnG.alloc hown _) rfl (cellPr1 _ ((ra, rn, rcp), rb, rm, (ra', rn', rcp')) _ _ (by simp)) (by omega) (by simp; omega) ?_; intro v' w11 hown11 hg11 hb11 hob; obtain ⟨sa', sn', sc', rfl⟩ := hown11.shape; have hkp := (hkp.alloc (.cells #[.slice ra rn rcp, .string ⟨rb.toArray⟩, .bool rm, .slice ra' rn' rcp'] 44)).grown hg11 (fun g hg => by have := hgo2 g hg; omega); have kp11 := hkp.cell; have kpf11 := hkp.free)
          have BA := (Below.refl (w8.alloc (.cells #[.slice ra rn rcp, .string ⟨rb.toArray⟩, .bool rm, .slice ra' rn' rcp'] 44)).heap.size (w8.alloc (.cells #[.slice ra rn rcp, .string ⟨rb.toArray⟩, .bool rm, .slice ra' rn' rcp'] 44))).alloc (Nat.le_refl _) (.cells #[.slice ra rn rcp, .string ⟨rb.toArray⟩, .bool rm, .slice ra' rn' rcp'] 44)
          have hs11 := hg11.size
          rw [World.size_alloc, hs9] at hs11
          have hkl := ((hkl.next BA hkl.lt).grown hg11 (fun g hg => by have := hgo2 g hg; omega)).setO (a := ⟨w4.heap.size, 3, none⟩) ne3 (.slice sa' sn' sc')
          have hkr := ((hkr.next BA hkr.lt).grown hg11 (fun g hg => by have := hgo2 g hg; omega)).setO (a := ⟨w4.heap.size, 3, none⟩) ne1 (.slice sa' sn' sc')
          have hkp : Blk (w11.setCell ⟨w4.heap.size, 3, none⟩ (.slice sa' sn' sc')) w4.heap.size #[.slice a2 l.length cap2, .string ⟨#[]⟩, .bool true, .slice sa' sn' sc'] 44 := hkp.set 3 _
          have hrB := ((hrB.next BA).grown hg11 (fun b h e => by have := hgo2 b e.symm; omega)).set (a := ⟨w4.heap.size, 3, none⟩) (.slice sa' sn' sc') (by first | omega | (simp only; omega))
          have hpsB := ((hpsB.next BA).grown hg11 (fun b h e => by have := hgo2 b e.symm; omega)).set (a := ⟨w4.heap.size, 3, none⟩) (.slice sa' sn' sc') (by first | omega | (simp only; omega))
          have HPR := Lib.hid (fun j h1 h2 => RdPrt.weak (Q := fun b => w.heap.size < b ∧ b ≠ w4.heap.size ∧ (Value.slice sa' sn' sc').ownBlock ≠ some b) (fun b h _ => ⟨h.1.1, h.1.2.1, h.2⟩) (((RdPrt.weak (Q := fun b => (w.heap.size < b ∧ b ≠ w4.heap.size ∧ (Value.slice sa sn sc).ownBlock ≠ some b) ∧ (Value.slice sa' sn' sc').ownBlock ≠ some b) (fun b h hlt => ⟨h, fun e => by
            rcases hob with ho | ho
            · exact h.2.2 (ho ▸ e)
            · rw [ho] at e; injection e with e; omega⟩) ((HPR.out j h1 h2).next BA)).grown hg11 (fun b h e => h.1.2.2 e.symm)).set (a := ⟨w4.heap.size, 3, none⟩) (.slice sa' sn' sc') (fun h => h.1.2.1 rfl)))
          have hown := hown11.setO (a := ⟨w4.heap.size, 3, none⟩) (by simp only; omega) (.slice sa' sn' sc')
          have hg12 : Gr (w11.setCell ⟨w4.heap.size, 3, none⟩ (.slice sa' sn' sc')) := (hg9.next BA).keep fun b hb => (heap_set _ _ _ b (by simp only; omega)).trans (hg11.block b (by rw [World.size_alloc, hs9]; omega) (fun e => by have := hgo2 b e.symm; omega))
          have B12 := ((B9.next BA B9.size).trans (BelowO.of (hb11.mono (by omega)))).own (p := ⟨w4.heap.size, 3, none⟩) (by simp only; omega) (.slice sa' sn' sc')
          have hwr2 : w6.heap.size ≤ (w11.setCell ⟨w4.heap.size, 3, none⟩ (.slice sa' sn' sc')).heap.size := by simp [World.setCell]; omega
          clear hob hg11 hb11 BA hgo hgo2
          go_wp2_with fail
          go_roundw
          case rel => exact ⟨k + 1, m, qs ++ [p], raws ++ [((ra, rn, rcp), rb, rm, (ra', rn', rcp'))], (sa', sn', sc'), by go_num, by omega, by simp; omega, by simp; omega, by omega, hkl, hkr, hkp, hown, hrB, hpsB, HPR, hg12, HN, B12, hwr2⟩
          case measure => simp [intOf]; omega
        · obtain rfl : k = ps.length := by omega
          have HN := Lib.hid (show partR (d + 1) (lf + 1) s = .ok (.mk l [] true qs, n) from HR.out _ (Hall.out.symm.trans (eachR_end qs)))
          have kp := hkp.cell
          have kr := hkr.cell
          have krf := hkr.free
          have hrw := OwnG.rdB (by decide) prtC_len hown
          have hgo2 := hlt6
          clear Hall
          go_wp2_with fail
          refine bodyPost_ret (v := .tuple #[.agg #[.slice a2 l.length cap2, .string ⟨#[]⟩, .bool true, .slice sa sn sc], .nilIface]) (by simp [results, Tryz.results87, go_sem, kr]) rfl ⟨Or.inl ⟨_, _, ((a2, l.length, cap2), [], true, (sa, sn, sc)), HN.out, by omega, rfl, ⟨rfl, rfl, ?_, raws, ?_, by omega, fun j h1 h2 => ?_⟩, ?_⟩, ?_⟩
          · exact ((((hrB.set _ (by first | omega | (simp only; omega))).set _ (by first | omega | (simp only; omega))).set _ (by first | omega | (simp only; omega))).set _ (by first | omega | (simp only; omega))).weak fun b h _ => Nat.le_of_lt h.1
          · exact ((((hrw.set _ (fun h => by have := h.1; simp only at this; omega)).set _ (fun h => by have := h.1; simp only at this; omega)).set _ (fun h => by have := h.1; simp only at this; omega)).set _ (fun h => by have := h.1; simp only at this; omega)).weak fun b h _ => by have := h.1; omega
          · exact RdPrt.weak (fun b h _ => Nat.le_of_lt h.1) (((((HPR.out j h1 h2).set _ (fun h => by have := h.1; simp only at this; omega)).set _ (fun h => by have := h.1; simp only at this; omega)).set _ (fun h => by have := h.1; simp only at this; omega)).set _ (fun h => by have := h.1; simp only at this; omega))
          · exact (((hkl.setO (a := ⟨w.heap.size, 0, none⟩) hne.symm _).setO (a := ⟨w.heap.size, 1, none⟩) hne.symm _).setO (a := ⟨w.heap.size, 2, none⟩) hne.symm _).setO (a := ⟨w.heap.size, 3, none⟩) hne.symm _
          · exact (((B.own (Nat.le_refl _) _).own (Nat.le_refl _) _).own (Nat.le_refl _) _).own (Nat.le_refl _) _
    case inr.inr =>
      have HN := Lib.hid (show partR (d + 1) (lf + 1) s = .error 3 from HP.out)
      have hT := tell_any _ 3 w4 (Or.inr (Or.inl rfl)) hg4
      clear HP hbb
      go_wp2_with fail
      with_reducible refine hT.mono ?_
      rintro e w5 ⟨rfl, b5⟩
      have hkr := hkr.next b5 hkr.lt
      have kr := hkr.cell
      have kf := hkr.free
      go_wp2_with fail
      refine bodyPost_ret (v := .tuple #[.agg zPart, .iface 30 (.int .i64 3)]) (by simp [results, Tryz.results87, go_sem, zPart, kr]) rfl ⟨Or.inr ⟨3, zRaw, HN.out, rfl⟩, ?_⟩
      exact ((((B4.next b5 B4.size).own (Nat.le_refl _) _).own (Nat.le_refl _) _).own (Nat.le_refl _) _).own (Nat.le_refl _) _
def ReadOr (B : Nat) (r : Except Int Prt) (e : Ending) (w' : World) : Prop :=
  (∃ p raw, r = .ok p ∧ e = .returned (.tuple #[prtV raw, .nilIface]) ∧ RdPrt (fun b => B ≤ b) 4 w' raw p) ∨ (∃ c, r = .error c ∧ e = .returned (.tuple #[.agg zPart, .iface 30 (.int .i64 c)]))
set_option maxHeartbeats 4000000 in
set_option maxRecDepth 100000 in
theorem pRead_any (s : Bs) (w : World) (hs : s.length ≤ 1000000000000) (hg : Gr w) :
    Calls Tryz.prog 32 #[.string ⟨s.toArray⟩] w fun e w' => ReadOr w.heap.size (readP s) e w' ∧ Below w.heap.size w w' := by
  by_cases hl : 20000 < s.length
  · have HN := Lib.hid (show readP s = .error 4 from by unfold readP; rw [if_pos hl])
    have hl2 : (20000 : Int) < s.length := by omega
    go_enter Tryz.func32, Tryz.ntmps32
    go_wp2_with fail
    refine bodyPost_ret (v := .tuple #[.agg zPart, .iface 30 (.int .i64 4)]) (by simp [results, Tryz.results32, go_sem, zPart]) rfl ⟨Or.inr ⟨4, HN.out, rfl⟩, ?_⟩
    go_grown
  · have HP := Lib.hid (show readP s = (partR 4 40 s).map (·.1) from by unfold readP; rw [if_neg hl])
    have hl2 : ¬ (20000 : Int) < s.length := by omega
    have hgs := hg.size
    have hkr := (Blk.new w zPart 44).alloc (.cells #[.int .i64 40] 3)
    have hkl := Blk.new (w.alloc (.cells zPart 44)) #[.int .i64 40] 3
    have B1 := ((Below.refl w.heap.size w).alloc (Nat.le_refl _) (.cells zPart 44)).alloc (by simp) (.cells #[.int .i64 40] 3)
    have hg1 := hg.next B1
    have hsz : ((w.alloc (.cells zPart 44)).alloc (.cells #[.int .i64 40] 3)).heap.size = w.heap.size + 1 + 1 := by simp
    rw [World.size_alloc] at hkl
    have hR := fun W h1 h2 => pread_any 4 40 s (w.heap.size + 1) 1 40 W (Lib.hid rfl) (by decide) (Lib.hid rfl) (by decide) h1 (by omega) h2 (by omega)
    generalize partR 4 40 s = r at hR HP
    unfold zPart at hkr hkl B1 hg1 hsz
    go_enter Tryz.func32, Tryz.ntmps32
    go_wp2_with fail
    generalize World.alloc _ _ = W1 at hkr hkl B1 hg1 hsz ⊢
    with_reducible refine (hR _ hg1 hkl).mono ?_
    rintro e w2 ⟨hh, b2⟩
    have hkr := hkr.nextO b2 (by omega)
    have B2 := B1.trans ((b2.mono (B' := w.heap.size) (by omega)).shut (by omega))
    have hs2 := b2.size
    clear hR b2 hkl
    rcases hh with ⟨p, n, raw, rfl, hn, rfl, hrp, hkl⟩ | ⟨c, raw, rfl, rfl⟩
    · have HN := Lib.hid (show readP s = .ok p from HP.out)
      obtain ⟨⟨ra, rn, rcp⟩, rb, rm, ⟨ra', rn', rcp'⟩⟩ := raw
      simp only [prtV, slv]
      have hkt := Blk.new w2 #[.slice ra rn rcp, .string ⟨rb.toArray⟩, .bool rm, .slice ra' rn' rcp'] 44
      have hkr := hkr.alloc (.cells #[.slice ra rn rcp, .string ⟨rb.toArray⟩, .bool rm, .slice ra' rn' rcp'] 44)
      have hrp := hrp.next ((Below.refl w2.heap.size w2).alloc (Nat.le_refl _) (.cells #[.slice ra rn rcp, .string ⟨rb.toArray⟩, .bool rm, .slice ra' rn' rcp'] 44))
      have B3 := B2.alloc B2.size (.cells #[.slice ra rn rcp, .string ⟨rb.toArray⟩, .bool rm, .slice ra' rn' rcp'] 44)
      have kr := hkr.cell
      have krf := hkr.free
      have kt := hkt.cell
      go_wp2_with fail
      refine bodyPost_ret (v := .tuple #[.agg #[.slice ra rn rcp, .string ⟨rb.toArray⟩, .bool rm, .slice ra' rn' rcp'], .nilIface]) (by simp [results, Tryz.results32, go_sem, kr]) rfl ⟨Or.inl ⟨_, ((ra, rn, rcp), rb, rm, (ra', rn', rcp')), HN.out, rfl, ?_⟩, ?_⟩
      · exact RdPrt.weak (fun b h _ => by have := h; omega) ((((hrp.set _ (by first | omega | (simp only; omega))).set _ (by first | omega | (simp only; omega))).set _ (by first | omega | (simp only; omega))).set _ (by first | omega | (simp only; omega)))
      · go_grown
    · have HN := Lib.hid (show readP s = .error c from HP.out)
      obtain ⟨⟨ra, rn, rcp⟩, rb, rm, ⟨ra', rn', rcp'⟩⟩ := raw
      simp only [prtV, slv]
      have hkr := hkr.alloc (.cells #[.slice ra rn rcp, .string ⟨rb.toArray⟩, .bool rm, .slice ra' rn' rcp'] 44)
      have B3 := B2.alloc B2.size (.cells #[.slice ra rn rcp, .string ⟨rb.toArray⟩, .bool rm, .slice ra' rn' rcp'] 44)
      have kr := hkr.cell
      have krf := hkr.free
      go_wp2_with fail
      refine bodyPost_ret (v := .tuple #[.agg zPart, .iface 30 (.int .i64 c)]) (by simp [results, Tryz.results32, go_sem, zPart, kr]) rfl ⟨Or.inr ⟨c, HN.out, rfl⟩, ?_⟩
      go_grown
end Go.Proofs.YtignjjnflcpiiaaGreatDoor
