/- A region that draws its order, under a condition that holds until a named operation (a store, say) has come up: loads that it waits for may be taken first. No program, no condition. -/
import Derived.Deep.RegionHeldLaw
import Derived.Test.YtignjjnflcpiiaaGreatDoorR00
namespace Go.Proofs.YtignjjnflcpiiaaGreatDoor
open Go Go.RowKit
section
variable {P : Program} {ops : Array Oper} {Q : Exit → Act → World → Prop} {md : Region.Mode} {S : World → Prop} {s : Nat}
def wpAnyG (P : Program) (md : Region.Mode) (ops : Array Oper) (Q : Exit → Act → World → Prop) (S : World → Prop) (s : Nat) : Nat → Array Bool → Act → World → Prop
  | 0, listed, a, w => Region.ready md ops listed = [] ∧ Q .normal a w
  | n + 1, listed, a, w => (Region.ready md ops listed = [] → Q .normal a w) ∧
    ∀ i ∈ Region.ready md ops listed, wpOp P ops Q i (fun a' w' => if i = s then wpAny P md ops Q n (listed.setIfInBounds i true) a' w' else S w' ∧ wpAnyG P md ops Q S s n (listed.setIfInBounds i true) a' w') a w
theorem wpAnyG.any : ∀ {n : Nat} {listed : Array Bool} {a : Act} {w : World}, wpAnyG P md ops Q S s n listed a w → wpAny P md ops Q n listed a w
  | 0, _, _, _, h => h
  | n + 1, _, _, _, h => ⟨h.1, fun i hi => wpOp_mono (fun a' w' k => by
      by_cases e : i = s
      · rwa [if_pos e] at k
      · rw [if_neg e] at k
        exact k.2.any) (h.2 i hi)⟩
def waitsFor (md : Region.Mode) (ops : Array Oper) (i : Nat) : Nat → Nat → Bool
  | 0, _ => false
  | n + 1, s => match ops[s]? with
    | none => false
    | some o => o.after.any fun e => Region.binds md e && (e.on == i || waitsFor md ops i n e.on)
def ClosedL (md : Region.Mode) (ops : Array Oper) (listed : Array Bool) : Prop := ∀ j o, ops[j]? = some o → listed.getD j false = true → ∀ e ∈ o.after, Region.binds md e = true → listed.getD e.on false = true
theorem ClosedL.none (n : Nat) : ClosedL md ops (Array.replicate n false) := fun j o _ hl => by
  rw [Array.getD_eq_getD_getElem?, Array.getElem?_replicate] at hl
  split at hl
  · cases hl
  · cases hl
theorem ClosedL.set {listed : Array Bool} {i : Nat} (h : ClosedL md ops listed) (hr : i ∈ Region.ready md ops listed) : ClosedL md ops (listed.setIfInBounds i true) := fun j o hj hl e he hb => by
  by_cases hji : j = i
  · subst hji
    obtain ⟨_, o', ho', hall⟩ := mem_ready.1 hr
    rw [hj] at ho'
    cases ho'
    exact getD_set_true (hall e he hb)
  · exact getD_set_true (h j o hj (by rwa [getD_set_ne false (fun e => hji e.symm)] at hl) e he hb)
theorem ClosedL.waits {listed : Array Bool} {i : Nat} (h : ClosedL md ops listed) : ∀ (n s : Nat), listed.getD s false = true → waitsFor md ops i n s = true → listed.getD i false = true
  | 0, _, _, hw => by cases hw
  | n + 1, s, hl, hw => by
    unfold waitsFor at hw
    cases ho : ops[s]? with
    | none => rw [ho] at hw; cases hw
    | some o =>
      rw [ho] at hw
      obtain ⟨x, hx, hb⟩ := Array.any_eq_true'.1 hw
      simp only [Bool.and_eq_true, Bool.or_eq_true, beq_iff_eq] at hb
      have h1 := h s o ho hl x hx hb.1
      rcases hb.2 with e | e
      · rw [e] at h1; exact h1
      · exact h.waits n x.on h1 e
theorem ClosedL.ready {listed : Array Bool} {i s : Nat} (h : ClosedL md ops listed) (n : Nat) (hr : s ∈ Region.ready md ops listed) (hw : waitsFor md ops i n s = true) : listed.getD i false = true := by
  cases n with
  | zero => cases hw
  | succ n =>
    obtain ⟨_, o, ho, hall⟩ := mem_ready.1 hr
    unfold waitsFor at hw
    rw [ho] at hw
    obtain ⟨x, hx, hb⟩ := Array.any_eq_true'.1 hw
    simp only [Bool.and_eq_true, Bool.or_eq_true, beq_iff_eq] at hb
    have h1 := hall x hx hb.1
    rcases hb.2 with e | e
    · rw [e] at h1; exact h1
    · exact h.waits n x.on h1 e
theorem unlisted {listed : Array Bool} {i : Nat} (h0 : listed.getD i true = false) (h1 : listed.getD i false = true) : False := by
  rcases Nat.lt_or_ge i listed.size with h' | h'
  · simp [h'] at h0 h1; rw [h0] at h1; cases h1
  · simp [Array.getElem?_eq_none h'] at h1
theorem not_on {listed : Array Bool} {i : Nat} {oj : Oper} (hrun : listed.getD i true = false) (hall : ∀ e ∈ oj.after, Region.binds md e = true → listed.getD e.on false = true) : ∀ e ∈ oj.after, Region.binds md e = true → e.on ≠ i := fun e he hb hei => by
  have h1 := hall e he hb
  rw [hei] at h1
  exact unlisted hrun h1
theorem wpAnyG.first {i : Nat} {oi : Oper} {v : Value} (hi : ops[i]? = some oi) (hsel : Region.noSelect ops = true) (d : Nat) (hw : waitsFor md ops i d s = true) (his : i ≠ s)
    (hQ : ∀ c a w, Q (.panic c) (a.put oi.dst v) w → Q (.panic c) a w) : ∀ (n : Nat) (listed : Array Bool) (a : Act) (w : World), ClosedL md ops listed →
    (∀ j oj, ops[j]? = some oj → j ≠ i → listed.getD j true = false → (∀ e ∈ oj.after, Region.binds md e = true → e.on ≠ i) → oi.apart ops oj = true) →
    i ∈ Region.ready md ops listed → YieldsIf P ops S oi v a → S w → wpAnyG P md ops Q S s n (listed.setIfInBounds i true) (a.put oi.dst v) w → wpAnyG P md ops Q S s (n + 1) listed a w
  | n, listed, a, w, hcl, hfree, hr, hy, hS, H => by
    refine ⟨fun h => (by rw [h] at hr; cases hr), fun j hj => ?_⟩
    by_cases hji : j = i
    · subst hji
      refine hy.wpOp hi hS ?_
      rw [if_neg his]
      exact ⟨hS, H⟩
    · obtain ⟨hun, oj, hoj, hall⟩ := mem_ready.1 hj
      have hrun : listed.getD i true = false := (mem_ready.1 hr).1
      have hnot := not_on hrun hall
      have hjs : j ≠ s := fun e => by
        subst e
        exact unlisted hrun (hcl.ready d hj hw)
      have hjr := ready_mono hj hji
      cases n with
      | zero => rw [H.1] at hjr; cases hjr
      | succ n =>
        have h1 := H.2 j hjr
        simp only [if_neg hjs] at h1 ⊢
        have h2 := wpOp_putIf hoj (hfree j oj hoj hji hun hnot) (fun cs b => Region.noSelect_spec hsel i oi cs b hi) (fun cs b => Region.noSelect_spec hsel j oj cs b hoj) hQ hy h1
        refine wpOp_mono (fun a' w' k => ⟨k.2.1, wpAnyG.first hi hsel d hw his hQ n _ a' w' (hcl.set hj) (fun q oq hq hqi hqu hqn => ?_) (ready_mono hr (Ne.symm hji)) k.1 k.2.1 ?_⟩) h2
        · refine hfree q oq hq hqi ?_ hqn
          by_cases hjq : j = q
          · subst hjq; exact hun
          · rwa [getD_set_ne true hjq] at hqu
        · rw [Array.setIfInBounds_comm _ _ hji]
          exact k.2.2
theorem wpAnyG.firstU {i : Nat} {oi : Oper} {v : Value} (hi : ops[i]? = some oi) (hsel : Region.noSelect ops = true) (his : i ≠ s)
    (hQ : ∀ c a w, Q (.panic c) (a.put oi.dst v) w → Q (.panic c) a w) : ∀ (n : Nat) (listed : Array Bool) (a : Act) (w : World),
    (∀ j oj, ops[j]? = some oj → j ≠ i → listed.getD j true = false → (∀ e ∈ oj.after, Region.binds md e = true → e.on ≠ i) → oi.apart ops oj = true) →
    i ∈ Region.ready md ops listed → Yields P ops oi v a → S w → wpAnyG P md ops Q S s n (listed.setIfInBounds i true) (a.put oi.dst v) w → wpAnyG P md ops Q S s (n + 1) listed a w
  | n, listed, a, w, hfree, hr, hy, hS, H => by
    refine ⟨fun h => (by rw [h] at hr; cases hr), fun j hj => ?_⟩
    by_cases hji : j = i
    · subst hji
      refine hy.wpOp hi ?_
      rw [if_neg his]
      exact ⟨hS, H⟩
    · obtain ⟨hun, oj, hoj, hall⟩ := mem_ready.1 hj
      have hrun : listed.getD i true = false := (mem_ready.1 hr).1
      have hnot := not_on hrun hall
      have hjr := ready_mono hj hji
      have hfree' : ∀ k ok, ops[k]? = some ok → k ≠ i → (listed.setIfInBounds j true).getD k true = false → (∀ e ∈ ok.after, Region.binds md e = true → e.on ≠ i) → oi.apart ops ok = true := fun q oq hq hqi hqu hqn => by
        refine hfree q oq hq hqi ?_ hqn
        by_cases hjq : j = q
        · subst hjq; exact hun
        · rwa [getD_set_ne true hjq] at hqu
      cases n with
      | zero => rw [H.1] at hjr; cases hjr
      | succ n =>
        have h1 := H.2 j hjr
        have h2 := wpOp_put hoj (hfree j oj hoj hji hun hnot) (fun cs b => Region.noSelect_spec hsel i oi cs b hi) (fun cs b => Region.noSelect_spec hsel j oj cs b hoj) hQ hy h1
        by_cases hjs : j = s
        · simp only [if_pos hjs] at h2 ⊢
          refine wpOp_mono (fun a' w' k => wpAny_first hi (Region.noSelect_spec hsel) hQ n _ a' w' hfree' (ready_mono hr (Ne.symm hji)) k.1 ?_) h2
          rw [Array.setIfInBounds_comm _ _ hji]
          exact k.2
        · simp only [if_neg hjs] at h2 ⊢
          refine wpOp_mono (fun a' w' k => ⟨k.2.1, wpAnyG.firstU hi hsel his hQ n _ a' w' hfree' (ready_mono hr (Ne.symm hji)) k.1 k.2.1 ?_⟩) h2
          rw [Array.setIfInBounds_comm _ _ hji]
          exact k.2.2
def GoesG (P : Program) (md : Region.Mode) (ops : Array Oper) (Q : Exit → Act → World → Prop) (S : World → Prop) (s : Nat) (n : Nat) (listed : Array Bool) (a : Act) (w : World) : Prop := ClosedL md ops listed → wpAnyG P md ops Q S s n listed a w
theorem GoesG.take {i : Nat} {oi : Oper} {v : Value} {n : Nat} {listed : Array Bool} {a : Act} {w : World} (hi : ops[i]? = some oi) (hsel : Region.noSelect ops = true) (hf : Region.free md ops listed i = true) (hr : (Region.ready md ops listed).contains i = true)
    (hw : waitsFor md ops i 40 s = true) (his : i ≠ s) (hQ : ∀ c a w, Q (.panic c) (a.put oi.dst v) w → Q (.panic c) a w) (hy : YieldsIf P ops S oi v a) (hS : S w)
    (h : GoesG P md ops Q S s n (listed.setIfInBounds i true) (a.put oi.dst v) w) : GoesG P md ops Q S s (n + 1) listed a w := fun hcl =>
  have hr' : i ∈ Region.ready md ops listed := by simpa using hr
  wpAnyG.first hi hsel 40 hw his hQ n listed a w hcl (Region.free_spec hi hf) hr' hy hS (h (hcl.set hr'))
theorem GoesG.takeU {i : Nat} {oi : Oper} {v : Value} {n : Nat} {listed : Array Bool} {a : Act} {w : World} (hi : ops[i]? = some oi) (hsel : Region.noSelect ops = true) (hf : Region.free md ops listed i = true) (hr : (Region.ready md ops listed).contains i = true)
    (his : i ≠ s) (hQ : ∀ c a w, Q (.panic c) (a.put oi.dst v) w → Q (.panic c) a w) (hy : Yields P ops oi v a) (hS : S w)
    (h : GoesG P md ops Q S s n (listed.setIfInBounds i true) (a.put oi.dst v) w) : GoesG P md ops Q S s (n + 1) listed a w := fun hcl =>
  have hr' : i ∈ Region.ready md ops listed := by simpa using hr
  wpAnyG.firstU hi hsel his hQ n listed a w (Region.free_spec hi hf) hr' hy hS (h (hcl.set hr'))
theorem GoesG.one {j : Nat} {o : Oper} {n : Nat} {listed : Array Bool} {a : Act} {w : World} (hr : Region.ready md ops listed = [j]) (ho : ops[j]? = some o) (hjs : j ≠ s)
    (h : ∀ K' : Act → World → Prop, Shut (∀ a w, S w → GoesG P md ops Q S s n (listed.setIfInBounds j true) a w → K' a w) → if Region.wanted o (yielded ops a.tmps) = true then Oper.wp P o a w K' Q else K' (a.put o.dst undef) w) : GoesG P md ops Q S s (n + 1) listed a w := fun hcl => by
  have hcl2 := hcl
  refine ⟨fun h0 => (by rw [hr] at h0; cases h0), fun i hi => ?_⟩
  rw [hr] at hi
  obtain rfl := List.mem_singleton.1 hi
  simp only [if_neg hjs]
  exact wpOp_step ho fun K' hK => h K' fun a w hS hW => hK a w ⟨hS, hW (hcl2.set (by rw [hr]; simp))⟩
theorem GoesG.stop {o : Oper} {n : Nat} {listed : Array Bool} {a : Act} {w : World} (hr : Region.ready md ops listed = [s]) (ho : ops[s]? = some o)
    (h : ∀ K' : Act → World → Prop, Shut (∀ a w, wpAny P md ops Q n (listed.setIfInBounds s true) a w → K' a w) → if Region.wanted o (yielded ops a.tmps) = true then Oper.wp P o a w K' Q else K' (a.put o.dst undef) w) : GoesG P md ops Q S s (n + 1) listed a w := fun hcl => by
  have hcl2 := hcl
  refine ⟨fun h0 => (by rw [hr] at h0; cases h0), fun i hi => ?_⟩
  rw [hr] at hi
  obtain rfl := List.mem_singleton.1 hi
  simp only [if_true]
  exact wpOp_step ho fun K' hK => h K' fun a w hW => hK a w hW
def ReadyG (P : Program) (md : Region.Mode) (ops : Array Oper) (Q : Exit → Act → World → Prop) (S : World → Prop) (s : Nat) (n : Nat) (listed : Array Bool) (a : Act) (w : World) (rs : List Nat) : Prop :=
  ∀ i ∈ rs, wpOp P ops Q i (fun a' w' => S w' ∧ GoesG P md ops Q S s n (listed.setIfInBounds i true) a' w') a w
theorem ReadyG.nil {n : Nat} {listed : Array Bool} {a : Act} {w : World} : ReadyG P md ops Q S s n listed a w [] := fun _ h => by cases h
theorem ReadyG.cons {n : Nat} {listed : Array Bool} {a : Act} {w : World} {i : Nat} {o : Oper} {rs : List Nat} (ho : ops[i]? = some o)
    (h : ∀ K' : Act → World → Prop, Shut (∀ a w, S w → GoesG P md ops Q S s n (listed.setIfInBounds i true) a w → K' a w) → if Region.wanted o (yielded ops a.tmps) = true then Oper.wp P o a w K' Q else K' (a.put o.dst undef) w)
    (hs : ReadyG P md ops Q S s n listed a w rs) : ReadyG P md ops Q S s n listed a w (i :: rs) := fun j hj => by
  rcases List.mem_cons.1 hj with rfl | hj
  · exact wpOp_step ho (fun K' hK => h K' (fun a w hS hW => hK a w ⟨hS, hW⟩))
  · exact hs j hj
theorem GoesG.all (rs : List Nat) {n : Nat} {listed : Array Bool} {a : Act} {w : World} (hr : Region.ready md ops listed = rs) (hne : rs ≠ []) (hns : s ∉ rs) (h : ReadyG P md ops Q S s n listed a w rs) : GoesG P md ops Q S s (n + 1) listed a w := fun hcl => by
  refine ⟨fun h0 => absurd (hr ▸ h0) hne, fun i hi => ?_⟩
  have hi2 : i ∈ rs := hr ▸ hi
  have his : i ≠ s := fun e => hns (e ▸ hi2)
  simp only [if_neg his]
  exact wpOp_mono (fun a' w' k => ⟨k.1, k.2 (hcl.set hi)⟩) (h i hi2)
theorem wpAny_alone {j : Nat} {o : Oper} {n : Nat} {listed : Array Bool} {a : Act} {w : World} (hr : Region.ready md ops listed = [j]) (ho : ops[j]? = some o)
    (h : ∀ K' : Act → World → Prop, Shut (∀ a w, wpAny P md ops Q n (listed.setIfInBounds j true) a w → K' a w) → if Region.wanted o (yielded ops a.tmps) = true then Oper.wp P o a w K' Q else K' (a.put o.dst undef) w) : wpAny P md ops Q (n + 1) listed a w := by
  refine ⟨fun h0 => (by rw [hr] at h0; cases h0), fun i hi => ?_⟩
  rw [hr] at hi
  obtain rfl := List.mem_singleton.1 hi
  exact wpOp_step ho fun K' hK => h K' fun a w hW => hK a w hW
theorem wp_region_stop {id : Nat} {a : Act} {w : World} (s : Nat) (S : World → Prop) (hm : P.follows .mixedOrders = true) (h : GoesG P .any ops Q S s ops.size (Array.replicate ops.size false) a w.drew) : (Code.region id ops true).wp P Q a w := wp_region_any hm (h (ClosedL.none _)).any
end
end Go.Proofs.YtignjjnflcpiiaaGreatDoor
