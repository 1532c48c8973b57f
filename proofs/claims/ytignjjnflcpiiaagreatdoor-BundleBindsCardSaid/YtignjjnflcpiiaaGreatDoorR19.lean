/- A bundle that is bound, and opened again, has the same parts, at the same addresses, and all leads where it led (bind_law). No program, no condition; The fact of BundleBinds: its bundle, where its link leads, how it is bound. No program, no condition. -/
import Derived.Test.YtignjjnflcpiiaaGreatDoorR18
namespace Go.Proofs.YtignjjnflcpiiaaGreatDoor
open Go
theorem bound_some {H : List Fld} {b0 : Bs} (hb : boundF H = some (some b0)) : ∃ v m pm, getF H ctN = some v ∧ readK v = some (m, pm) ∧ Lib.hasPrefix m multiN = true ∧ getP pm boundN = some b0 ∧ badBound b0 = false := by
  unfold boundF at hb
  cases hg : getF H ctN with
  | none => rw [hg] at hb; cases hb
  | some v =>
    rw [hg] at hb
    simp only at hb
    cases hk : readK v with
    | none => rw [hk] at hb; cases hb
    | some x =>
      obtain ⟨m, pm⟩ := x
      rw [hk] at hb
      simp only at hb
      split at hb
      · rename_i hp
        cases hgp : getP pm boundN with
        | none => rw [hgp] at hb; cases hb
        | some b =>
          rw [hgp] at hb
          simp only at hb
          split at hb
          · cases hb
          · rename_i hbad
            simp at hb; subst hb; exact ⟨v, m, pm, rfl, hk, hp, hgp, by simpa using hbad⟩
      · simp at hb
def namesL (e : Bs) : Nat → List Prt → List Bs
  | _, [] => []
  | i, _ :: l => nameT e (i : Nat) :: namesL e (i + 1) l
theorem nameT_ne (e : Bs) (i : Int) : nameT e i ≠ [] := by simp [nameT]
theorem idF_bound (b : Bnd) (e : Bs) (i : Nat) (p : Prt) : idF (backL (boundPart b e i p)).head = nameT e i := by
  unfold idF
  rw [backL_ct _ cid_cte]
  show inner ((getF (boundHead e i p.head) cidN).getD []) = _
  rw [boundHead_cid]
  exact inner_angled (nameT_ne _ _)
theorem ids_bound (b : Bnd) (e : Bs) : ∀ (l : List Prt) (i : Nat), ((boundFrom b e i l).map backL).map (fun q : Prt => idF q.head) = namesL e i l
  | [], _ => rfl
  | p :: l, i => by
    show idF (backL (boundPart b e i p)).head :: _ = _
    rw [idF_bound, ids_bound b e l (i + 1)]; rfl
theorem places_bound (b : Bnd) (e : Bs) (base : Addr) : ∀ (l : List Prt) (i : Nat), ((boundFrom b e i l).map backL).map (fun q : Prt => placeF base q.head) = l.map (fun q : Prt => placeF base q.head)
  | [], _ => rfl
  | p :: l, i => by
    show placeF base (backL (boundPart b e i p)).head :: ((boundFrom b e (i + 1) l).map backL).map (fun q : Prt => placeF base q.head) = placeF base p.head :: l.map (fun q : Prt => placeF base q.head)
    rw [places_bound b e base l (i + 1)]
    congr 1
    unfold placeF
    rw [backL_ct _ cl_cte]
    show (match getF (boundHead e i p.head) clN with | none => _ | some v => _) = _
    rw [boundHead_get e i p.head cl_cid]
    cases getF p.head clN <;> rfl
theorem boundFrom_many (b : Bnd) (e : Bs) : ∀ (l : List Prt) (i : Nat), (boundFrom b e i l).length = l.length
  | [], _ => rfl
  | p :: l, i => by unfold boundFrom; rw [List.length_cons, boundFrom_many b e l (i + 1), List.length_cons]
theorem boundFrom_nth (b : Bnd) (e : Bs) : ∀ (l : List Prt) (i k : Nat), (boundFrom b e i l)[k]? = (l[k]?).map (boundPart b e (i + k))
  | [], _, _ => by simp [boundFrom]
  | p :: l, i, 0 => by simp [boundFrom]
  | p :: l, i, k + 1 => by
    unfold boundFrom
    rw [List.getElem?_cons_succ, List.getElem?_cons_succ, boundFrom_nth b e l (i + 1) k, show i + 1 + k = i + (k + 1) by omega]
theorem boundFrom_leaf {b : Bnd} {e : Bs} (he : ∀ c ∈ e, okQ c = true) : ∀ (l : List Prt) (i : Nat), (∀ q ∈ l, LeafOk q) → ∀ q ∈ boundFrom b e i l, LeafOk q
  | [], _, _, q, hq => by cases hq
  | p :: l, i, h, q, hq => by
    unfold boundFrom at hq
    rcases List.mem_cons.1 hq with rfl | hq
    · exact boundPart_leaf i he (h p (List.mem_cons_self ..))
    · exact boundFrom_leaf he l (i + 1) (fun q hq => h q (List.mem_cons_of_mem _ hq)) q hq
theorem angled_inj {a b : Bs} (h : angled a = angled b) : a = b := by
  unfold angled at h
  injection h with _ h
  exact List.append_cancel_right h
theorem rootOf_names (e : Bs) : ∀ (l : List Prt) (i k j : Nat), k < l.length → rootOf (angled (nameT e ((i + k : Nat) : Int))) (namesL e i l) j = some (j + k)
  | [], _, _, _, h => by simp at h
  | p :: l, i, 0, j, _ => by unfold namesL rootOf; rw [Nat.add_zero, if_pos rfl]; rfl
  | p :: l, i, k + 1, j, h => by
    unfold namesL rootOf
    rw [if_neg (fun e2 => by have := nameT_inj (angled_inj e2); omega), show i + (k + 1) = i + 1 + k by omega, rootOf_names e l (i + 1) k (j + 1) (by simpa using h), show j + 1 + k = j + (k + 1) by omega]
theorem idxOf_names (e : Bs) : ∀ (l : List Prt) (i k j : Nat), k < l.length → idxOf (nameT e ((i + k : Nat) : Int)) (namesL e i l) j = ((j + k : Nat) : Int)
  | [], _, _, _, h => by simp at h
  | p :: l, i, 0, j, _ => by unfold namesL idxOf; rw [Nat.add_zero, if_pos rfl]; rfl
  | p :: l, i, k + 1, j, h => by
    unfold namesL idxOf
    rw [if_neg (fun e2 => by have := nameT_inj e2; omega), show i + (k + 1) = i + 1 + k by omega, idxOf_names e l (i + 1) k (j + 1) (by simpa using h), show j + 1 + k = j + (k + 1) by omega]
theorem idxOf_none {α : Type} [DecidableEq α] {x : α} : ∀ {l : List α} (j : Nat), x ∉ l → idxOf x l j = -1
  | [], _, _ => rfl
  | y :: l, j, h => by
    unfold idxOf
    rw [if_neg (fun e => h (by rw [e]; exact List.mem_cons_self ..)), idxOf_none (j + 1) (fun hm => h (List.mem_cons_of_mem _ hm))]
theorem idxOf_less {α : Type} [DecidableEq α] {x : α} : ∀ {l : List α} (j : Nat), idxOf x l j = -1 ∨ ((j : Int) ≤ idxOf x l j ∧ idxOf x l j < j + l.length)
  | [], _ => Or.inl rfl
  | y :: l, j => by
    unfold idxOf
    split
    · right; simp; omega
    · rcases idxOf_less (x := x) (l := l) (j + 1) with h | h
      · exact Or.inl h
      · right; simp at h ⊢; omega
theorem rootOf_bd {st : Bs} : ∀ {l : List Bs} {j k : Nat}, rootOf st l j = some k → k < j + l.length
  | [], _, _, h => by cases h
  | y :: l, j, k, h => by
    unfold rootOf at h
    split at h
    · simp at h; subst h; simp
    · have := rootOf_bd h; simp; omega
theorem namesL_mem {e x : Bs} : ∀ {l : List Prt} {i : Nat}, x ∈ namesL e i l → e <:+: x
  | [], _, h => by cases h
  | p :: l, i, h => by
    unfold namesL at h
    rcases List.mem_cons.1 h with rfl | h
    · exact nameT_sign _ _
    · exact namesL_mem h
theorem nameT_path {e : Bs} (he : ∀ c ∈ e, okQ c = true ∧ okB c = true ∧ c ≠ 35 ∧ c ≠ 63 ∧ c ≠ 58) (h47 : (47 : UInt8) ∉ e) (k : Nat) : ∀ c ∈ nameT e (k : Int), okB c = true ∧ c ≠ 35 ∧ c ≠ 63 ∧ c ≠ 58 ∧ c ≠ 47 :=
  nameT_mem (P := fun c => okB c = true ∧ c ≠ 35 ∧ c ≠ 63 ∧ c ≠ 58 ∧ c ≠ 47) (fun c hc => ⟨(he c hc).2.1, (he c hc).2.2.1, (he c hc).2.2.2.1, (he c hc).2.2.2.2, fun e2 => h47 (e2 ▸ hc)⟩) (by decide) (by decide) (by decide) (by decide) (fun c hc => by
    have := digit_ok hc
    exact ⟨this.2.2.2.2.2.2.2.2.2, this.2.2.2.2.2.2.1, this.2.2.2.2.2.2.2.1, this.2.2.2.2.2.2.2.2.1, this.2.2.2.2.1⟩) k
theorem dots_name {n : Bs} (h : (47 : UInt8) ∉ n) (h1 : n ≠ [46]) (h2 : n ≠ []) (h3 : n ≠ [46, 46]) : dotsA n = n := by
  unfold dotsA
  rw [splitC_none h]
  have : dotsL [n] = [n] := by
    show dotStep true true [] ([n].getD 0 []) = [n]
    show dotStep true true [] n = [n]
    rw [dotStep_else _ _ _ _ h1 h2 h3]; rfl
  rw [this, Lib.join_one]
def cidA (n : Bs) (hf : Bool) (f : Bs) : Addr := ⟨[99, 105, 100], false, [], n, false, [], hf, f⟩
theorem cid_read {n : Bs} (hn : ∀ c ∈ n, okB c = true ∧ c ≠ 35 ∧ c ≠ 63 ∧ c ≠ 58 ∧ c ≠ 47) (f : Bs) (hf : Bool) (hfr : f.all okB = true) (h0 : hf = false → f = []) :
    readA (99 :: 105 :: 100 :: 58 :: (n ++ if hf then 35 :: f else [])) = some (cidA n hf f) := by
  have m1 : ∀ c ∈ (99 :: 105 :: 100 :: 58 :: n : Bs), okB c = true ∧ c ≠ 35 ∧ c ≠ 63 := by
    intro c hc
    rcases List.mem_cons.1 hc with rfl | hc
    · decide
    rcases List.mem_cons.1 hc with rfl | hc
    · decide
    rcases List.mem_cons.1 hc with rfl | hc
    · decide
    rcases List.mem_cons.1 hc with rfl | hc
    · decide
    exact ⟨(hn c hc).1, (hn c hc).2.1, (hn c hc).2.2.1⟩
  have n35 : (35 : UInt8) ∉ (99 :: 105 :: 100 :: 58 :: n : Bs) := fun h => (m1 _ h).2.1 rfl
  have n63 : (63 : UInt8) ∉ (99 :: 105 :: 100 :: 58 :: n : Bs) := fun h => (m1 _ h).2.2 rfl
  have hps : parseScheme (99 :: 105 :: 100 :: 58 :: n) = ([99, 105, 100], n) := by
    unfold parseScheme
    rw [show (99 :: 105 :: 100 :: 58 :: n : Bs) = [99, 105, 100] ++ 58 :: n from rfl, cutC_mk (by decide)]
    simp only
    rw [if_pos (by decide)]
  have hpa : parseAuth n = (false, [], n) := by
    refine parseAuth_no ?_
    intro h
    have : (47 : UInt8) ∈ n := by
      have e := isPrefixOf_append _ _ h
      rw [e]; simp
    exact (hn _ this).2.2.2.2 rfl
  have hall : (99 :: 105 :: 100 :: 58 :: (n ++ if hf then 35 :: f else []) : Bs).all okB = true := by
    rw [show (99 :: 105 :: 100 :: 58 :: (n ++ if hf then 35 :: f else []) : Bs) = (99 :: 105 :: 100 :: 58 :: n) ++ (if hf then 35 :: f else []) from rfl, List.all_append, Bool.and_eq_true]
    refine ⟨List.all_eq_true.2 fun c hc => (m1 c hc).1, ?_⟩
    cases hf with
    | false => rfl
    | true =>
      show (35 :: f).all okB = true
      rw [List.all_cons, hfr]; decide
  unfold readA
  rw [if_pos hall]
  congr 1
  cases hf with
  | false =>
    have := h0 rfl
    subst this
    refine parseA_eq (s1 := 99 :: 105 :: 100 :: 58 :: n) (s2 := 99 :: 105 :: 100 :: 58 :: n) ?_ ?_ hps hpa
    · rw [show (99 :: 105 :: 100 :: 58 :: (n ++ if false = true then 35 :: [] else []) : Bs) = 99 :: 105 :: 100 :: 58 :: n by simp]
      exact cutC_not n35
    · exact cutC_not n63
  | true =>
    refine parseA_eq (s1 := 99 :: 105 :: 100 :: 58 :: n) (s2 := 99 :: 105 :: 100 :: 58 :: n) ?_ ?_ hps hpa
    · rw [show (99 :: 105 :: 100 :: 58 :: (n ++ if true = true then 35 :: f else []) : Bs) = (99 :: 105 :: 100 :: 58 :: n) ++ 35 :: f from rfl]
      exact cutC_of f n35
    · exact cutC_not n63
def cidW : Bs := [99, 105, 100, 58, 112, 97, 114, 116]
def findK (b : Bnd) (a : Addr) : Int := if (wholeA a).scheme = [99, 105, 100] ∧ (wholeA a).hasAuth = false ∧ (wholeA a).hasQuery = false ∧ (wholeA a).path ≠ [] then idxOf (wholeA a).path b.ids 0 else -1
theorem findB_two (b : Bnd) (a : Addr) : findB b a = if 0 ≤ findK b a then findK b a else if wholeA a = Addr.zero then -1 else idxOf (wholeA a) b.places 0 := rfl
theorem findB_cid {b : Bnd} {a : Addr} {k : Int} (h : (wholeA a).scheme = [99, 105, 100] ∧ (wholeA a).hasAuth = false ∧ (wholeA a).hasQuery = false ∧ (wholeA a).path ≠ []) (hk : idxOf (wholeA a).path b.ids 0 = k) (h0 : 0 ≤ k) : findB b a = k := by
  have e : findK b a = k := by unfold findK; rw [if_pos h, hk]
  rw [findB_two, e, if_pos h0]
theorem cid_lead {c : Bnd} {at' : Addr} {e : Bs} {l : List Prt} (hids : c.ids = namesL e 0 l) (he : ∀ c ∈ e, okQ c = true ∧ okB c = true ∧ c ≠ 35 ∧ c ≠ 63 ∧ c ≠ 58) (h47 : (47 : UInt8) ∉ e) {k : Nat} (hk : k < l.length) (f : Bs) (hf : Bool) (hfr : f.all okB = true) (h0 : hf = false → f = []) :
    (leadOf c at' (99 :: 105 :: 100 :: 58 :: (nameT e (k : Int) ++ if hf then 35 :: f else []))).2 = (k : Int) ∧ Lib.hasPrefix (leadOf c at' (99 :: 105 :: 100 :: 58 :: (nameT e (k : Int) ++ if hf then 35 :: f else []))).1 cidW = true := by
  have hn := nameT_path he h47 k
  have hne : nameT e (k : Int) ≠ [46] ∧ nameT e (k : Int) ≠ [46, 46] := by constructor <;> simp [nameT]
  have hr : resolveA at' (cidA (nameT e (k : Int)) hf f) = cidA (nameT e (k : Int)) hf f := by
    unfold resolveA
    rw [if_pos (by simp [cidA])]
    show { cidA (nameT e (k : Int)) hf f with path := dotsA (nameT e (k : Int)) } = _
    rw [dots_name (fun h => (hn _ h).2.2.2.2 rfl) hne.1 (nameT_ne _ _) hne.2]
    rfl
  unfold leadOf
  rw [cid_read hn f hf hfr h0]
  simp only [hr]
  refine ⟨?_, ?_⟩
  · have hi := idxOf_names e l 0 k 0 hk
    rw [Nat.zero_add] at hi
    exact findB_cid ⟨(show lowS [99, 105, 100] = [99, 105, 100] by decide), rfl, rfl, nameT_ne _ _⟩ (by rw [hids]; exact hi) (by omega)
  · unfold writeA cidA cidW nameT
    simp [Lib.hasPrefix, List.isPrefixOf]
theorem findB_less {b : Bnd} {a : Addr} {n : Nat} (h1 : b.ids.length = n) (h2 : b.places.length = n) : findB b a < n := by
  have hk : findK b a < n := by
    unfold findK
    split
    · rcases idxOf_less (x := (wholeA a).path) (l := b.ids) 0 with e | e <;> omega
    · omega
  rw [findB_two]
  split
  · exact hk
  · split
    · omega
    · rcases idxOf_less (x := wholeA a) (l := b.places) 0 with e | e <;> omega
theorem findB_neg {b c : Bnd} {a : Addr} {e : Bs} {l : List Prt} (hids : c.ids = namesL e 0 l) (hpl : c.places = b.places) (hno : NoE e a.path) (h : findB b a < 0) : findB c a = findB b a := by
  have hidx : idxOf (wholeA a).path c.ids 0 = -1 := by
    rw [hids]
    refine idxOf_none 0 fun hm => ?_
    exact hno (namesL_mem hm)
  have hc : findK c a = -1 := by
    unfold findK
    rw [hidx]
    split <;> rfl
  rw [findB_two] at h
  rw [findB_two, findB_two, hc, hpl, if_neg (by decide)]
  split at h
  · omega
  · rename_i h2
    rw [if_neg h2]
theorem lead_law {b c : Bnd} {at' : Addr} {e v : Bs} {l : List Prt} (hids : c.ids = namesL e 0 l) (hpl : c.places = b.places) (hbi : b.ids.length = l.length) (hbp : b.places.length = l.length)
    (hs : SgnOk e) (he : ∀ c ∈ e, okQ c = true ∧ okB c = true ∧ c ≠ 35 ∧ c ≠ 63 ∧ c ≠ 58) (hv : NoE e v) (ha : NoE e at'.path) :
    (leadOf b at' v).2 = (leadOf c at' (valueT e v (leadOf b at' v).2)).2 ∧ ((leadOf b at' v).2 < 0 → (leadOf b at' v).1 = (leadOf c at' (valueT e v (leadOf b at' v).2)).1) ∧ (0 ≤ (leadOf b at' v).2 → Lib.hasPrefix (leadOf c at' (valueT e v (leadOf b at' v).2)).1 cidW = true) := by
  cases hr : readA v with
  | none =>
    have e1 : leadOf b at' v = (v, -1) := by unfold leadOf; rw [hr]
    have e2 : leadOf c at' v = (v, -1) := by unfold leadOf; rw [hr]
    rw [e1]
    simp only
    have e3 : valueT e v (-1) = v := by unfold valueT; rw [if_pos (by decide)]
    rw [e3, e2]
    exact ⟨rfl, fun _ => rfl, fun h => absurd h (by decide)⟩
  | some a =>
    obtain ⟨p1, p2, p3⟩ := read_path hr
    have e1 : leadOf b at' v = (writeA (resolveA at' a), findB b (resolveA at' a)) := by unfold leadOf; rw [hr]
    rw [e1]
    simp only
    by_cases hneg : findB b (resolveA at' a) < 0
    · have e3 : valueT e v (findB b (resolveA at' a)) = v := by unfold valueT; rw [if_pos hneg]
      have hno : NoE e (resolveA at' a).path := NoE.resolve hs ha (hv.of p1)
      have e2 : leadOf c at' v = (writeA (resolveA at' a), findB c (resolveA at' a)) := by unfold leadOf; rw [hr]
      rw [e3, e2, findB_neg hids hpl hno hneg]
      exact ⟨rfl, fun _ => rfl, fun h => absurd h (by omega)⟩
    · have hlt := findB_less (b := b) (a := resolveA at' a) hbi hbp
      obtain ⟨k, hk⟩ : ∃ k : Nat, findB b (resolveA at' a) = (k : Int) := ⟨(findB b (resolveA at' a)).toNat, by omega⟩
      rw [hk] at hlt ⊢
      have e3 : valueT e v (k : Int) = 99 :: 105 :: 100 :: 58 :: (nameT e (k : Int) ++ if a.hasFrag then 35 :: a.frag else []) := by
        unfold valueT
        rw [if_neg (by omega), hr]
      have hfr : a.frag.all okB = true := by
        rw [List.all_eq_true] at p3 ⊢
        exact fun c hc => p3 c (p2.subset hc)
      have h0 : a.hasFrag = false → a.frag = [] := by
        intro hff
        unfold readA at hr
        rw [if_pos p3] at hr
        simp at hr
        subst hr
        have hff' : (Lib.cut v [35]).2.2 = false := hff
        show (Lib.cut v [35]).2.1 = []
        rcases cut_cases v 35 with ⟨_, e⟩ | ⟨x, y, _, _, e⟩
        · rw [e]
        · rw [e] at hff'; cases hff'
      obtain ⟨r1, r2⟩ := cid_lead (at' := at') hids he hs.no (k := k) (by omega) a.frag a.hasFrag hfr h0
      rw [e3]
      exact ⟨r1.symm, fun h => absurd h (by omega), fun _ => r2⟩
theorem getF_mem {s v : Bs} : ∀ {h : List Fld}, getF h s = some v → ∃ f ∈ h, f.2 = v
  | [], h => by cases h
  | f :: l, h => by
    by_cases hf : lowS f.1 = lowS s
    · rw [getF_yes hf] at h
      exact ⟨f, List.mem_cons_self .., by simpa using h⟩
    · rw [getF_no hf] at h
      obtain ⟨g, hg, e⟩ := getF_mem h
      exact ⟨g, List.mem_cons_of_mem _ hg, e⟩
theorem place_no {e : Bs} {base : Addr} {h : List Fld} (hs : SgnOk e) (hb : NoE e base.path) (hv : ∀ f ∈ h, NoE e f.2) : NoE e (placeF base h).path := by
  unfold placeF
  cases hg : getF h clN with
  | none => exact hb
  | some v =>
    obtain ⟨f, hf, rfl⟩ := getF_mem hg
    simp only
    cases hr : readA f.2 with
    | none => exact hb
    | some a =>
      show NoE e (resolveA base a).path
      exact NoE.resolve hs hb ((hv f hf).of (read_path hr).1)
def BindLaw (b c : Bnd) : Prop := c.root = b.root ∧ c.places = b.places ∧ c.whole.parts.length = b.whole.parts.length ∧ b.places.length = b.whole.parts.length ∧
  ∀ i, i < b.whole.parts.length → ∃ (p q : Prt) (l m : List (Bs × Int)), b.whole.parts[i]? = some p ∧ c.whole.parts[i]? = some q ∧ leadsB b (i : Nat) = some l ∧ leadsB c (i : Nat) = some m ∧ l.length = m.length ∧ (l = [] → q.body = p.body) ∧
    ∀ (k : Nat) (x y : Bs × Int), l[k]? = some x → m[k]? = some y → x.2 = y.2 ∧ (x.2 < 0 → x.1 = y.1) ∧ (0 ≤ x.2 → Lib.hasPrefix y.1 cidW = true)
theorem zip_self_map {α β γ : Type} (f : α → β) (g : α × β → γ) : ∀ l : List α, (l.zip (l.map f)).map g = l.map fun x => g (x, f x)
  | [] => rfl
  | x :: l => by simp [zip_self_map f g l]
theorem leads_law {b c : Bnd} {at' : Addr} {e : Bs} {l : List Prt} {p q : Prt} (hids : c.ids = namesL e 0 l) (hpl : c.places = b.places) (hbi : b.ids.length = l.length) (hbp : b.places.length = l.length)
    (hs : SgnOk e) (he : ∀ c ∈ e, okQ c = true ∧ okB c = true ∧ c ≠ 35 ∧ c ≠ 63 ∧ c ≠ 58) (hv : NoE e p.body) (ha : NoE e at'.path) (hh : htmlB q = htmlB p) (hq : q.body = boundBody e p.body (leadsAt b p at')) :
    (leadsAt b p at').length = (leadsAt c q at').length ∧ (leadsAt b p at' = [] → q.body = p.body) ∧
    ∀ (k : Nat) (x y : Bs × Int), (leadsAt b p at')[k]? = some x → (leadsAt c q at')[k]? = some y → x.2 = y.2 ∧ (x.2 < 0 → x.1 = y.1) ∧ (0 ≤ x.2 → Lib.hasPrefix y.1 cidW = true) := by
  by_cases hl : leadsAt b p at' = []
  · rw [hl] at hq
    have hb : q.body = p.body := by rw [hq]; unfold boundBody; rw [if_pos rfl]
    have hc : leadsAt c q at' = [] := by
      unfold leadsAt at hl ⊢
      rw [hh]
      split
      · rename_i h
        rw [if_pos h] at hl
        rw [hb, List.map_eq_nil_iff.1 hl]; rfl
      · rfl
    rw [hl, hc]
    exact ⟨rfl, fun _ => hb, fun k x y h => by simp at h⟩
  · have hhtml : htmlB p = true := by
      cases hp : htmlB p with
      | true => rfl
      | false => unfold leadsAt at hl; rw [hp] at hl; exact absurd rfl hl
    have e1 : leadsAt b p at' = (linksT p.body).map fun x => leadOf b at' x.2.2 := by unfold leadsAt; rw [if_pos hhtml]
    have e2 : leadsAt c q at' = (linksT q.body).map fun x => leadOf c at' x.2.2 := by unfold leadsAt; rw [hh, if_pos hhtml]
    unfold boundBody at hq
    rw [if_neg hl, e1, zip_self_map] at hq
    have hrep : replK p.body ((linksT p.body).map fun x => valueT e x.2.2 (leadOf b at' x.2.2).2) = some q.body := by
      unfold replK at hq ⊢
      rw [if_pos (by simp)] at hq ⊢
      rw [hq]; rfl
    have hlb := links_back hrep
    have e3 : leadsAt c q at' = (linksT p.body).map fun x => leadOf c at' (valueT e x.2.2 (leadOf b at' x.2.2).2) := by
      rw [e2]
      have : (linksT q.body).map (fun x => leadOf c at' x.2.2) = ((linksT q.body).map (·.2.2)).map (leadOf c at') := by rw [List.map_map]; rfl
      rw [this, hlb, List.map_map]; rfl
    rw [e3, e1]
    refine ⟨by simp, fun h => absurd h (by rw [← e1]; exact hl), fun k x y hx hy => ?_⟩
    rw [List.getElem?_map] at hx hy
    cases hk : (linksT p.body)[k]? with
    | none => rw [hk] at hx; cases hx
    | some z =>
      rw [hk] at hx hy
      simp only [Option.map_some, Option.some.injEq] at hx hy
      subst hx hy
      obtain ⟨w, hw, ew⟩ := linksT_lk p.body z (List.mem_of_getElem? hk)
      exact lead_law hids hpl hbi hbp hs he (by rw [ew]; exact (hv.of hw).unesc hs) ha
theorem leadsB_some {b : Bnd} {i : Nat} {p : Prt} {a : Addr} (hp : b.whole.parts[i]? = some p) (ha : b.places[i]? = some a) : leadsB b (i : Int) = some (leadsAt b p a) := by
  unfold leadsB
  rw [if_neg (by omega), Int.toNat_natCast, hp, ha]
theorem openP_mk (h : List Fld) (body : Bs) (m : Bool) (ps : List Prt) : openP (.mk h body m ps) = if (kindOf h).1 ≠ relN then .error 6
  else if ps = [] then .error 8
  else if ps.any Prt.many then .error 13
  else .ok ⟨.mk h body m ps, ((match getP (kindOf h).2 startN with | none => none | some st => if st = [] then none else rootOf st (ps.map fun q : Prt => idF q.head) 0)).getD 0,
    ps.map fun q : Prt => placeF (placeF Addr.zero h) q.head, ps.map fun q : Prt => idF q.head⟩ := rfl
theorem bind_law {s : Bs} {b : Bnd} (h : openB s = .ok b) : bindB b = .error 4 ∨ ∃ t c, bindB b = .ok t ∧ openB t = .ok c ∧ BindLaw b c := by
  unfold openB at h
  cases hp : readP s with
  | error n => rw [hp] at h; cases h
  | ok p =>
    rw [hp] at h
    simp only at h
    obtain ⟨hok, hoks⟩ := readP_ok hp
    unfold openP at h
    split at h
    · cases h
    rename_i hrel
    split at h
    · cases h
    rename_i hne
    split at h
    · cases h
    rename_i hany
    simp only [Except.ok.injEq] at h
    have hrel : (kindOf p.head).1 = relN := Classical.byContradiction hrel
    have hmany : ∀ q ∈ p.parts, q.many = false := fun q hq => by
      cases hm : q.many with
      | false => rfl
      | true => exact absurd (List.any_eq_true.2 ⟨q, hq, hm⟩) hany
    have hleaf : ∀ q ∈ p.parts, LeafOk q := fun q hq => (hoks q hq).leaf (hmany q hq)
    obtain ⟨hright, hcase⟩ := hok
    obtain ⟨hpm, ⟨b0, hbd⟩, hbody⟩ := hcase.resolve_left (fun hh => hne hh.2.2)
    obtain ⟨v, m, pm, g1, g2, g3, g4, g5⟩ := bound_some hbd
    have hkind : kindOf p.head = (m, pm) := by unfold kindOf; rw [g1]; simp [g2]
    obtain ⟨root, hroot⟩ : ∃ r, r = b.root := ⟨_, rfl⟩
    have hwh : b.whole = p := by rw [← h]
    have hids : b.ids = p.parts.map fun q : Prt => idF q.head := by rw [← h]
    have hpls : b.places = p.parts.map fun q : Prt => placeF (placeF Addr.zero p.head) q.head := by rw [← h]
    have hrlt : root < p.parts.length := by
      have hpos := List.length_pos_iff.2 hne
      rw [hroot, ← h]
      simp only
      cases hst : getP (kindOf p.head).2 startN with
      | none => exact hpos
      | some st =>
        simp only
        split
        · exact hpos
        · cases hro : rootOf st (p.parts.map fun q : Prt => idF q.head) 0 with
          | none => exact hpos
          | some k => have := rootOf_bd hro; simpa using this
    clear h
    obtain ⟨hsg, hse⟩ := signT_sgn p
    obtain ⟨e, hee⟩ : ∃ e, e = signT p := ⟨_, rfl⟩
    have hno : ∀ x ∈ textsOf p, NoE e x := by
      intro x hx hi
      have h1 := hasAny_no (choose_none [64, 98] (textsOf p)) x hx
      have h2 : Lib.contains x e = true := contains_iff.2 hi
      rw [hee] at h2
      have h3 : Lib.contains x (signT p) = false := h1
      rw [h3] at h2; cases h2
    rw [← hee] at hsg hse
    have hqe : ∀ c ∈ e, okQ c = true := fun c hc => (hse c hc).1
    obtain ⟨o1, o2⟩ := readK_ok g2
    have hnq : ∀ c ∈ nameT e (root : Nat), okQ c = true := nameT_mem hqe (by decide) (by decide) (by decide) (by decide) (fun c hc => (digit_ok hc).1) root
    have hps : ∀ q ∈ (pm.filter fun f => !(f.1 == startN)) ++ [(startN, angled (nameT e (root : Nat)))], ParOk q := by
      intro q hq
      rcases List.mem_append.1 hq with hq | hq
      · exact o2 q (List.mem_filter.1 hq).1
      · rw [List.mem_singleton.1 hq]
        exact ⟨(show tokB startN = true by decide), (show lowS startN = startN by decide), (angled_value hnq).2⟩
    obtain ⟨vt, w1, w2, w3⟩ := kind_back o1 hps
    have hsv : startV v (nameT e (root : Nat)) = vt := by
      unfold startV
      rw [g2]
      simp only [Option.getD_some]
      rw [w1]; rfl
    have hH1 : getF (beginF p.head (nameT e (root : Nat))) ctN = some vt := by rw [beginF_get _ g1, hsv]
    have hH2 : rightF (beginF p.head (nameT e (root : Nat))) = true := beginF_right (v := v) (by rw [hsv]; exact w3) hright g1
    have hgp : getP ((pm.filter fun f => !(f.1 == startN)) ++ [(startN, angled (nameT e (root : Nat)))]) boundN = some b0 := by
      rw [getP_app, getP_filter (by decide), g4]
    have hH3 : boundF (beginF p.head (nameT e (root : Nat))) = some (some b0) := by
      unfold boundF
      rw [hH1]
      simp only
      rw [w2]
      simp only
      rw [if_pos g3, hgp]
      simp only
      rw [if_neg (by rw [g5]; decide)]
    have hbw : boundWhole b = .mk (beginF p.head (nameT e (root : Nat))) [] true (boundFrom b e 0 p.parts) := by
      unfold boundWhole
      rw [hwh, ← hee, ← hroot, hbody, hpm]
    unfold bindB
    rw [hbw]
    rcases whole_back hH2 hH3 (boundFrom_leaf hqe p.parts 0 hleaf) with hw | ⟨t, bb, hw1, hw2, hw3⟩
    · exact Or.inl hw
    · right
      obtain ⟨vr, x1, x2, x3⟩ := kind_back o1 (setP_ok (n := boundN) hw3 hps)
      have hrn : renameF vt bb = vr := by
        unfold renameF
        rw [w2]
        simp only [Option.getD_some]
        rw [x1]; rfl
      have hg3 : getF (renF (delF (beginF p.head (nameT e (root : Nat)))) bb) ctN = some vr := by
        rw [renF_get bb (v := vt) (by rw [delF_ct _ ct_cte', hH1]), hrn]
      have hk3 : kindOf (renF (delF (beginF p.head (nameT e (root : Nat)))) bb) = (m, setP ((pm.filter fun f => !(f.1 == startN)) ++ [(startN, angled (nameT e (root : Nat)))]) boundN bb) := by
        unfold kindOf
        rw [hg3]; simp [x2]
      have hcl : getF (renF (delF (beginF p.head (nameT e (root : Nat)))) bb) clN = getF p.head clN := by
        rw [renF_ne bb cl_ct, delF_ct _ cl_cte, beginF_ne _ cl_ct]
      have hpl3 : placeF Addr.zero (renF (delF (beginF p.head (nameT e (root : Nat)))) bb) = placeF Addr.zero p.head := by unfold placeF; rw [hcl]
      refine ⟨t, ⟨.mk (renF (delF (beginF p.head (nameT e (root : Nat)))) bb) [] true ((boundFrom b e 0 p.parts).map backL), root, b.places, namesL e 0 p.parts⟩, hw1, ?_, ?_⟩
      · unfold openB
        rw [hw2]
        simp only
        rw [openP_mk, hk3]
        simp only
        have hmr : m = relN := by rw [hkind] at hrel; exact hrel
        rw [if_neg (fun hh => hh hmr), if_neg (by
          intro hh
          have := congrArg List.length hh
          rw [List.length_map, boundFrom_many] at this
          exact hne (List.length_eq_zero_iff.1 this)), if_neg (by
          intro hh
          obtain ⟨q, hq, hm⟩ := List.any_eq_true.1 hh
          obtain ⟨q', _, rfl⟩ := List.mem_map.1 hq
          cases hm)]
        have hst : getP (setP ((pm.filter fun f => !(f.1 == startN)) ++ [(startN, angled (nameT e (root : Nat)))]) boundN bb) startN = some (angled (nameT e (root : Nat))) := by
          rw [getP_set_ne (by decide), getP_app, getP_gone]; simp
        have hi2 := ids_bound b e p.parts 0
        have hp2 := places_bound b e (placeF Addr.zero p.head) p.parts 0
        simp only [Except.ok.injEq, Bnd.mk.injEq, true_and]
        rw [hst, hpl3]
        refine ⟨?_, ?_, ?_⟩
        · simp only
          rw [if_neg (by simp [angled])]
          have := rootOf_names e p.parts 0 root 0 hrlt
          rw [Nat.zero_add] at this
          have hi3 : List.map (fun q : Prt => idF q.head) (List.map backL (boundFrom b e 0 p.parts)) = namesL e 0 p.parts := hi2
          show (rootOf (angled (nameT e (root : Nat))) (List.map (fun q : Prt => idF q.head) (List.map backL (boundFrom b e 0 p.parts))) 0).getD 0 = root
          rw [hi3, this]; simp
        · rw [hpls]; exact hp2
        · exact hi2
      · refine ⟨hroot, rfl, ?_, by rw [hpls, hwh, List.length_map], fun i hi => ?_⟩
        · show ((boundFrom b e 0 p.parts).map backL).length = _
          rw [List.length_map, boundFrom_many, hwh]
        · rw [hwh] at hi
          have hpi : p.parts[i]? = some p.parts[i] := List.getElem?_eq_getElem hi
          have hmem := List.getElem_mem hi
          generalize p.parts[i] = pi at hpi hmem
          have hai : b.places[i]? = some (placeF (placeF Addr.zero p.head) pi.head) := by rw [hpls, List.getElem?_map, hpi]; rfl
          generalize hA : placeF (placeF Addr.zero p.head) pi.head = A at hai
          have hqi : ((boundFrom b e 0 p.parts).map backL)[i]? = some (backL (boundPart b e i pi)) := by
            rw [List.getElem?_map, boundFrom_nth, hpi, Nat.zero_add]; rfl
          have hlb : leadsB b (i : Nat) = some (leadsAt b pi A) := by
            unfold leadsB
            rw [if_neg (by omega), Int.toNat_natCast, hwh, hpi, hai]
          have hfv : ∀ q ∈ p :: p.parts, (∀ f ∈ q.head, NoE e f.2) ∧ NoE e q.body := by
            intro q hq
            have hsub : ∀ x ∈ q.body :: q.head.map (·.2), x ∈ textsOf p := fun x hx => List.mem_flatMap.2 ⟨q, hq, hx⟩
            exact ⟨fun f hf => hno _ (hsub _ (List.mem_cons_of_mem _ (List.mem_map_of_mem hf))), hno _ (hsub _ (List.mem_cons_self ..))⟩
          have hAn : NoE e A.path := by
            rw [← hA]
            exact place_no hsg (place_no hsg (NoE.nil hsg.1) (hfv p (List.mem_cons_self ..)).1) (hfv pi (List.mem_cons_of_mem _ hmem)).1
          have hh : htmlB (backL (boundPart b e i pi)) = htmlB pi := by
            unfold htmlB
            rw [backL_ct _ ct_cte']
            show (match getF (boundHead e i pi.head) ctN with | none => _ | some v => _) = _
            rw [boundHead_get e i pi.head ct_cid]
            cases getF pi.head ctN <;> rfl
          have hq : (backL (boundPart b e i pi)).body = boundBody e pi.body (leadsAt b pi A) := by
            show boundBody e pi.body ((leadsB b (i : Nat)).getD []) = _
            rw [hlb]; rfl
          have hlaw := leads_law (b := b) (c := ⟨.mk (renF (delF (beginF p.head (nameT e (root : Nat)))) bb) [] true ((boundFrom b e 0 p.parts).map backL), root, b.places, namesL e 0 p.parts⟩) (at' := A) (e := e) (l := p.parts) rfl rfl (by rw [hids, List.length_map]) (by rw [hpls, List.length_map]) hsg hse (hfv pi (List.mem_cons_of_mem _ hmem)).2 hAn hh hq
          refine ⟨pi, _, _, _, by rw [hwh]; exact hpi, hqi, hlb, leadsB_some hqi hai, hlaw⟩
def smpI : Bs := [67, 111, 110, 116, 101, 110, 116, 45, 84, 121, 112, 101, 58, 32, 109, 117, 108, 116, 105, 112, 97, 114, 116, 47, 114, 101, 108, 97, 116, 101, 100, 59, 32, 98, 111, 117, 110, 100, 97, 114, 121, 61, 120, 13, 10, 13, 10, 45, 45, 120, 13, 10, 67, 111, 110, 116, 101, 110, 116, 45, 84, 121, 112, 101, 58, 32, 116, 101, 120, 116, 47, 104, 116, 109, 108, 13, 10, 67, 111, 110, 116, 101, 110, 116, 45, 76, 111, 99, 97, 116, 105, 111, 110, 58, 32, 104, 116, 116, 112, 58, 47, 47, 97, 47, 98, 13, 10, 13, 10, 60, 97, 32, 104, 114, 101, 102, 61, 99, 35, 100, 62, 13, 10, 45, 45, 120, 13, 10, 67, 111, 110, 116, 101, 110, 116, 45, 76, 111, 99, 97, 116, 105, 111, 110, 58, 32, 104, 116, 116, 112, 58, 47, 47, 97, 47, 99, 13, 10, 13, 10, 122, 13, 10, 45, 45, 120, 45, 45]
def smpW : Bs := [60, 97, 32, 104, 114, 101, 102, 61, 34, 99, 105, 100, 58, 112, 97, 114, 116, 49, 64, 98, 48, 35, 100, 34, 62]
def smpA : Bs := [104, 116, 116, 112, 58, 47, 47, 97, 47, 99, 35, 100]
def smpB : Bnd := ⟨.mk [(ctN, [109, 117, 108, 116, 105, 112, 97, 114, 116, 47, 114, 101, 108, 97, 116, 101, 100, 59, 32, 98, 111, 117, 110, 100, 97, 114, 121, 61, 120])] [] true
    [.mk [(ctN, htmlN), (clN, [104, 116, 116, 112, 58, 47, 47, 97, 47, 98])] [60, 97, 32, 104, 114, 101, 102, 61, 99, 35, 100, 62] false [], .mk [(clN, [104, 116, 116, 112, 58, 47, 47, 97, 47, 99])] [122] false []],
  0, [⟨[104, 116, 116, 112], true, [97], [47, 98], false, [], false, []⟩, ⟨[104, 116, 116, 112], true, [97], [47, 99], false, [], false, []⟩], [[], []]⟩
set_option maxRecDepth 100000 in
theorem smp_open : openB smpI = .ok smpB := by kernel_rfl
set_option maxRecDepth 100000 in
theorem smp_leads : leadsB smpB 0 = some [(smpA, 1)] := by kernel_rfl
def smpT : Bs := match bindB smpB with | .ok t => t | .error _ => []
set_option maxRecDepth 100000 in
theorem smp_bind : (match bindB smpB with | .ok t => Lib.contains t smpW | .error _ => false) = true := by kernel_rfl
theorem smp_bound : bindB smpB = .ok smpT ∧ Lib.contains smpT smpW = true := by
  have h := smp_bind
  unfold smpT
  cases hb : bindB smpB with
  | error n => rw [hb] at h; cases h
  | ok t => rw [hb] at h; exact ⟨rfl, h⟩
end Go.Proofs.YtignjjnflcpiiaaGreatDoor
