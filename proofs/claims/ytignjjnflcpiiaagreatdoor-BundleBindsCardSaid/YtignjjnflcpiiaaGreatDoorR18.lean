/- What package bundle computes, as plain data. No program, no condition; What a part that was read has, and what a bundle that is bound has. No program, no condition. -/
import Derived.Test.YtignjjnflcpiiaaGreatDoorR17
namespace Go.Proofs.YtignjjnflcpiiaaGreatDoor
open Go
def cidN : Bs := [67, 111, 110, 116, 101, 110, 116, 45, 73, 68]
def clN : Bs := [67, 111, 110, 116, 101, 110, 116, 45, 76, 111, 99, 97, 116, 105, 111, 110]
def relN : Bs := [109, 117, 108, 116, 105, 112, 97, 114, 116, 47, 114, 101, 108, 97, 116, 101, 100]
def startN : Bs := [115, 116, 97, 114, 116]
def htmlN : Bs := [116, 101, 120, 116, 47, 104, 116, 109, 108]
def inner (v : Bs) : Bs := if 2 < v.length ∧ v.getD 0 0 = 60 ∧ v.getD (v.length - 1) 0 = 62 then (v.drop 1).take (v.length - 1 - 1) else []
def idF (l : List Fld) : Bs := inner ((getF l cidN).getD [])
def placeF (base : Addr) (l : List Fld) : Addr := match getF l clN with
  | none => base
  | some v => match readA v with
    | none => base
    | some a => wholeA (resolveA base a)
structure Bnd where
  whole : Prt
  root : Nat
  places : List Addr
  ids : List Bs
def angled (s : Bs) : Bs := 60 :: (s ++ [62])
def rootOf (st : Bs) : List Bs → Nat → Option Nat
  | [], _ => none
  | x :: l, k => if st = angled x then some k else rootOf st l (k + 1)
def kindOf (l : List Fld) : Bs × List Fld := (readK ((getF l ctN).getD [])).getD ([], [])
def openP (p : Prt) : Except Int Bnd :=
  if (kindOf p.head).1 ≠ relN then .error 6
  else if p.parts = [] then .error 8
  else if p.parts.any Prt.many then .error 13
  else .ok ⟨p, ((match getP (kindOf p.head).2 startN with | none => none | some st => if st = [] then none else rootOf st (p.parts.map fun q : Prt => idF q.head) 0)).getD 0,
    p.parts.map fun q : Prt => placeF (placeF Addr.zero p.head) q.head, p.parts.map fun q : Prt => idF q.head⟩
def openB (s : Bs) : Except Int Bnd := match readP s with
  | .error e => .error e
  | .ok p => openP p
def idxOf {α : Type} [DecidableEq α] (x : α) : List α → Nat → Int
  | [], _ => -1
  | y :: l, k => if y = x then k else idxOf x l (k + 1)
def findB (b : Bnd) (a : Addr) : Int :=
  let w := wholeA a
  let k : Int := if w.scheme = [99, 105, 100] ∧ w.hasAuth = false ∧ w.hasQuery = false ∧ w.path ≠ [] then idxOf w.path b.ids 0 else -1
  if 0 ≤ k then k else if w = Addr.zero then -1 else idxOf w b.places 0
def htmlB (p : Prt) : Bool := match getF p.head ctN with
  | none => false
  | some v => match readK v with
    | none => false
    | some (m, _) => m == htmlN
def leadOf (b : Bnd) (at' : Addr) (v : Bs) : Bs × Int := match readA v with
  | none => (v, -1)
  | some a => (writeA (resolveA at' a), findB b (resolveA at' a))
def leadsAt (b : Bnd) (p : Prt) (at' : Addr) : List (Bs × Int) := if htmlB p then (linksT p.body).map fun x => leadOf b at' x.2.2 else []
def leadsB (b : Bnd) (i : Int) : Option (List (Bs × Int)) :=
  if i < 0 then none else match b.whole.parts[i.toNat]?, b.places[i.toNat]? with
  | some p, some a => some (leadsAt b p a)
  | _, _ => none
def atB (b : Bnd) (i : Int) : Option Addr := if i < 0 then none else b.places[i.toNat]?
def textsOf (w : Prt) : List Bs := (w :: w.parts).flatMap fun p : Prt => p.body :: p.head.map (·.2)
def signT (w : Prt) : Bs := 64 :: 98 :: Lib.itoa (chooseN [64, 98] (textsOf w))
def nameT (e : Bs) (i : Int) : Bs := 112 :: 97 :: 114 :: 116 :: (Lib.itoa i ++ e)
def valueT (e : Bs) (v : Bs) (k : Int) : Bs := if k < 0 then v else
  99 :: 105 :: 100 :: 58 :: (nameT e k ++ (match readA v with
    | none => []
    | some a => if a.hasFrag then 35 :: a.frag else []))
def boundHead (e : Bs) (i : Nat) (h : List Fld) : List Fld := (h.filter fun f => !(lowS f.1 == lowS cidN)) ++ [(cidN, angled (nameT e i))]
def boundBody (e : Bs) (s : Bs) (l : List (Bs × Int)) : Bs := if l = [] then s else (replK s (((linksT s).zip l).map fun x => valueT e x.1.2.2 x.2.2)).getD []
def boundPart (b : Bnd) (e : Bs) (i : Nat) (p : Prt) : Prt := .mk (boundHead e i p.head) (boundBody e p.body ((leadsB b i).getD [])) p.many p.parts
def boundFrom (b : Bnd) (e : Bs) : Nat → List Prt → List Prt
  | _, [] => []
  | i, p :: l => boundPart b e i p :: boundFrom b e (i + 1) l
def startV (v s : Bs) : Bs := let k := (readK v).getD ([], []); (writeK k.1 ((k.2.filter fun f => !(f.1 == startN)) ++ [(startN, angled s)])).getD []
def beginF : List Fld → Bs → List Fld
  | [], _ => []
  | f :: l, s => if lowS f.1 = lowS ctN then (f.1, startV f.2 s) :: l else f :: beginF l s
def boundWhole (b : Bnd) : Prt := .mk (beginF b.whole.head (nameT (signT b.whole) b.root)) b.whole.body b.whole.many (boundFrom b (signT b.whole) 0 b.whole.parts)
def bindB (b : Bnd) : Except Int Bs := writeP (boundWhole b)
def Named (l : List Fld) : Prop := ∀ f ∈ l, nameB f.1 = true
theorem lineOf_named {o l : List Fld} {x : Bs} (h : lineOf o x = some l) (ho : Named o) : Named l := by
  unfold lineOf at h
  split at h
  · cases hg : o.getLast? with
    | none => rw [hg] at h; cases h
    | some f =>
      rw [hg] at h
      simp at h
      subst h
      intro g hg'
      rcases List.mem_append.1 hg' with hg' | hg'
      · exact ho g ((List.dropLast_sublist o).subset hg')
      · rw [List.mem_singleton.1 hg']
        exact ho f (List.mem_of_getLast? hg)
  · cases hc : cutP [58] x with
    | none => rw [hc] at h; cases h
    | some y =>
      obtain ⟨a, b⟩ := y
      rw [hc] at h
      simp only at h
      split at h
      · rename_i hn
        simp at h
        subst h
        intro g hg'
        rcases List.mem_append.1 hg' with hg' | hg'
        · exact ho g hg'
        · rw [List.mem_singleton.1 hg']; exact hn
      · cases h
theorem readHF_named : ∀ (k : Nat) (o l : List Fld) (s r : Bs), readHF k o s = some (l, r) → Named o → Named l
  | 0, _, _, _, _, h, _ => by cases h
  | k + 1, o, l, s, r, h, ho => by
    by_cases hs : s = []
    · subst hs
      simp [readHF] at h
      rw [← h.1]; exact ho
    · rw [readHF_succ hs] at h
      split at h
      · simp at h; rw [← h.1]; exact ho
      · cases hl : lineOf o (Lib.cut s [13, 10]).1 with
        | none => rw [hl] at h; cases h
        | some o' =>
          rw [hl] at h
          exact readHF_named k o' l _ r h (lineOf_named hl ho)
theorem cleanF_right : ∀ {l0 l : List Fld}, cleanF l0 = some l → Named l0 → rightF l = true
  | [], l, h, _ => by simp [cleanF] at h; subst h; rfl
  | f :: l0, l, h, hn => by
    unfold cleanF at h
    split at h
    · rename_i hv
      simp only [Option.map_eq_some_iff] at h
      obtain ⟨l', h1, rfl⟩ := h
      have ih := rightF_mem.1 (cleanF_right h1 (fun g hg => hn g (List.mem_cons_of_mem _ hg)))
      refine rightF_mem.2 fun g hg => ?_
      rcases List.mem_cons.1 hg with rfl | hg
      · exact ⟨hn f (List.mem_cons_self ..), hv⟩
      · exact ih g hg
    · cases h
theorem eachR_all {α β : Type} {f : Nat → α → Except Int (β × Nat)} {P : β → Prop} (hf : ∀ a x y b, f a x = .ok (y, b) → P y) : ∀ {l : List α} {n m : Nat} {ys : List β}, eachR f n l = .ok (ys, m) → ∀ y ∈ ys, P y
  | [], n, m, ys, h => by
    simp [eachR] at h
    rw [h.1]; simp
  | x :: l, n, m, ys, h => by
    unfold eachR at h
    cases hx : f n x with
    | error e => rw [hx] at h; cases h
    | ok r =>
      obtain ⟨y, n'⟩ := r
      rw [hx] at h
      simp only at h
      cases hr : eachR f n' l with
      | error e => rw [hr] at h; cases h
      | ok r =>
        obtain ⟨zs, k⟩ := r
        rw [hr] at h
        simp only [Except.ok.injEq, Prod.mk.injEq] at h
        rw [← h.1]
        intro z hz
        rcases List.mem_cons.1 hz with rfl | hz
        · exact hf _ _ _ _ hx
        · exact eachR_all hf hr z hz
def ReadOk (q : Prt) : Prop := rightF q.head = true ∧ ((q.many = false ∧ boundF q.head = some none ∧ q.parts = []) ∨ (q.many = true ∧ (∃ b, boundF q.head = some (some b)) ∧ q.body = []))
theorem partR_ok (d left n : Nat) (s : Bs) (q : Prt) (h : partR d left s = .ok (q, n)) : ReadOk q ∧ ∀ r ∈ q.parts, ReadOk r := by
  induction d generalizing left n s q with
  | zero => cases h
  | succ d ih =>
    cases left with
    | zero => cases h
    | succ left =>
      unfold partR at h
      cases h1 : readH s with
      | none => rw [h1] at h; cases h
      | some x =>
        obtain ⟨l0, body⟩ := x
        rw [h1] at h
        simp only at h
        cases h2 : cleanF l0 with
        | none => rw [h2] at h; cases h
        | some l =>
          rw [h2] at h
          simp only at h
          have hr : rightF l = true := cleanF_right h2 (readHF_named _ _ _ _ _ h1 (fun f hf => by cases hf))
          cases h3 : boundF l with
          | none => rw [h3] at h; cases h
          | some ob =>
            rw [h3] at h
            cases ob with
            | none =>
              simp only at h
              cases h4 : decodeF l body with
              | error e => rw [h4] at h; cases h
              | ok b =>
                rw [h4] at h
                simp only [Except.ok.injEq, Prod.mk.injEq] at h
                rw [← h.1]
                exact ⟨⟨hr, Or.inl ⟨rfl, h3, rfl⟩⟩, fun r hr => by cases hr⟩
            | some b =>
              simp only at h
              cases h4 : cutB body b with
              | none => rw [h4] at h; cases h
              | some ps =>
                rw [h4] at h
                simp only at h
                cases h5 : eachR (partR d) left ps with
                | error e => rw [h5] at h; cases h
                | ok r =>
                  obtain ⟨qs, m⟩ := r
                  rw [h5] at h
                  simp only [Except.ok.injEq, Prod.mk.injEq] at h
                  rw [← h.1]
                  exact ⟨⟨hr, Or.inr ⟨rfl, ⟨b, h3⟩, rfl⟩⟩, eachR_all (P := ReadOk) (fun a x y c e => (ih a c x y e).1) h5⟩
theorem readP_ok {s : Bs} {p : Prt} (h : readP s = .ok p) : ReadOk p ∧ ∀ r ∈ p.parts, ReadOk r := by
  unfold readP at h
  split at h
  · cases h
  · cases hp : partR 4 40 s with
    | error e => rw [hp] at h; cases h
    | ok r =>
      obtain ⟨q, n⟩ := r
      rw [hp] at h
      have : q = p := by simpa [Except.map] using h
      rw [← this]
      exact partR_ok _ _ _ _ _ hp
theorem ReadOk.leaf {q : Prt} (h : ReadOk q) (hm : q.many = false) : LeafOk q := by
  obtain ⟨h1, h2 | h2⟩ := h
  · exact ⟨h1, h2.2.1, h2.1, h2.2.2⟩
  · rw [hm] at h2; exact absurd h2.1 (by decide)
theorem digits_ok (i : Nat) : ∀ c ∈ Lib.itoa (i : Int), 48 ≤ c.toNat ∧ c.toNat ≤ 57 := by
  rw [Lib.itoa_nonneg]; exact decDigits_mem i
theorem signT_sgn (w : Prt) : SgnOk (signT w) ∧ ∀ c ∈ signT w, okQ c = true ∧ okB c = true ∧ c ≠ 35 ∧ c ≠ 63 ∧ c ≠ 58 := by
  have hm : ∀ c ∈ signT w, c = 64 ∨ c = 98 ∨ (48 ≤ c.toNat ∧ c.toNat ≤ 57) := by
    intro c hc
    unfold signT at hc
    rcases List.mem_cons.1 hc with rfl | hc
    · exact Or.inl rfl
    · rcases List.mem_cons.1 hc with rfl | hc
      · exact Or.inr (Or.inl rfl)
      · exact Or.inr (Or.inr (digits_ok _ c hc))
  refine ⟨⟨by simp [signT], fun c hc => ?_⟩, fun c hc => ?_⟩
  · rcases hm c hc with rfl | rfl | h
    · decide
    · decide
    · refine ⟨?_, ?_, ?_, ?_, ?_, ?_⟩ <;> (intro e; subst e; revert h; decide)
  · rcases hm c hc with rfl | rfl | h
    · decide
    · decide
    · have := digit_ok h
      exact ⟨this.1, this.2.2.2.2.2.2.2.2.2, this.2.2.2.2.2.2.1, this.2.2.2.2.2.2.2.1, this.2.2.2.2.2.2.2.2.1⟩
theorem nameT_mem {e : Bs} {P : UInt8 → Prop} (he : ∀ c ∈ e, P c) (h1 : P 112) (h2 : P 97) (h3 : P 114) (h4 : P 116) (hd : ∀ c : UInt8, 48 ≤ c.toNat ∧ c.toNat ≤ 57 → P c) (i : Nat) : ∀ c ∈ nameT e (i : Int), P c := by
  intro c hc
  unfold nameT at hc
  rcases List.mem_cons.1 hc with rfl | hc
  · exact h1
  rcases List.mem_cons.1 hc with rfl | hc
  · exact h2
  rcases List.mem_cons.1 hc with rfl | hc
  · exact h3
  rcases List.mem_cons.1 hc with rfl | hc
  · exact h4
  rcases List.mem_append.1 hc with hc | hc
  · exact hd c (digits_ok _ c hc)
  · exact he c hc
theorem nameT_inj {e : Bs} {i j : Nat} (h : nameT e (i : Int) = nameT e (j : Int)) : i = j := by
  unfold nameT at h
  simp only [List.cons.injEq, true_and] at h
  exact itoa_inj (List.append_cancel_right h)
theorem nameT_sign (e : Bs) (i : Int) : e <:+: nameT e i := by
  unfold nameT
  exact ⟨112 :: 97 :: 114 :: 116 :: Lib.itoa i, [], by simp⟩
theorem angled_value {s : Bs} (h : ∀ c ∈ s, okQ c = true) : valueB (angled s) = true ∧ ∀ c ∈ angled s, okQ c = true := by
  have hm : ∀ c ∈ angled s, okQ c = true := by
    intro c hc
    unfold angled at hc
    rcases List.mem_cons.1 hc with rfl | hc
    · decide
    rcases List.mem_append.1 hc with hc | hc
    · exact h c hc
    · rw [List.mem_singleton.1 hc]; decide
  refine ⟨?_, hm⟩
  unfold valueB
  rw [Bool.and_eq_true, beq_iff_eq, List.all_eq_true]
  refine ⟨fun c hc => ?_, ?_⟩
  · have key : ((List.range 256).all fun n => !(okQ n.toUInt8) || saysC n.toUInt8) = true := by kernel_rfl
    have := List.all_eq_true.1 key c.toNat (List.mem_range.2 c.toNat_lt)
    rw [show c.toNat.toUInt8 = c by simp, hm c hc] at this
    simpa using this
  · unfold Lib.trimS
    rw [trimR_keep (fun c hc => ?_), trimL_keep (fun c hc => ?_)]
    · simp [angled] at hc; subst hc; decide
    · unfold angled at hc
      rw [← List.cons_append, List.getLast?_append] at hc
      simp at hc; subst hc; decide
theorem inner_angled {s : Bs} (h : s ≠ []) : inner (angled s) = s := by
  have hl := List.length_pos_iff.2 h
  unfold inner angled
  rw [if_pos]
  · simp
  · refine ⟨by simp; omega, rfl, ?_⟩
    have : (60 :: (s ++ [62]) : Bs).length - 1 = s.length + 1 := by simp
    rw [this, List.getD_cons_succ]
    simp [List.getD_eq_getElem?_getD]
theorem getP_app (l : List Fld) (n v s : Bs) : getP (l ++ [(n, v)]) s = match getP l s with | some x => some x | none => if n = s then some v else none := by
  induction l with
  | nil => simp [getP]
  | cons f l ih =>
    rw [List.cons_append]
    unfold getP
    split
    · rfl
    · exact ih
theorem getP_yes {f : Fld} {s : Bs} (h : f.1 = s) (l : List Fld) : getP (f :: l) s = some f.2 := by unfold getP; rw [if_pos h]
theorem getP_no {f : Fld} {s : Bs} (h : f.1 ≠ s) (l : List Fld) : getP (f :: l) s = getP l s := by conv => lhs; unfold getP; rw [if_neg h]
theorem getP_filter {n s : Bs} (hne : n ≠ s) : ∀ l : List Fld, getP (l.filter fun f => !(f.1 == n)) s = getP l s
  | [] => rfl
  | f :: l => by
    rw [List.filter_cons]
    by_cases hf : f.1 = s
    · rw [if_pos (by rw [hf]; simpa using Ne.symm hne), getP_yes hf, getP_yes hf]
    · rw [getP_no hf]
      split
      · rw [getP_no hf, getP_filter hne l]
      · exact getP_filter hne l
theorem getP_gone {n : Bs} : ∀ l : List Fld, getP (l.filter fun f => !(f.1 == n)) n = none
  | [] => rfl
  | f :: l => by
    rw [List.filter_cons]
    split
    · rename_i h
      rw [getP_no (by simpa using h), getP_gone l]
    · exact getP_gone l
theorem beginF_get (s : Bs) {v : Bs} : ∀ {h : List Fld}, getF h ctN = some v → getF (beginF h s) ctN = some (startV v s)
  | [], h => by cases h
  | f :: l, h => by
    unfold beginF
    by_cases hf : lowS f.1 = lowS ctN
    · rw [getF_yes hf] at h
      simp at h
      rw [if_pos hf, getF_yes (f := (f.1, startV f.2 s)) hf, h]
    · rw [getF_no hf] at h
      rw [if_neg hf, getF_no hf, beginF_get s h]
theorem beginF_ne (b : Bs) {s : Bs} (hs : lowS s ≠ lowS ctN) : ∀ (h : List Fld), getF (beginF h b) s = getF h s
  | [] => rfl
  | f :: l => by
    unfold beginF
    by_cases hf : lowS f.1 = lowS ctN
    · have hf2 : lowS f.1 ≠ lowS s := by rw [hf]; exact fun e => hs e.symm
      rw [if_pos hf, getF_no (f := (f.1, startV f.2 b)) hf2, getF_no hf2]
    · rw [if_neg hf]
      by_cases h2 : lowS f.1 = lowS s
      · rw [getF_yes h2, getF_yes h2]
      · rw [getF_no h2, getF_no h2, beginF_ne b hs l]
theorem beginF_right {b v : Bs} (hv : valueB (startV v b) = true) : ∀ {h : List Fld}, rightF h = true → getF h ctN = some v → rightF (beginF h b) = true
  | [], _, h => by cases h
  | f :: l, hr, h => by
    have hm := rightF_mem.1 hr
    unfold beginF
    by_cases hf : lowS f.1 = lowS ctN
    · rw [getF_yes hf] at h
      simp at h
      rw [if_pos hf]
      refine rightF_mem.2 fun g hg => ?_
      rcases List.mem_cons.1 hg with rfl | hg
      · exact ⟨(hm f (List.mem_cons_self ..)).1, by rw [h]; exact hv⟩
      · exact hm g (List.mem_cons_of_mem _ hg)
    · rw [getF_no hf] at h
      rw [if_neg hf]
      have ih := rightF_mem.1 (beginF_right hv (h := l) (rightF_mem.2 fun g hg => hm g (List.mem_cons_of_mem _ hg)) h)
      refine rightF_mem.2 fun g hg => ?_
      rcases List.mem_cons.1 hg with rfl | hg
      · exact hm g (List.mem_cons_self ..)
      · exact ih g hg
theorem boundHead_get (e : Bs) (i : Nat) (h : List Fld) {s : Bs} (hs : lowS s ≠ lowS cidN) : getF (boundHead e i h) s = getF h s := by
  unfold boundHead
  rw [getF_app, getF_filter (fun f hf => by rw [hf]; simpa using hs), if_neg (fun h => hs h.symm)]
  cases getF h s <;> rfl
theorem boundHead_cid (e : Bs) (i : Nat) (h : List Fld) : getF (boundHead e i h) cidN = some (angled (nameT e i)) := by
  unfold boundHead
  rw [getF_app, getF_out (fun f hf => by rw [hf]; simp)]
  simp
theorem ct_cid : lowS ctN ≠ lowS cidN := by decide
theorem cl_cid : lowS clN ≠ lowS cidN := by decide
theorem ct_cte' : lowS ctN ≠ lowS cteN := by decide
theorem cl_cte : lowS clN ≠ lowS cteN := by decide
theorem cl_ct : lowS clN ≠ lowS ctN := by decide
theorem cid_cte : lowS cidN ≠ lowS cteN := by decide
theorem boundPart_leaf {b : Bnd} {e : Bs} (i : Nat) {p : Prt} (he : ∀ c ∈ e, okQ c = true) (h : LeafOk p) : LeafOk (boundPart b e i p) := by
  obtain ⟨h1, h2, h3, h4⟩ := h
  refine ⟨?_, ?_, h3, h4⟩
  · show rightF (boundHead e i p.head) = true
    refine rightF_app (rightF_filter _ h1) (rightF_mem.2 fun f hf => ?_)
    rw [List.mem_singleton.1 hf]
    exact ⟨(show nameB cidN = true by decide), (angled_value (nameT_mem he (by decide) (by decide) (by decide) (by decide) (fun c hc => (digit_ok hc).1) i)).1⟩
  · show boundF (boundHead e i p.head) = some none
    rw [← h2]
    exact boundF_same (boundHead_get e i p.head ct_cid)
end Go.Proofs.YtignjjnflcpiiaaGreatDoor
