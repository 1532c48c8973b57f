/- Where an address leads, as plain data. No program; address.Whole gives an address without its fragment, its scheme and authority in small letters. Condition: its texts take at most 2^47 bytes each; What package bundle computes, as plain data. No program, no condition; What package desk computes, as . -/
import Derived.Test.YtignjjnflcpiiaaGreatDoorQ12
namespace Go.Proofs.YtignjjnflcpiiaaGreatDoor
open Go
def dirOf (p : Bs) : Bs := p.take (Lib.lastIndexByte ⟨p.toArray⟩ 47 + 1).toNat
def ahead (b : Addr) : Bs := if b.hasAuth && b.path.isEmpty then [47] else dirOf b.path
def resolveA (b a : Addr) : Addr :=
  if a.scheme ≠ [] then { a with path := dotsA a.path }
  else if a.hasAuth then { a with scheme := b.scheme, path := dotsA a.path }
  else match a.path with
    | [] => ⟨b.scheme, b.hasAuth, b.auth, b.path, if a.hasQuery then true else b.hasQuery, if a.hasQuery then a.query else b.query, a.hasFrag, a.frag⟩
    | c :: l => if c = 47 then ⟨b.scheme, b.hasAuth, b.auth, dotsA (c :: l), a.hasQuery, a.query, a.hasFrag, a.frag⟩
      else ⟨b.scheme, b.hasAuth, b.auth, dotsA (ahead b ++ c :: l), a.hasQuery, a.query, a.hasFrag, a.frag⟩
theorem lastIdx_le (s : ByteArray) (c : Int) : ∀ k : Nat, -1 ≤ Lib.lastIdx s c k ∧ Lib.lastIdx s c k < k
  | 0 => by simp [Lib.lastIdx]
  | k + 1 => by
    unfold Lib.lastIdx
    have := lastIdx_le s c k
    split <;> omega
theorem lastIndexByte_le (l : Bs) (c : Int) : -1 ≤ Lib.lastIndexByte ⟨l.toArray⟩ c ∧ Lib.lastIndexByte ⟨l.toArray⟩ c < l.length := lastIdx_le _ c l.length
theorem ahead_len (b : Addr) : (ahead b).length ≤ b.path.length + 1 := by
  unfold ahead dirOf
  split
  · simp
  · simp; omega
end Go.Proofs.YtignjjnflcpiiaaGreatDoor
namespace Go.Proofs.YtignjjnflcpiiaaGreatDoor
open Go Go.RowKit
def wholeA (a : Addr) : Addr := ⟨lowS a.scheme, a.hasAuth, lowS a.auth, a.path, a.hasQuery, a.query, false, []⟩
set_option maxHeartbeats 1000000 in
set_option maxRecDepth 100000 in
theorem addrWhole_any (a : Addr) (w : World) (h1 : a.scheme.length ≤ 140737488355328) (h2 : a.auth.length ≤ 140737488355328) :
    Calls Tryz.prog 62 #[a.val] w fun e w' => e = .returned (wholeA a).val ∧ Below w.heap.size w w' := by
  obtain ⟨s, ha, u, p, hq, q, hf, f⟩ := a
  simp only at h1 h2
  go_enter Tryz.func62, Tryz.ntmps62
  go_upto_region 1 with fail
  go_cut [2] (fun s2 wx => s2 = .pointer (some ⟨w.heap.size + 1, 0, none⟩) ∧ Blk wx w.heap.size (Addr.cells ⟨s, ha, u, p, hq, q, false, []⟩) 36 ∧ Blk wx (w.heap.size + 1) zCells 36 ∧ Below w.heap.size w wx)
  case first =>
    have r1 := ((((Blk.new w (Addr.cells ⟨s, ha, u, p, hq, q, hf, f⟩) 36).alloc (.cells zCells 36)).set 6 (.bool false)).set 7 (.string ⟨#[]⟩))
    go_wp2_with fail
    go_meet
    refine ⟨rfl, ?_, ?_, by go_grown⟩
    · exact (Blk.new w (Addr.cells ⟨s, ha, u, p, hq, q, false, []⟩) 36).alloc _
    · have h := Blk.new (w.alloc (.cells (Addr.cells ⟨s, ha, u, p, hq, q, false, []⟩) 36)) zCells 36
      rw [World.size_alloc] at h
      exact h
  case rest =>
    obtain ⟨rfl, r1, r2, B⟩ := hcut
    obtain ⟨w1, rfl⟩ : ∃ w1 : World, w1 = wc := ⟨_, rfl⟩
    go_upto_region 2 with fail
    go_cut [2] (fun s2 wx => s2 = .pointer (some ⟨w.heap.size + 1, 0, none⟩) ∧ Blk wx w.heap.size (Addr.cells ⟨lowS s, ha, lowS u, p, hq, q, false, []⟩) 36 ∧ Blk wx (w.heap.size + 1) zCells 36 ∧ Below w.heap.size w wx)
    case first =>
      have rc := r1.cell
      have rf := r1.free
      have hlt := r1.lt
      go_region_with ((refine (small_any _ _ (by assumption)).mono ?_); (rintro e w2 ⟨rfl, hb⟩); (have K := belowStep hb (w0 := w1) (by repeat (first | exact Below.refl _ _ | assumption | refine Below.drew ?_))); (have rc := (r1.next K hlt).cell); (have rf := (r1.next K hlt).free))
      all_goals go_wp2_with fail
      all_goals
        go_meet
        refine ⟨rfl, ((r1.next K hlt).set 0 (.string ⟨(lowS s).toArray⟩)).set 2 (.string ⟨(lowS u).toArray⟩), ((r2.next K r2.lt).setO (a := ⟨w.heap.size, 0, none⟩) (by simp) (.string ⟨(lowS s).toArray⟩)).setO (a := ⟨w.heap.size, 2, none⟩) (by simp) (.string ⟨(lowS u).toArray⟩), ?_⟩
        have KK := B.trans (K.mono B.size)
        go_grown
    case rest =>
      obtain ⟨rfl, r1, r2, B⟩ := hcut
      have rc := r1.cell
      have r2f := r2.free
      have r2c := r2.cell
      have hlt := r2.lt
      go_wp2_with fail
      refine bodyPost_ret (v := (wholeA ⟨s, ha, u, p, hq, q, hf, f⟩).val) (by simp [results, Tryz.results62, go_sem, wholeA, r2c]) rfl ⟨rfl, by go_grown⟩
end Go.Proofs.YtignjjnflcpiiaaGreatDoor
namespace Go.Proofs.YtignjjnflcpiiaaGreatDoor
open Go
def cidN : Bs := [67, 111, 110, 116, 101, 110, 116, 45, 73, 68]
def clN : Bs := [67, 111, 110, 116, 101, 110, 116, 45, 76, 111, 99, 97, 116, 105, 111, 110]
def relN : Bs := [109, 117, 108, 116, 105, 112, 97, 114, 116, 47, 114, 101, 108, 97, 116, 101, 100]
def startN : Bs := [115, 116, 97, 114, 116]
def htmlN : Bs := [116, 101, 120, 116, 47, 104, 116, 109, 108]
def inner (v : Bs) : Bs := if 2 < v.length ∧ v.getD 0 0 = 60 ∧ v.getD (v.length - 1) 0 = 62 then (v.drop 1).take (v.length - 1 - 1) else []
def idF (l : List Fld) : Bs := inner ((getF l cidN).getD [])
def placeF (base : Addr) (l : List Fld) : Addr := match getF l clN with
  | none => base
  | some v => match readA v with
    | none => base
    | some a => wholeA (resolveA base a)
structure Bnd where
  whole : Prt
  root : Nat
  places : List Addr
  ids : List Bs
def angled (s : Bs) : Bs := 60 :: (s ++ [62])
def rootOf (st : Bs) : List Bs → Nat → Option Nat
  | [], _ => none
  | x :: l, k => if st = angled x then some k else rootOf st l (k + 1)
def kindOf (l : List Fld) : Bs × List Fld := (readK ((getF l ctN).getD [])).getD ([], [])
def openP (p : Prt) : Except Int Bnd :=
  if (kindOf p.head).1 ≠ relN then .error 6
  else if p.parts = [] then .error 8
  else if p.parts.any Prt.many then .error 13
  else .ok ⟨p, ((match getP (kindOf p.head).2 startN with | none => none | some st => if st = [] then none else rootOf st (p.parts.map fun q : Prt => idF q.head) 0)).getD 0,
    p.parts.map fun q : Prt => placeF (placeF Addr.zero p.head) q.head, p.parts.map fun q : Prt => idF q.head⟩
def openB (s : Bs) : Except Int Bnd := match readP s with
  | .error e => .error e
  | .ok p => openP p
def idxOf {α : Type} [DecidableEq α] (x : α) : List α → Nat → Int
  | [], _ => -1
  | y :: l, k => if y = x then k else idxOf x l (k + 1)
def findB (b : Bnd) (a : Addr) : Int :=
  let w := wholeA a
  let k : Int := if w.scheme = [99, 105, 100] ∧ w.hasAuth = false ∧ w.hasQuery = false ∧ w.path ≠ [] then idxOf w.path b.ids 0 else -1
  if 0 ≤ k then k else if w = Addr.zero then -1 else idxOf w b.places 0
def htmlB (p : Prt) : Bool := match getF p.head ctN with
  | none => false
  | some v => match readK v with
    | none => false
    | some (m, _) => m == htmlN
def leadOf (b : Bnd) (at' : Addr) (v : Bs) : Bs × Int := match readA v with
  | none => (v, -1)
  | some a => (writeA (resolveA at' a), findB b (resolveA at' a))
def leadsAt (b : Bnd) (p : Prt) (at' : Addr) : List (Bs × Int) := if htmlB p then (linksT p.body).map fun x => leadOf b at' x.2.2 else []
def leadsB (b : Bnd) (i : Int) : Option (List (Bs × Int)) :=
  if i < 0 then none else match b.whole.parts[i.toNat]?, b.places[i.toNat]? with
  | some p, some a => some (leadsAt b p a)
  | _, _ => none
def atB (b : Bnd) (i : Int) : Option Addr := if i < 0 then none else b.places[i.toNat]?
def textsOf (w : Prt) : List Bs := (w :: w.parts).flatMap fun p : Prt => p.body :: p.head.map (·.2)
def signT (w : Prt) : Bs := 64 :: 98 :: Lib.itoa (chooseN [64, 98] (textsOf w))
def nameT (e : Bs) (i : Int) : Bs := 112 :: 97 :: 114 :: 116 :: (Lib.itoa i ++ e)
def valueT (e : Bs) (v : Bs) (k : Int) : Bs := if k < 0 then v else
  99 :: 105 :: 100 :: 58 :: (nameT e k ++ (match readA v with
    | none => []
    | some a => if a.hasFrag then 35 :: a.frag else []))
def boundHead (e : Bs) (i : Nat) (h : List Fld) : List Fld := (h.filter fun f => !(lowS f.1 == lowS cidN)) ++ [(cidN, angled (nameT e i))]
def boundBody (e : Bs) (s : Bs) (l : List (Bs × Int)) : Bs := if l = [] then s else (replK s (((linksT s).zip l).map fun x => valueT e x.1.2.2 x.2.2)).getD []
def boundPart (b : Bnd) (e : Bs) (i : Nat) (p : Prt) : Prt := .mk (boundHead e i p.head) (boundBody e p.body ((leadsB b i).getD [])) p.many p.parts
def boundFrom (b : Bnd) (e : Bs) : Nat → List Prt → List Prt
  | _, [] => []
  | i, p :: l => boundPart b e i p :: boundFrom b e (i + 1) l
def startV (v s : Bs) : Bs := let k := (readK v).getD ([], []); (writeK k.1 ((k.2.filter fun f => !(f.1 == startN)) ++ [(startN, angled s)])).getD []
def beginF : List Fld → Bs → List Fld
  | [], _ => []
  | f :: l, s => if lowS f.1 = lowS ctN then (f.1, startV f.2 s) :: l else f :: beginF l s
def boundWhole (b : Bnd) : Prt := .mk (beginF b.whole.head (nameT (signT b.whole) b.root)) b.whole.body b.whole.many (boundFrom b (signT b.whole) 0 b.whole.parts)
def bindB (b : Bnd) : Except Int Bs := writeP (boundWhole b)
def hexD (n : Nat) : UInt8 := ([48, 49, 50, 51, 52, 53, 54, 55, 56, 57, 97, 98, 99, 100, 101, 102] : Bs).getD n 0
def showB (c : UInt8) : Bool := decide (c < 33) || decide (126 < c) || c == 37
def showC (c : UInt8) : Bs := if showB c then [37, hexD (c.toNat / 16), hexD (c.toNat % 16)] else [c]
def showT (s : Bs) : Bs := 34 :: (s.flatMap showC ++ [34])
def numN (s : Bs) : Option Int := match Lib.atoiAll s with
  | .ok n => if Lib.itoa n = s then some n else none
  | _ => none
def wordsF : Bs → Bs → List Bs
  | [], [] => []
  | x :: l, [] => [x :: l]
  | [], c :: s => if c = 32 then wordsF [] s else wordsF [c] s
  | x :: l, c :: s => if c = 32 then (x :: l) :: wordsF [] s else wordsF (x :: l ++ [c]) s
def wordsT (s : Bs) : List Bs := wordsF [] s
structure Dsk where
  bundle : Option Bnd
  said : Bs
abbrev Ans := Except Int Bs
def isT (a : Bs) : Bs := 105 :: 115 :: 32 :: a
def commaT (l : List Bs) : Bs := Lib.join l [44, 32]
def blankT (l : List Bs) : Bs := Lib.join l [32]
def wAdd : Bs := [97, 100, 100]
def wAt : Bs := [97, 116]
def wBind : Bs := [98, 105, 110, 100]
def wDots : Bs := [100, 111, 116, 115]
def wFind : Bs := [102, 105, 110, 100]
def wHelp : Bs := [104, 101, 108, 112]
def wKind : Bs := [107, 105, 110, 100]
def wLead : Bs := [108, 101, 97, 100]
def wLinks : Bs := [108, 105, 110, 107, 115]
def wOpen : Bs := [111, 112, 101, 110]
def wPack : Bs := [112, 97, 99, 107]
def wParts : Bs := [112, 97, 114, 116, 115]
def wQuote : Bs := [113, 117, 111, 116, 101]
def wResolve : Bs := [114, 101, 115, 111, 108, 118, 101]
def wUnpack : Bs := [117, 110, 112, 97, 99, 107]
def wUnquote : Bs := [117, 110, 113, 117, 111, 116, 101]
def commandsT : Bs := [97, 100, 100, 32, 97, 116, 32, 98, 105, 110, 100, 32, 100, 111, 116, 115, 32, 102, 105, 110, 100, 32, 104, 101, 108, 112, 32, 107, 105, 110, 100, 32, 108, 101, 97, 100, 32, 108, 105, 110, 107, 115, 32, 111, 112, 101, 110, 32, 112, 97, 99, 107, 32, 112, 97, 114, 116, 115, 32, 113, 117, 111, 116, 101, 32, 114, 101, 115, 111, 108, 118, 101, 32, 117, 110, 112, 97, 99, 107, 32, 117, 110, 113, 117, 111, 116, 101]
def addD (d : Dsk) (w : List Bs) : Dsk × Ans := (⟨d.bundle, d.said ++ (blankT w ++ [13, 10])⟩, .ok wAdd)
def atD (d : Dsk) (w : List Bs) : Ans := if w.length ≠ 1 then .error 3 else match d.bundle with
  | none => .error 7
  | some b => match numN (w.getD 0 []) with
    | none => .error 3
    | some n => match atB b n with
      | none => .error 2
      | some a => .ok (isT (writeA a))
def bindD (d : Dsk) (w : List Bs) : Ans := if w.length ≠ 0 then .error 3 else match d.bundle with
  | none => .error 7
  | some b => match bindB b with
    | .error e => .error e
    | .ok s => .ok (showT s)
def dotsD (w : List Bs) : Ans := if w.length ≠ 1 then .error 3 else .ok (isT (dotsA (w.getD 0 [])))
def findD (d : Dsk) (w : List Bs) : Ans := if w.length ≠ 1 then .error 3 else match d.bundle with
  | none => .error 7
  | some b => match readA (w.getD 0 []) with
    | none => .error 3
    | some a => .ok (Lib.itoa (findB b a))
def helpD (w : List Bs) : Ans := if w.length ≠ 0 then .error 3 else .ok commandsT
def kindD (w : List Bs) : Ans := match readK (blankT w) with
  | none => .error 3
  | some (m, l) => match writeK m l with
    | none => .error 1
    | some s => .ok s
def leadT (x : Bs × Int) : Bs := showT x.1 ++ 32 :: Lib.itoa x.2
def leadD (d : Dsk) (w : List Bs) : Ans := if w.length ≠ 1 then .error 3 else match d.bundle with
  | none => .error 7
  | some b => match numN (w.getD 0 []) with
    | none => .error 3
    | some n => match leadsB b n with
      | none => .error 2
      | some l => .ok (108 :: 101 :: 97 :: 100 :: 115 :: 32 :: commaT (l.map leadT))
def linkT (x : Lnk) : Bs := Lib.itoa x.1 ++ 32 :: (Lib.itoa x.2.1 ++ 32 :: showT x.2.2)
def linksD (w : List Bs) : Ans := .ok (108 :: 105 :: 110 :: 107 :: 115 :: 32 :: commaT ((linksT (blankT w)).map linkT))
def openD (d : Dsk) (w : List Bs) : Dsk × Ans := if w.length ≠ 0 then (d, .error 3) else match openB d.said with
  | .error e => (⟨d.bundle, []⟩, .error e)
  | .ok b => (⟨some b, []⟩, .ok (Lib.itoa b.whole.parts.length ++ 32 :: Lib.itoa b.root))
def packD (w : List Bs) : Ans := .ok (showT (packT (blankT w)))
def quoteD (w : List Bs) : Ans := .ok (showT (quoteT (blankT w)))
def partT1 (p : Prt) : Bs := Lib.itoa p.head.length ++ 32 :: showT p.body
def partsD (d : Dsk) (w : List Bs) : Ans := if w.length ≠ 0 then .error 3 else match d.bundle with
  | none => .error 7
  | some b => .ok (112 :: 97 :: 114 :: 116 :: 115 :: 32 :: commaT (b.whole.parts.map partT1))
def resolveD (w : List Bs) : Ans := if w.length ≠ 2 then .error 3 else match readA (w.getD 0 []) with
  | none => .error 3
  | some a => match readA (w.getD 1 []) with
    | none => .error 3
    | some b => .ok (isT (writeA (resolveA a b)))
def unpackD (w : List Bs) : Ans := match unpackT (blankT w) with
  | none => .error 3
  | some s => .ok (showT s)
def unquoteD (w : List Bs) : Ans := match unquoteT (blankT w) with
  | none => .error 3
  | some s => .ok (showT s)
def doesD (d : Dsk) (n : Bs) (w : List Bs) : Dsk × Ans :=
  if n = wAdd then addD d w else if n = wAt then (d, atD d w) else if n = wBind then (d, bindD d w) else if n = wDots then (d, dotsD w)
  else if n = wFind then (d, findD d w) else if n = wHelp then (d, helpD w) else if n = wKind then (d, kindD w) else if n = wLead then (d, leadD d w)
  else if n = wLinks then (d, linksD w) else if n = wOpen then openD d w else if n = wPack then (d, packD w) else if n = wParts then (d, partsD d w)
  else if n = wQuote then (d, quoteD w) else if n = wResolve then (d, resolveD w) else if n = wUnpack then (d, unpackD w) else if n = wUnquote then (d, unquoteD w)
  else (d, .error 3)
def errT (e : Int) : Bs := 101 :: 114 :: 114 :: 111 :: 114 :: 32 :: Lib.itoa e
def ansT : Ans → Bs
  | .ok s => s
  | .error e => errT e
def lineD (d : Dsk) (s : Bs) : Dsk × Bs := match wordsT s with
  | [] => (d, [111, 107])
  | n :: w => ((doesD d n w).1, ansT (doesD d n w).2)
def linesD : Dsk → List Bs → Bs
  | _, [] => []
  | d, s :: l => (lineD d s).2 ++ 10 :: linesD (lineD d s).1 l
def FldsN (n : Nat) (l : List Fld) : Prop := l.length ≤ n ∧ ∀ f ∈ l, f.1.length ≤ n ∧ f.2.length ≤ n
theorem FldsN.mono {n m : Nat} {l : List Fld} (h : FldsN n l) (hm : n ≤ m) : FldsN m l := ⟨Nat.le_trans h.1 hm, fun f hf => ⟨Nat.le_trans (h.2 f hf).1 hm, Nat.le_trans (h.2 f hf).2 hm⟩⟩
theorem getF_le {n : Nat} {s v : Bs} : ∀ {l : List Fld}, FldsN n l → getF l s = some v → v.length ≤ n
  | [], _, h => by cases h
  | f :: l, hok, h => by
    unfold getF at h
    split at h
    · cases h; exact (hok.2 f (by simp)).2
    · exact getF_le (l := l) ⟨by have := hok.1; simp at this; omega, fun g hg => hok.2 g (by simp [hg])⟩ h
theorem getP_le {n : Nat} {s v : Bs} : ∀ {l : List Fld}, FldsN n l → getP l s = some v → v.length ≤ n
  | [], _, h => by cases h
  | f :: l, hok, h => by
    unfold getP at h
    split at h
    · cases h; exact (hok.2 f (by simp)).2
    · exact getP_le (l := l) ⟨by have := hok.1; simp at this; omega, fun g hg => hok.2 g (by simp [hg])⟩ h
theorem readK_n {s m : Bs} {l : List Fld} (h : readK s = some (m, l)) : m.length ≤ s.length ∧ FldsN s.length l := by
  obtain ⟨h1, h2, h3⟩ := readK_bd h
  exact ⟨h1, h2, h3⟩
def weight (l : List Fld) : Nat := (l.map fun f => f.1.length + f.2.length + 1).sum
theorem weight_cons (f : Fld) (l : List Fld) : weight (f :: l) = f.1.length + f.2.length + 1 + weight l := by simp [weight]
theorem weight_append (l m : List Fld) : weight (l ++ m) = weight l + weight m := by simp [weight]
theorem weight_fld {l : List Fld} {f : Fld} (h : f ∈ l) : f.1.length + f.2.length + 1 ≤ weight l := by
  induction l with
  | nil => cases h
  | cons g l ih =>
    rw [weight_cons]
    rcases List.mem_cons.1 h with rfl | h
    · omega
    · have := ih h; omega
theorem weight_len (l : List Fld) : l.length ≤ weight l := by
  induction l with
  | nil => simp
  | cons g l ih => rw [weight_cons, List.length_cons]; omega
theorem weight_n {n : Nat} {l : List Fld} (h : weight l ≤ n) : FldsN n l := ⟨Nat.le_trans (weight_len l) h, fun f hf => by have := weight_fld hf; omega⟩
theorem lineOf_weight {out o : List Fld} {l : Bs} (_hl : l ≠ []) (h : lineOf out l = some o) : weight o ≤ weight out + l.length := by
  unfold lineOf at h
  split at h
  · cases hg : out.getLast? with
    | none => rw [hg] at h; cases h
    | some f =>
      rw [hg] at h
      simp only [Option.some.injEq] at h
      subst h
      obtain ⟨ys, rfl⟩ := List.getLast?_eq_some_iff.1 hg
      simp [weight_append, weight_cons]; omega
  · cases hc : cutP [58] l with
    | none => rw [hc] at h; cases h
    | some x =>
      obtain ⟨a, b⟩ := x
      rw [hc] at h
      simp only at h
      split at h
      · cases h
        have := congrArg List.length (cutP_some hc)
        simp [weight_append, weight_cons] at this ⊢
        simp [weight]; omega
      · cases h
theorem readHF_weight : ∀ (k : Nat) (out o : List Fld) (s r : Bs), readHF k out s = some (o, r) → weight o ≤ weight out + s.length ∧ r.length ≤ s.length
  | 0, _, _, _, _, h => by cases h
  | k + 1, out, o, s, r, h => by
    unfold readHF at h
    split at h
    · rename_i h0; cases h; simp
    · rename_i h0
      have hc := cut_le s [13, 10]
      simp only at h
      split at h
      · cases h; omega
      · rename_i hn
        cases hl : lineOf out (Lib.cut s [13, 10]).1 with
        | none => rw [hl] at h; cases h
        | some o2 =>
          rw [hl] at h
          simp only at h
          have ih := readHF_weight k _ _ _ _ h
          have h1 : (Lib.cut s [13, 10]).1 ≠ [] := fun e => by
            have h2 : (Lib.cut s [13, 10]).2.2 = true := by
              rw [cut_cutP] at e ⊢
              cases hcp : cutP [13, 10] s with
              | none => rw [hcp] at e; exact absurd e h0
              | some x => rfl
            exact hn ⟨e, h2⟩
          have := lineOf_weight h1 hl
          omega
theorem readH_weight {s r : Bs} {o : List Fld} (h : readH s = some (o, r)) : weight o ≤ s.length ∧ r.length ≤ s.length := by
  have := readHF_weight _ _ _ _ _ h
  simpa [weight] using this
theorem cleanF_weight : ∀ {l o : List Fld}, cleanF l = some o → weight o ≤ weight l
  | [], o, h => by cases h; exact Nat.le_refl _
  | f :: l, o, h => by
    unfold cleanF at h
    split at h
    · cases hc : cleanF l with
      | none => rw [hc] at h; cases h
      | some o2 =>
        rw [hc] at h
        cases h
        have := cleanF_weight hc
        have := trimS_le f.2 [32, 9]
        simp only [weight_cons]; omega
    · cases h
theorem unpackS_len {c : UInt8} {v n p v' n' p' : Nat} {o : Bs} (h : unpackS c v n p = some (o, v', n', p')) : o.length ≤ 3 := by
  unfold unpackS at h
  split at h
  · cases h; simp
  · cases hk : unpackK c n p with
    | none => rw [hk] at h; cases h
    | some x =>
      obtain ⟨k, q⟩ := x
      rw [hk] at h
      simp only [unpackE] at h
      split at h
      · cases h; simp
      · split at h
        · cases h
        · cases h; simp
theorem unpackL_len : ∀ (l : Bs) (v n p : Nat) (o : Bs), unpackL l v n p = some o → o.length ≤ 3 * l.length
  | [], v, n, p, o, h => by
    unfold unpackL at h
    split at h
    · cases h
    · cases h; simp
  | c :: l, v, n, p, o, h => by
    unfold unpackL at h
    cases hs : unpackS c v n p with
    | none => rw [hs] at h; cases h
    | some x =>
      obtain ⟨o1, v', n', p'⟩ := x
      rw [hs] at h
      simp only [Option.map_eq_some_iff] at h
      obtain ⟨o2, h1, rfl⟩ := h
      have := unpackS_len hs
      have := unpackL_len l _ _ _ _ h1
      simp; omega
theorem unqF_len : ∀ (k : Nat) (x o : Bs), unqF k x = some o → o.length ≤ x.length
  | _, [], o, h => by simp [unqF] at h; simp [h]
  | 0, c :: l, o, h => by simp [unqF] at h
  | k + 1, c :: l, o, h => by
    unfold unqF at h
    cases hs : unqS (c :: l) with
    | none => rw [hs] at h; cases h
    | some r =>
      obtain ⟨d, y⟩ := r
      rw [hs] at h
      simp only [Option.map_eq_some_iff] at h
      obtain ⟨o2, h1, rfl⟩ := h
      have := unqS_lt hs
      have := unqF_len k y _ h1
      simp at *; omega
theorem unqLines_len : ∀ (ls : List Bs) (o : Bs), unqLines ls = some o → o.length ≤ sumLen ls + 2 * ls.length
  | [], o, h => by cases h; simp
  | x :: xs, o, h => by
    unfold unqLines at h
    cases hl : unqL (bareOf x) with
    | none => rw [hl] at h; cases h
    | some a =>
      rw [hl] at h
      simp only [Option.map_eq_some_iff] at h
      obtain ⟨o2, h1, rfl⟩ := h
      have h2 := unqF_len _ _ _ hl
      have h3 := bareOf_le x
      have h4 := unqLines_len xs _ h1
      have e : sumLen (x :: xs) = x.length + sumLen xs := by simp [sumLen]
      rw [e]
      simp only [List.length_append, List.length_cons]
      split <;> simp <;> omega
theorem splitK_sum (p : Bs) : ∀ (n : Nat) (s : Bs), sumLen (Lib.splitK p 0 n s) ≤ s.length
  | 0, s => by simp [Lib.splitK, sumLen]
  | n + 1, s => by
    unfold Lib.splitK
    split
    · simp [sumLen]
    · have h := splitK_sum p n
      simp only [sumLen, List.map_cons, List.sum_cons]
      refine Nat.le_trans (Nat.add_le_add_left (h _) _) ?_
      simp; omega
theorem decodeF_len {l : List Fld} {s o : Bs} (h : decodeF l s = .ok o) : o.length ≤ 3 * s.length + 2 := by
  unfold decodeF at h
  cases hg : getF l cteN with
  | none => rw [hg] at h; cases h; omega
  | some v =>
    rw [hg] at h
    simp only at h
    split at h
    · cases h; omega
    · split at h
      · cases hu : unpackT s with
        | none => rw [hu] at h; cases h
        | some x => rw [hu] at h; cases h; have := unpackL_len _ _ _ _ _ hu; omega
      · split at h
        · cases hu : unquoteT s with
          | none => rw [hu] at h; cases h
          | some x =>
            rw [hu] at h; cases h
            have h1 := unqLines_len _ _ hu
            have h2 : sumLen (Lib.split s [13, 10]) ≤ s.length := splitK_sum _ _ _
            have h3 : (Lib.split s [13, 10]).length = Lib.count s [13, 10] + 1 := split_len _ _ (by decide)
            have h4 := count_le s [13, 10] (by decide)
            omega
        · cases h
end Go.Proofs.YtignjjnflcpiiaaGreatDoor
