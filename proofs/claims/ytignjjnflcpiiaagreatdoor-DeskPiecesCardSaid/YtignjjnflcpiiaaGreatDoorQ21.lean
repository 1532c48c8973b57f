/- (part.writer).write of a part with parts. Condition: what the variables hold; so much in the part; part.Write. Condition: what the variables hold; so much in the part; How much a part that was read can have. No program, no condition. -/
import Derived.Test.YtignjjnflcpiiaaGreatDoorQ20
namespace Go.Proofs.YtignjjnflcpiiaaGreatDoor
open Go Go.RowKit
theorem partW_two (d lf : Nat) (h : List Fld) (body : Bs) (ps : List Prt) : partW (d + 1) (lf + 1) (.mk h body true ps) = if rightF h = false then .error 1 else match boundF h with
    | none => .error 1
    | some ob => if ob.isSome = false then .error 1 else if body ≠ [] then .error 1 else match eachR (partW d) lf ps with
      | .error e => .error e
      | .ok (l, n) => match manyW h l with
        | none => .error 1
        | some s => .ok (s, n) := by
  conv => lhs; unfold partW
  split
  · rfl
  · cases boundF h with
    | none => rfl
    | some ob => cases ob <;> cases body <;> rfl
theorem OwnG.grown {α : Type} {e size : Nat} {cs : α → List Value} {w w' : World} {B : Nat} {v : Value} {xs : List α} {row : Option Nat} (h : OwnG e size cs w B v xs) (hg : w.grownBy w' row) (hne : ∀ g, v.ownBlock = some g → row ≠ some g) : OwnG e size cs w' B v xs :=
  World.ownsRow.kept h hg (by
    cases hv : v.ownBlock with
    | none => exact Or.inl rfl
    | some g => exact Or.inr (fun e => hne g hv e.symm))
theorem strC_flat (xs : List Bs) : xs.flatMap strC = xs.map fun x => Value.string ⟨x.toArray⟩ := by
  induction xs with
  | nil => rfl
  | cons x xs ih => rw [List.flatMap_cons, List.map_cons, ih]; rfl
theorem OwnS.nextO {w w' : World} {B lb : Nat} {v : Value} {xs : List Bs} (h : OwnS w B v xs) (hb : BelowO lb w.heap.size w w') (hl : lb < B) : OwnS w' B v xs := by
  have h4 := OwnG.nextO (OwnS.t h) hb hl
  unfold OwnG at h4
  rw [strC_flat] at h4
  exact h4
theorem OwnS.setO {w : World} {B : Nat} {v : Value} {xs : List Bs} (h : OwnS w B v xs) {a : Go.Addr} (ha : a.block < B) (u : Value) : OwnS (w.setCell a u) B v xs := by
  have h4 := OwnG.setO (OwnS.t h) ha u
  unfold OwnG at h4
  rw [strC_flat] at h4
  exact h4
theorem renF_go {l : List Fld} {b : Bs} {k : Nat} (hk : k < l.length) (h : (lowS l[k].1 == lowS ctN) = false) (hs : renF l b = l.take k ++ renF (l.drop k) b) : renF l b = l.take (k + 1) ++ renF (l.drop (k + 1)) b := by
  rw [hs, List.drop_eq_getElem_cons hk]
  conv => lhs; rw [renF, if_neg (by simpa using h)]
  rw [List.take_succ_eq_append_getElem hk, List.append_assoc]
  rfl
theorem renF_hit {l : List Fld} {b : Bs} {k : Nat} (hk : k < l.length) (h : (lowS l[k].1 == lowS ctN) = true) (hs : renF l b = l.take k ++ renF (l.drop k) b) : renF l b = l.set k ((l[k]).1, renameF (l[k]).2 b) := by
  rw [hs, List.drop_eq_getElem_cons hk]
  conv => lhs; rw [renF, if_pos (by simpa using h)]
  rw [List.set_eq_take_append_cons_drop, if_pos hk]
theorem sum_snoc {qs : List Bs} {s : Bs} {lf n m : Nat} (h1 : sumLen qs ≤ (lf - n) * 100000000) (h2 : s.length ≤ (n - m) * 100000000) (h3 : m < n) (h4 : n ≤ lf) : sumLen (qs ++ [s]) ≤ (lf - m) * 100000000 := by
  have e : sumLen (qs ++ [s]) = sumLen qs + s.length := by simp [sumLen]
  have e2 : (lf - n) * 100000000 + (n - m) * 100000000 = (lf - m) * 100000000 := by rw [← Nat.add_mul]; congr 1; omega
  omega
set_option maxHeartbeats 16000000 in
set_option maxRecDepth 100000 in
theorem pwrite_two (d lf n0 : Nat) (ha pa : Option Go.Addr) (hc pc : Nat) (h : List Fld) (body : Bs) (ps : List Prt) (raws : List PRaw) (wb : Nat) (dp li : Int) (w : World) (hdp : Hid (dp = 5 - ((d + 1 : Nat) : Int))) (hd4 : d + 1 ≤ 4) (hli : Hid (li = ((lf + 1 : Nat) : Int))) (hl : lf + 1 ≤ 40) (hg : Gz w) (hml : 8 < wb) (hb : Blk w wb #[.int .i64 li] 172)
    (hrB : RdB 2 fldC (fun b => b ≠ wb) w (.slice ha h.length hc) h) (hhw : weight h ≤ 120000) (hpl : ps.length ≤ 1000000)
    (hrP : RdB 4 prtC (fun b => b ≠ wb) w (.slice pa ps.length pc) raws) (hrl : raws.length = ps.length) (hch : Hid (∀ k (h1 : k < raws.length) (h2 : k < ps.length), RdPrt (fun b => b ≠ wb) n0 w raws[k] ps[k])) (hin : Hid (∀ p ∈ ps, PrtIn n0 p))
    (ih : ∀ (left : Nat) (raw : PRaw) (p : Prt) (dp li : Int) (w : World), Hid (dp = 5 - (d : Int)) → Hid (li = (left : Int)) → left ≤ 40 → Gz w → Blk w wb #[.int .i64 li] 172 → RdPrt (fun b => b ≠ wb) n0 w raw p → PrtIn n0 p →
      Calls Tryz.prog 106 #[.pointer (some ⟨wb, 0, none⟩), prtV raw, .int .i64 dp] w fun e w' => WriteOr wb left (partW d left p) e w' ∧ BelowO wb w.heap.size w w') :
    Calls Tryz.prog 106 #[.pointer (some ⟨wb, 0, none⟩), .agg #[.slice ha h.length hc, .string ⟨body.toArray⟩, .bool true, .slice pa ps.length pc], .int .i64 dp] w fun e w' => WriteOr wb (lf + 1) (partW (d + 1) (lf + 1) (.mk h body true ps)) e w' ∧ BelowO wb w.heap.size w w' := by
  have HP := Lib.hid (partW_two d lf h body ps)
  have hl0 : 1 ≤ li ∧ li ≤ 40 := by have := hli.out; omega
  have hdp1 : 1 ≤ dp ∧ dp ≤ 4 := by have := hdp.out; omega
  have hli1 := Lib.hid (show li - 1 = (lf : Int) from by have := hli.out; omega)
  have kc := hb.cell 0
  have kf := hb.free 0
  have kcs : (w.setCell ⟨wb, 0, none⟩ (.int .i64 (li - 1))).cell? ⟨wb, 0, none⟩ = some (.int .i64 (li - 1)) := (hb.set 0 _).cell 0
  have hlb := hb.lt
  have hne : w.heap.size ≠ wb := by omega
  have BO : BelowO wb w.heap.size w (w.setCell ⟨wb, 0, none⟩ (.int .i64 (li - 1))) := (BelowO.refl _ _ _).set _
  have h0 : ¬ li - 1 < 0 := by omega
  have BA := (Below.refl (w.setCell ⟨wb, 0, none⟩ (.int .i64 (li - 1))).heap.size (w.setCell ⟨wb, 0, none⟩ (.int .i64 (li - 1)))).alloc (Nat.le_refl _) (.cells #[.slice ha h.length hc, .string ⟨body.toArray⟩, .bool true, .slice pa ps.length pc] 44)
  have hkl : Blk (w.setCell ⟨wb, 0, none⟩ (.int .i64 (li - 1))) wb #[.int .i64 (li - 1)] 172 := hb.set 0 _
  have hkl := hkl.next BA hkl.lt
  have hkp := Blk.new (w.setCell ⟨wb, 0, none⟩ (.int .i64 (li - 1))) #[.slice ha h.length hc, .string ⟨body.toArray⟩, .bool true, .slice pa ps.length pc] 44
  rw [World.size_setCell] at hkp
  have BO1 := BO.next BA (by simp)
  have hrB := (hrB.set (a := ⟨wb, 0, none⟩) (.int .i64 (li - 1)) (fun h => h rfl)).next BA
  have hg1 := hg.nextO BO1 hml
  have hsz : ((w.setCell ⟨wb, 0, none⟩ (.int .i64 (li - 1))).alloc (.cells #[.slice ha h.length hc, .string ⟨body.toArray⟩, .bool true, .slice pa ps.length pc] 44)).heap.size = w.heap.size + 1 := by simp
  have hn6 := (weight_n hhw).mono (m := 1000000) (by decide)
  have hR := right_fields _ h _ hrB.rd (hn6.ok (by decide))
  generalize hrf : rightF h = rf at hR HP
  clear hrf BO BA hg hb
  go_enter Tryz.func106, Tryz.ntmps106
  go_wp2_with fail
  generalize World.alloc _ _ = W1 at hkl hkp BO1 hrB hg1 hsz hR ⊢
  clear kc kf kcs h0
  have kp := hkp.cell
  with_reducible refine hR.mono ?_
  rintro e w2 ⟨rfl, b2⟩
  have hkl := hkl.next b2 hkl.lt
  have hkp := hkp.next b2 hkp.lt
  have hrB := hrB.next b2
  have hg2 := hg1.next b2
  have B2 := BO1.next b2 BO1.size
  have hs2 := b2.size
  clear hR b2 hg1 BO1 kp
  cases rf with
  | false =>
    have HN := Lib.hid (show partW (d + 1) (lf + 1) (.mk h body true ps) = .error 1 from HP.out)
    clear HP
    go_wp2_with fail
    go_ret2
    exact ⟨Or.inr ⟨1, _, _, HN.out, rfl, Or.inl rfl⟩, B2⟩
  | true =>
  have HP := Lib.hid (show partW (d + 1) (lf + 1) (.mk h body true ps) = match boundF h with
    | none => .error 1
    | some ob => if ob.isSome = false then .error 1 else if body ≠ [] then .error 1 else match eachR (partW d) lf ps with
      | .error e => .error e
      | .ok (l, n) => match manyW h l with
        | none => .error 1
        | some s => .ok (s, n) from HP.out)
  have hB := bound_any _ h w2 hrB.rd hn6 hg2.r
  generalize boundF h = rb at hB HP
  have kp := hkp.cell
  go_wp2_with fail
  with_reducible refine hB.mono ?_
  rintro e w3 ⟨hh, b3⟩
  have hkl := hkl.next b3 hkl.lt
  have hkp := hkp.next b3 hkp.lt
  have hrB := hrB.next b3
  have hg3 := hg2.next b3
  have B3 := B2.next b3 B2.size
  have hs3 := b3.size
  have kp := hkp.cell
  clear hB b3 hg2 B2
  rcases hh with ⟨b0, rfl, rfl⟩ | ⟨rfl, rfl⟩ | ⟨rfl, rfl⟩
  case inr.inl =>
    have HN := Lib.hid (show partW (d + 1) (lf + 1) (.mk h body true ps) = .error 1 from HP.out)
    clear HP
    go_wp2_with fail
    go_ret2
    exact ⟨Or.inr ⟨1, _, _, HN.out, rfl, Or.inl rfl⟩, B3⟩
  case inr.inr =>
    have HN := Lib.hid (show partW (d + 1) (lf + 1) (.mk h body true ps) = .error 1 from HP.out)
    clear HP
    go_wp2_with fail
    go_ret2
    exact ⟨Or.inr ⟨1, _, _, HN.out, rfl, Or.inl rfl⟩, B3⟩
  by_cases h0 : body = []
  case neg =>
    have HN := Lib.hid (show partW (d + 1) (lf + 1) (.mk h body true ps) = .error 1 from by rw [HP.out]; simp [h0])
    have h1 : body.isEmpty = false := by rw [Bool.eq_false_iff]; simpa using h0
    clear HP h0
    go_wp2_with fail
    go_ret2
    exact ⟨Or.inr ⟨1, _, _, HN.out, rfl, Or.inl rfl⟩, B3⟩
  subst h0
  have HP := Lib.hid (show ∀ r, eachR (partW d) lf ps = r → partW (d + 1) (lf + 1) (.mk h [] true ps) = match r with
      | .error e => .error e
      | .ok (l, n) => match manyW h l with
        | none => .error 1
        | some s => .ok (s, n) from fun r hr => by rw [← hr, HP.out]; simp)
  have hCl := clone_any _ h w3 hrB.rd (by have := hn6.1; omega)
  go_wp2_with fail
  with_reducible refine hCl.mono ?_
  rintro e w4 ⟨v4, rfl, hown, b4⟩
  have hkl := hkl.next b4 hkl.lt
  have hkp := hkp.next b4 hkp.lt
  have hg4 := hg3.next b4
  have B4 := B3.next b4 B3.size
  have hD := delete_any2 v4 h w3.heap.size w4 hown (hn6.ok (by decide)) hg4.r (by have := hg3.size; omega) b4.size
  have hlt1 := hkp.lt
  have hs4 := b4.size
  clear hCl b4 hown
  go_wp2_with fail
  with_reducible refine hD.mono ?_
  rintro e w5 ⟨v5, rfl, hown, b5⟩
  have hkl := hkl.next b5 (by omega)
  have hkp := hkp.next b5 (by omega)
  have hg5 : Gz w5 := hg4.keep fun b hle => b5.block b (by have := hg3.size; omega)
  have B5 : BelowO wb w.heap.size w w5 := B4.trans (BelowO.of (b5.mono (by omega)))
  have hs5 := b5.size
  have kp := hkp.cell
  have hlt5 := OwnG.own_lt hown
  have hdw := delF_weight h
  rw [hli1.out] at hkl
  clear hD b5 hg4 B4 hrB
  go_wp2_with fail
  go_loopw [14, 105] (fun vp iv wr => ∃ (k n : Nat) (qs : List Bs), iv = .int .i64 k ∧ k ≤ ps.length ∧ qs.length = k ∧ n + qs.length ≤ lf ∧ sumLen qs ≤ (lf - n) * 100000000 ∧ OwnS wr w5.heap.size vp qs ∧ Hid (∀ x ∈ qs, x.length ≤ 3900000000) ∧ Hid (addR qs (eachR (partW d) n (ps.drop k)) = eachR (partW d) lf ps) ∧ Blk wr wb #[.int .i64 (n : Int)] 172 ∧ OwnF wr w3.heap.size v5 (delF h) ∧ Gz wr ∧ BelowO wb w.heap.size w wr ∧ w5.heap.size ≤ wr.heap.size) (fun _ iv _ => ps.length - (intOf iv).toNat)
  case atStart => exact ⟨0, lf, [], rfl, by omega, rfl, by simp, by simp [sumLen], World.ownsRow_nil _ _ _ _, Lib.hid (by simp), Lib.hid (by rw [List.drop_zero, addR_nil]), hkl, hown, hg5, B5, Nat.le_refl _⟩
  case round =>
    clear hkl hown hg5 B5 kp hkp
    obtain ⟨k, n, qs, rfl, hk, hql, hnq, hqs, hownp, HX, Hall, hkl, hown, hgr, B, hwr⟩ := hrel
    by_cases hlt : k < ps.length
    · obtain ⟨pb, rfl, hpb, hpb2, hcell⟩ := hrP.at prtC_len k (by omega)
      have hq1 := (hch.out k (by omega) hlt).nextO B (by simp)
      have hq2 := hin.out _ (List.getElem_mem hlt)
      have c0 := (B.cell (p := ⟨pb, k * 4 + 0, none⟩) hpb2 hpb).trans (hcell 0 (by decide))
      have c1 := (B.cell (p := ⟨pb, k * 4 + 1, none⟩) hpb2 hpb).trans (hcell 1 (by decide))
      have c2 := (B.cell (p := ⟨pb, k * 4 + 2, none⟩) hpb2 hpb).trans (hcell 2 (by decide))
      have c3 := (B.cell (p := ⟨pb, k * 4 + 3, none⟩) hpb2 hpb).trans (hcell 3 (by decide))
      have HE := Lib.hid (fun c (h : partW d n ps[k] = .error c) => eachR_err hlt h qs)
      have HO := Lib.hid (fun y m (h : partW d n ps[k] = .ok (y, m)) => eachR_ok hlt h qs)
      clear hcell
      generalize ps[k] = p at hq1 hq2 HE HO
      generalize raws[k]'(by omega) = raw at hq1 c0 c1 c2 c3
      have hI := fun W h1 h2 h3 => ih n raw p (dp + 1) n W (Lib.hid (by have := hdp.out; omega)) (Lib.hid rfl) (by omega) h1 h2 h3 hq2
      obtain ⟨⟨ra, rn, rcp⟩, rb, rm, ⟨ra', rn', rcp'⟩⟩ := raw
      simp only [prtV, slv, prtC, Nat.add_zero, List.getElem?_cons_zero, List.getElem?_cons_succ] at c0 c1 c2 c3 hI
      have kt := Blk.new wr #[.slice ra rn rcp, .string ⟨rb.toArray⟩, .bool rm, .slice ra' rn' rcp'] 44
      have BA := (Below.refl wr.heap.size wr).alloc (Nat.le_refl _) (.cells #[.slice ra rn rcp, .string ⟨rb.toArray⟩, .bool rm, .slice ra' rn' rcp'] 44)
      have hkl := hkl.next BA hkl.lt
      have hown := OwnG.next hown BA
      have hownp := rowNext hownp BA
      have hg1 := hgr.next BA
      have B1 := B.next BA B.size
      have hI := hI _ hg1 hkl (hq1.next BA)
      have hsz1 : (wr.alloc (.cells #[.slice ra rn rcp, .string ⟨rb.toArray⟩, .bool rm, .slice ra' rn' rcp'] 44)).heap.size = wr.heap.size + 1 := by simp
      generalize partW d n p = rx at hI HE HO
      have ktc := kt.cell
      clear BA hgr B hq1 hq2 hkl
      go_wp2_with fail
      generalize World.alloc _ _ = W1 at hown hownp hg1 B1 hI hsz1 ktc kt ⊢
      with_reducible refine hI.mono ?_
      rintro e w8 ⟨hh, bo8⟩
      have hs8 := bo8.size
      have hown := hown.nextO bo8 (by omega)
      have hownp := OwnS.nextO hownp bo8 (by omega)
      have hg8 := hg1.nextO bo8 hml
      have B8 := B1.trans (bo8.mono (by omega))
      clear hI c0 c1 c2 c3 hg1 B1 kt ktc
      rcases hh with ⟨s, m, rfl, hm, hsl, rfl, hkl⟩ | ⟨c, s, v, rfl, rfl, hv⟩
      case inr =>
        have HN := Lib.hid (show partW (d + 1) (lf + 1) (.mk h [] true ps) = .error c from HP.out _ (Hall.out.symm.trans (HE.out c rfl)))
        obtain ⟨t, x, rfl⟩ := hv.some
        clear HE HO Hall HP
        go_wp2_with fail
        go_ret2
        exact ⟨Or.inr ⟨c, _, _, HN.out, rfl, hv⟩, B8⟩
      have HN := Lib.hid (Eq.trans (HO.out s m rfl).symm Hall.out)
      have hs39 : s.length ≤ 3900000000 := by
        have : (n - m) * 100000000 ≤ 39 * 100000000 := Nat.mul_le_mul_right _ (by omega)
        omega
      have HX2 := Lib.hid (show ∀ x ∈ qs ++ [s], x.length ≤ 3900000000 from fun x hx => by
        rcases List.mem_append.1 hx with hx | hx
        · exact HX.out x hx
        · simp at hx; rw [hx]; exact hs39)
      have hgo2 := OwnG.own_ge (OwnS.t hownp)
      clear HE HO Hall
      go_wp2_with (at_builtin; refine appS rfl _ _ rfl w5.heap.size _ qs s w8.heap.size rfl (World.ownsRow.alloc hownp _) rfl (cellS1 _ _ _) (by omega) (by simp; omega) ?_; intro v' w9 hownp9 hg9 hb9)
      have BA := (Below.refl w8.heap.size w8).alloc (Nat.le_refl _) (.cells #[.string ⟨s.toArray⟩] 9)
      have hkl := (hkl.next BA hkl.lt).next hb9 (by omega)
      have hown := (OwnG.next hown BA).grown hg9 (fun g hg e => by have h1 := hlt5 g hg; have h2 := hgo2 g e; omega)
      have hg10 : Gz w9 := (hg8.next BA).keep fun b hle => hb9.block b (by have := hg3.size; omega)
      have B9 : BelowO wb w.heap.size w w9 := (B8.next BA B8.size).trans (BelowO.of (hb9.mono (by omega)))
      have hs9 := hb9.size
      rw [World.size_alloc] at hs9
      clear BA hgo2 hg9 hb9 hownp
      go_wp2_with fail
      go_roundw
      case rel => exact ⟨k + 1, m, qs ++ [s], by go_num, by omega, by simp; omega, by simp; omega, sum_snoc hqs hsl (by omega) (by omega), hownp9, HX2, HN, hkl, hown, hg10, B9, by omega⟩
      case measure => simp [intOf]; omega
    · obtain rfl : k = ps.length := by omega
      have HP := Lib.hid (show partW (d + 1) (lf + 1) (.mk h [] true ps) = match manyW h qs with
        | none => .error 1
        | some s => .ok (s, n) from HP.out _ (Hall.out.symm.trans (eachR_end qs)))
      have hq6 : qs.length ≤ 1000000 := by omega
      clear Hall hch hin hrP hql
      have HMW := Lib.hid (show manyW h qs = (writeH (renF (delF h) (chooseT qs))).map (· ++ (piecesT (chooseT qs) qs ++ 45 :: 45 :: (chooseT qs ++ [45, 45, 13, 10]))) from rfl)
      have hCh := choose_any _ qs wr (OwnG.rd (by decide) strC_len (OwnS.t hownp)) (by omega) (fun x hx => Nat.le_trans (HX.out x hx) (by decide)) hgr
      have hbl := chooseT_len qs (by omega) (fun x hx => Nat.le_trans (HX.out x hx) (by decide))
      obtain ⟨ua, uc, hvp⟩ := OwnS.shape hownp
      subst hvp
      generalize chooseT qs = b at hCh hbl HMW
      go_wp2_with fail
      with_reducible refine hCh.mono ?_
      rintro e w6 ⟨rfl, b6⟩
      have hkl := hkl.next b6 hkl.lt
      have hown := OwnG.next hown b6
      have hownp := rowNext hownp b6
      have hg6 := hgr.next b6
      have B6 := B.next b6 B.size
      have hw6 := b6.size
      have hlL := weight_len (delF h)
      have HS0 := Lib.hid (show renF (delF h) b = (delF h).take 0 ++ renF ((delF h).drop 0) b from by simp)
      have HLN := Lib.hid ((weight_n (Nat.le_trans hdw hhw)).mono (m := 1000000) (by decide)).2
      have hrw := renF_weight b (delF h)
      clear hCh b6 hgr B
      generalize hLd : delF h = L at hown HS0 HLN HMW hlL hdw hrw
      have hLd := Lib.hid hLd
      obtain ⟨la, lc, hv5⟩ : ∃ a c, v5 = .slice a L.length c := by
        obtain ⟨a, c, h, _⟩ := OwnG.rd (by decide) fldC_len hown
        exact ⟨a, c, h⟩
      subst hv5
      go_upto_block 2 with fail
      go_cut [20] (fun _ wx => OwnF wx w3.heap.size (.slice la L.length lc) (renF L b) ∧ OwnS wx w5.heap.size (.slice ua qs.length uc) qs ∧ Gz wx ∧ Blk wx wb #[.int .i64 (n : Int)] 172 ∧ BelowO wb w.heap.size w wx)
      case first =>
        clear HP HMW HX hqs hnq hrw
        go_wp2_with fail
        go_loopw [129] (fun iv wr => ∃ k : Nat, iv = .int .i64 k ∧ k ≤ L.length ∧ OwnF wr w3.heap.size (.slice la L.length lc) L ∧ OwnS wr w5.heap.size (.slice ua qs.length uc) qs ∧ Hid (renF L b = L.take k ++ renF (L.drop k) b) ∧ Gz wr ∧ Blk wr wb #[.int .i64 (n : Int)] 172 ∧ BelowO wb w.heap.size w wr ∧ w5.heap.size ≤ wr.heap.size) (fun iv _ => L.length - (intOf iv).toNat)
        case atStart => exact ⟨0, rfl, by omega, hown, hownp, HS0, hg6, hkl, B6, by omega⟩
        case round =>
          clear hown hownp HS0 hg6 hkl B6
          obtain ⟨k, rfl, hk, hown, hownp, HS, hgr, hkl, B, hwr⟩ := hrel
          by_cases hlt : k < L.length
          · obtain ⟨g, hla⟩ : ∃ g, la = some ⟨g, 0, none⟩ := by
              obtain ⟨a, c, h, h2⟩ := RdF.open (OwnG.rd (by decide) fldC_len hown)
              injection h with h _ _
              obtain ⟨b, h3, _⟩ := h2 k hlt
              exact ⟨b, h.trans h3⟩
            subst hla
            have c1 := OwnG.cellAt fldC_len hown k hlt 0 (by decide)
            have hge := OwnG.own_ge hown g rfl
            have hlg := OwnG.own_lt hown g rfl
            have hf := HLN.out _ (List.getElem_mem hlt)
            have HG := Lib.hid (fun h => renF_go (b := b) hlt h HS.out)
            have HH := Lib.hid (fun h => renF_hit (b := b) hlt h HS.out)
            have HC2 := Lib.hid (show ∀ W, OwnF W w3.heap.size (.slice (some ⟨g, 0, none⟩) L.length lc) L → W.cell? ⟨g, k * 2 + 1, none⟩ = some (.string ⟨((L[k]).2).toArray⟩) from fun W h => OwnG.cellAt fldC_len h k hlt 1 (by decide))
            have HSV := Lib.hid (fun (W : World) (y : Bs) (h : OwnF W w3.heap.size (.slice (some ⟨g, 0, none⟩) L.length lc) L) => OwnG.setV h k hlt y)
            simp only [fldC, Nat.add_zero, List.getElem?_cons_zero] at c1
            generalize L[k] = f at c1 hf HG HH HC2 HSV
            obtain ⟨x, y⟩ := f
            simp only at c1 hf HG HH HC2 HSV
            have c0 : wr.cell? ⟨2, 0, none⟩ = some (.string ⟨#[67, 111, 110, 116, 101, 110, 116, 45, 84, 121, 112, 101]⟩) := hgr.r.ours 0 (by decide)
            have hS1 := fun W => small_any x W (by omega)
            have hS2 := fun W => small_any [67, 111, 110, 116, 101, 110, 116, 45, 84, 121, 112, 101] W (by decide)
            have HCT := Lib.hid (show lowS [67, 111, 110, 116, 101, 110, 116, 45, 84, 121, 112, 101] = lowS ctN from rfl)
            have hc0 : 2 < wr.heap.size := by have := hgr.size; omega
            have i0 : (0 : Int) ≤ k := by omega
            have i1 : (k : Int) < L.length := by omega
            go_upto_region 28 with fail
            go_cut [141] (fun t wx => t = .bool (lowS x == lowS ctN) ∧ Below wr.heap.size wr wx)
            case first =>
              clear HG HH HC2 HSV HS HLN
              generalize hlx : lowS x = lx at hS1
              have HLX := Lib.hid hlx
              generalize hly : lowS [67, 111, 110, 116, 101, 110, 116, 45, 84, 121, 112, 101] = ly at hS2 HCT
              clear hlx hly
              have c1d : wr.drew.cell? ⟨g, k * 2, none⟩ = some (.string ⟨x.toArray⟩) := c1
              have c0d : wr.drew.cell? ⟨2, 0, none⟩ = some (.string ⟨#[67, 111, 110, 116, 101, 110, 116, 45, 84, 121, 112, 101]⟩) := c0
              have K0 := (Below.refl wr.heap.size wr).drew
              go_region_held3 (fun W => W.cell? ⟨g, k * 2, none⟩ = some (.string ⟨x.toArray⟩) ∧ W.cell? ⟨2, 0, none⟩ = some (.string ⟨#[67, 111, 110, 116, 101, 110, 116, 45, 84, 121, 112, 101]⟩) ∧ Below wr.heap.size wr W)
                (first
                  | with_reducible exact ⟨c1d, c0d, K0⟩
                  | with_reducible exact ⟨(K.cell (p := ⟨g, k * 2, none⟩) hlg).trans c1, (K.cell (p := ⟨2, 0, none⟩) hc0).trans c0, K⟩)
                ((first
                  | (go_at_call 42; go_split_ands; with_reducible refine (hS1 _).mono ?_; rintro e w10 ⟨rfl, hb⟩; have K := belowStep hb (w0 := wr) (by assumption))
                  | (go_at_call 42; go_split_ands; with_reducible refine (hS2 _).mono ?_; rintro e w10 ⟨rfl, hb⟩; have K := belowStep hb (w0 := wr) (by assumption))))
              all_goals go_split_ands
              all_goals
                go_wp2_with fail
                go_meet
                exact ⟨by rw [HLX.out, ← HCT.out], by assumption⟩
            case rest =>
            obtain ⟨rfl, b7⟩ := hcut
            obtain ⟨w7, rfl⟩ : ∃ x : World, x = wc := ⟨_, rfl⟩
            have hown := OwnG.next hown b7
            have hownp := rowNext hownp b7
            have hkl := hkl.next b7 hkl.lt
            have hg7 := hgr.next b7
            have B7 := B.next b7 B.size
            have hw7 := b7.size
            clear hS1 hS2 HCT c0 c1 b7 hgr B
            generalize (lowS x == lowS ctN) = hit at HG HH ⊢
            cases hit with
            | false =>
              have HGT := Lib.hid (HG.out rfl)
              clear HH HS HG
              go_wp2_with fail
              go_roundw
              case rel => exact ⟨k + 1, by go_num, by omega, hown, hownp, HGT, hg7, hkl, B7, by omega⟩
              case measure => simp [intOf]; omega
            | true =>
              have HHT := Lib.hid (HH.out rfl)
              have hRn := rename_any y b w7 hf.2 (by omega) hg7.r
              have c2 := HC2.out w7 hown
              clear HG HS HC2 HH
              go_wp2_with fail
              with_reducible refine hRn.mono ?_
              rintro e w8 ⟨rfl, b8⟩
              have hown := OwnG.next hown b8
              have hownp := rowNext hownp b8
              have hkl := hkl.next b8 hkl.lt
              have hg8 := hg7.next b8
              have B8 := B7.next b8 B7.size
              have hfr := OwnG.free hown
              have hst := HSV.out w8 (renameF y b) hown
              rw [← HHT.out] at hst
              have c3 := OwnG.cellAt fldC_len hown k hlt 1 (by decide)
              simp only [fldC, List.getElem?_cons_zero, List.getElem?_cons_succ] at c3
              have hkl := hkl.setO (a := ⟨g, k * 2 + 1, none⟩) (by simp only; omega) (.string ⟨(renameF y b).toArray⟩)
              have hg9 : Gz (w8.setCell ⟨g, k * 2 + 1, none⟩ (.string ⟨(renameF y b).toArray⟩)) := hg8.keep fun c hc => heap_set _ _ _ c (by have := hg3.size; simp only; omega)
              have B9 := B8.own (p := ⟨g, k * 2 + 1, none⟩) (by simp only; omega) (.string ⟨(renameF y b).toArray⟩)
              have hlt5g := hlt5 g rfl
              have hownp : OwnS (w8.setCell ⟨g, k * 2 + 1, none⟩ (.string ⟨(renameF y b).toArray⟩)) w5.heap.size (.slice ua qs.length uc) qs := OwnS.setO hownp (by simp only; omega) _
              clear hRn c2 b8 hown hg8 B8 HSV
              go_wp2_with fail
              go_meet
              exact ⟨hst, hownp, hg9, hkl, B9⟩
          · obtain rfl : k = L.length := by omega
            have HH := Lib.hid (show renF L b = L from by rw [HS.out, List.take_length, List.drop_length]; simp [renF])
            clear HS
            go_wp2_with fail
            go_meet
            exact ⟨by rw [HH.out]; exact hown, hownp, hgr, hkl, B⟩
      case rest =>
      obtain ⟨hown, hownp, hg7, hkl, B7⟩ := hcut
      obtain ⟨w7, rfl⟩ : ∃ x : World, x = wc := ⟨_, rfl⟩
      have hpB := OwnG.rdB (by decide) strC_len (OwnS.t hownp)
      have hqs39 : sumLen qs ≤ 3900000000 := by
        have : (lf - n) * 100000000 ≤ 39 * 100000000 := Nat.mul_le_mul_right _ (by omega)
        omega
      have hq39 : qs.length ≤ 39 := by omega
      have HPL := Lib.hid (show ∀ k, (piecesT b (qs.take k)).length ≤ 5000000000 from fun k => by
        rw [piecesT_len]
        have h1 : sumLen (qs.take k) ≤ sumLen qs := by
          have e : sumLen qs = sumLen (qs.take k) + sumLen (qs.drop k) := by
            unfold sumLen
            rw [← List.sum_append, ← List.map_append, List.take_append_drop]
          omega
        have h2 : (qs.take k).length * (b.length + 6) ≤ 39 * 28 := Nat.mul_le_mul (by rw [List.length_take]; omega) (by omega)
        omega)
      have hW := writeHead_any _ _ w7 (OwnG.rd (by decide) fldC_len hown) ((weight_n (Nat.le_trans hrw (show _ ≤ 730000 by omega))).mono (m := 1000000) (by decide)).1 ((weight_n (Nat.le_trans hrw (show _ ≤ 730000 by omega))).mono (m := 1000000) (by decide)).2 hg7.r.g
      have hwl := fun o (h : writeH (renF L b) = some o) => writeH_len h
      clear hown hownp hg7
      generalize writeH (renF L b) = ro at hW hwl HMW
      go_wp2_with fail
      go_loop [12, 156] (fun tv iv => ∃ k : Nat, iv = .int .i64 k ∧ k ≤ qs.length ∧ tv = .string ⟨(piecesT b (qs.take k)).toArray⟩) (fun _ iv => qs.length - (intOf iv).toNat)
      case atStart => exact ⟨0, rfl, by omega, rfl⟩
      case round =>
        obtain ⟨k, rfl, hk, rfl⟩ := hrel
        have hp1 := HPL.out k
        by_cases hlt : k < qs.length
        · obtain ⟨pb, rfl, _, _, hcell⟩ := hpB.at strC_len k hlt
          have c0 : w7.cell? ⟨pb, k, none⟩ = some (.string ⟨(qs[k]).toArray⟩) := by have := hcell 0 (by decide); simpa [strC] using this
          have hx := HX.out _ (List.getElem_mem hlt)
          have HST := Lib.hid (show piecesT b (qs.take (k + 1)) = piecesT b (qs.take k) ++ 45 :: 45 :: (b ++ 13 :: 10 :: (qs[k] ++ [13, 10])) from by
            rw [List.take_succ_eq_append_getElem hlt]
            unfold piecesT
            rw [List.flatMap_append]
            simp)
          clear hcell
          generalize qs[k] = x at c0 hx HST
          generalize piecesT b (qs.take k) = pk at hp1 HST
          clear hW
          go_wp2_with fail
          go_round
          case rel => exact ⟨k + 1, by go_num, by omega, by rw [HST.out]; try simp⟩
          case measure => simp [intOf]; omega
        · obtain rfl : k = qs.length := by omega
          rw [List.take_length] at hp1 ⊢
          have hpl2 := piecesT_len b qs
          have hq28 : qs.length * (b.length + 6) ≤ 39 * 28 := Nat.mul_le_mul (by omega) (by omega)
          rw [hpl2] at hp1
          generalize hpt : piecesT b qs = pt at hpl2 HMW ⊢
          have HPT := Lib.hid hpt
          have hptl : pt.length ≤ sumLen qs + 39 * 28 := by omega
          clear hpt hpl2 hpB
          go_wp2_with fail
          with_reducible refine hW.mono ?_
          rintro e w8 ⟨hh, b8⟩
          have hkl := hkl.next b8 hkl.lt
          have B8 := B7.next b8 B7.size
          clear hW b8 B7
          rcases hh with ⟨o, rfl, rfl⟩ | ⟨v, rfl, rfl, hv⟩
          · have hol := hwl o rfl
            have HN := Lib.hid (show partW (d + 1) (lf + 1) (.mk h [] true ps) = .ok (o ++ (pt ++ 45 :: 45 :: (b ++ [45, 45, 13, 10])), n) from by rw [HP.out, HMW.out]; rfl)
            clear HP HMW hwl
            go_wp2_with fail
            go_ret2
            refine ⟨Or.inl ⟨_, _, HN.out, by omega, ?_, rfl, hkl⟩, B8⟩
            have e2 : (lf + 1 - n) * 100000000 = (lf - n) * 100000000 + 100000000 := by rw [show lf + 1 - n = (lf - n) + 1 by omega, Nat.succ_mul]
            rw [e2]
            simp only [List.length_append, List.length_cons, List.length_nil]
            omega
          · have HN := Lib.hid (show partW (d + 1) (lf + 1) (.mk h [] true ps) = .error 1 from by rw [HP.out, HMW.out]; rfl)
            obtain ⟨t, x, rfl⟩ := (hv.n (by decide)).some
            clear HP HMW hwl
            go_wp2_with fail
            go_ret2
            exact ⟨Or.inr ⟨1, _, _, HN.out, rfl, hv.n (by decide)⟩, B8⟩
theorem pwrite_any (wb : Nat) (hml : 8 < wb) (d : Nat) : ∀ (n0 left : Nat) (raw : PRaw) (p : Prt) (dp li : Int) (w : World), Hid (dp = 5 - (d : Int)) → d ≤ 4 → Hid (li = (left : Int)) → left ≤ 40 → Gz w → Blk w wb #[.int .i64 li] 172 → RdPrt (fun b => b ≠ wb) n0 w raw p → PrtIn n0 p →
      Calls Tryz.prog 106 #[.pointer (some ⟨wb, 0, none⟩), prtV raw, .int .i64 dp] w fun e w' => WriteOr wb left (partW d left p) e w' ∧ BelowO wb w.heap.size w w' := by
  induction d with
  | zero =>
    intro n0 left raw p dp li w hdp _ hli hl hg hb hr hp
    obtain ⟨⟨ha, hn, hc⟩, body, m, ⟨pa, pn, pc⟩⟩ := raw
    refine (pwrite_low ha pa hn hc pn pc body m wb dp li w hb (by have := hli.out; omega) (by have := hdp.out; omega) (Or.inl (by have := hdp.out; omega))).mono ?_
    rintro e w' ⟨rfl, h2⟩
    exact ⟨Or.inr ⟨4, _, _, rfl, rfl, Or.inl rfl⟩, h2⟩
  | succ d ih =>
    intro n0 left raw p dp li w hdp hd4 hli hl hg hb hr hp
    cases left with
    | zero =>
      obtain ⟨⟨ha, hn, hc⟩, body, m, ⟨pa, pn, pc⟩⟩ := raw
      refine (pwrite_low ha pa hn hc pn pc body m wb dp li w hb (by have := hli.out; omega) (by have := hdp.out; omega) (Or.inr (by have := hli.out; omega))).mono ?_
      rintro e w' ⟨rfl, h2⟩
      exact ⟨Or.inr ⟨4, _, _, rfl, rfl, Or.inl rfl⟩, h2⟩
    | succ lf =>
      cases n0 with
      | zero => exact hr.elim
      | succ n0 =>
        obtain ⟨h, b, m, ps⟩ := p
        obtain ⟨⟨ha, hn, hc⟩, body, m', ⟨pa, pn, pc⟩⟩ := raw
        obtain ⟨rfl, rfl, hrh, raws, hrp, hrl, hch⟩ := hr
        obtain ⟨hp1, hp2, hp3, hp4⟩ := hp
        have hhn : hn = h.length := by
          obtain ⟨a, c, e, _⟩ := hrh
          injection e
        have hpn : pn = ps.length := by
          obtain ⟨a, c, e, _⟩ := hrp
          injection e with _ e _
          exact e.trans hrl
        subst hhn hpn
        cases m' with
        | false => exact pwrite_one d lf ha pa hc pc h body ps wb dp li w hdp hd4 hli hl hg hml hb hrh hp1 hp2
        | true => exact pwrite_two d lf n0 ha pa hc pc h body ps raws wb dp li w hdp hd4 hli hl hg hml hb hrh hp1 hp3 hrp hrl (Lib.hid hch) (Lib.hid hp4) (fun left raw p dp li w a1 a2 a3 a4 a5 a6 a7 => ih n0 left raw p dp li w a1 (by omega) a2 a3 a4 a5 a6 a7)
def WrOr (r : Except Int Bs) (e : Ending) : Prop :=
  (∃ s, r = .ok s ∧ s.length ≤ 20000 ∧ e = .returned (.tuple #[.string ⟨s.toArray⟩, .nilIface])) ∨ (∃ c, r = .error c ∧ e = .returned (.tuple #[.string ⟨#[]⟩, .iface 30 (.int .i64 c)]))
set_option maxHeartbeats 4000000 in
set_option maxRecDepth 100000 in
theorem pWrite_any (n0 : Nat) (raw : PRaw) (p : Prt) (w : World) (hr : RdPrt (fun _ => True) n0 w raw p) (hp : PrtIn n0 p) (hg : Gz w) :
    Calls Tryz.prog 47 #[prtV raw] w fun e w' => WrOr (writeP p) e ∧ Below w.heap.size w w' := by
  have hgs := hg.size
  have HP := Lib.hid (show writeP p = match partW 4 40 p with
    | .error e => .error e
    | .ok (s, _) => if 20000 < s.length then .error 4 else .ok s from rfl)
  have hI := fun W h1 h2 h3 => pwrite_any (w.heap.size + 1) (by omega) 4 n0 40 raw p 1 40 W (Lib.hid rfl) (by decide) (Lib.hid rfl) (by decide) h1 h2 h3 hp
  have hr := RdPrt.weak (Q := fun b => b ≠ w.heap.size + 1) (fun b _ h => by omega) hr
  obtain ⟨⟨ha, hn, hc⟩, body, m, ⟨pa, pn, pc⟩⟩ := raw
  simp only [prtV, slv] at hI ⊢
  have B1 := ((Below.refl w.heap.size w).alloc (Nat.le_refl _) (.cells #[.slice ha hn hc, .string ⟨body.toArray⟩, .bool m, .slice pa pn pc] 44)).alloc (by simp) (.cells #[.int .i64 40] 172)
  have hkp := (Blk.new w #[.slice ha hn hc, .string ⟨body.toArray⟩, .bool m, .slice pa pn pc] 44).alloc (.cells #[.int .i64 40] 172)
  have hkl := Blk.new (w.alloc (.cells #[.slice ha hn hc, .string ⟨body.toArray⟩, .bool m, .slice pa pn pc] 44)) #[.int .i64 40] 172
  rw [World.size_alloc] at hkl
  have hI := hI _ (hg.next B1) hkl (hr.next B1)
  have hsz : ((w.alloc (.cells #[.slice ha hn hc, .string ⟨body.toArray⟩, .bool m, .slice pa pn pc] 44)).alloc (.cells #[.int .i64 40] 172)).heap.size = w.heap.size + 1 + 1 := by simp
  have hg1 := hg.next B1
  have kp := hkp.cell
  clear hr hg
  generalize partW 4 40 p = r at hI HP
  go_enter Tryz.func47, Tryz.ntmps47
  go_wp2_with fail
  generalize World.alloc _ _ = W1 at hI B1 hkp hkl hsz hg1 kp ⊢
  with_reducible refine hI.mono ?_
  rintro e w2 ⟨hh, b2⟩
  have B2 := B1.trans ((b2.mono (B' := w.heap.size) (by omega)).shut (by omega))
  have hg2 := hg1.nextO b2 (by omega)
  clear hI b2 kp
  rcases hh with ⟨s, n, rfl, _, _, rfl, _⟩ | ⟨c, s, v, rfl, rfl, hv⟩
  · by_cases h2 : 20000 < s.length
    · have HN := Lib.hid (show writeP p = .error 4 from by rw [HP.out]; simp only; rw [if_pos h2])
      have h2 : (20000 : Int) < s.length := by omega
      clear HP
      go_wp2_with fail
      go_ret2
      exact ⟨Or.inr ⟨4, HN.out, rfl⟩, B2⟩
    · have HN := Lib.hid (show writeP p = .ok s from by rw [HP.out]; simp only; rw [if_neg h2])
      have hs : s.length ≤ 20000 := by omega
      have h2 : ¬ (20000 : Int) < s.length := by omega
      clear HP
      go_wp2_with fail
      go_ret2
      exact ⟨Or.inl ⟨s, HN.out, hs, rfl⟩, B2⟩
  · have HN := Lib.hid (show writeP p = .error c from HP.out)
    have hT := tell_any v c w2 hv.v hg2.r
    obtain ⟨t, x, rfl⟩ := hv.some
    clear HP
    go_wp2_with fail
    with_reducible refine hT.mono ?_
    rintro e w3 ⟨rfl, b3⟩
    go_wp2_with fail
    go_ret2
    exact ⟨Or.inr ⟨c, HN.out, rfl⟩, B2.trans (b3.mono B2.size)⟩
theorem closeOf_bd {s : Bs} {i : Nat} {op : Option Nat} {out : List Bs} (h : ∀ x ∈ out, x.length ≤ s.length) : (closeOf s i op out).length ≤ out.length + 1 ∧ ∀ x ∈ closeOf s i op out, x.length ≤ s.length := by
  unfold closeOf
  cases op with
  | none => exact ⟨by simp, h⟩
  | some o =>
    refine ⟨by simp, fun x hx => ?_⟩
    rcases List.mem_append.1 hx with hx | hx
    · exact h x hx
    · simp at hx; rw [hx]; unfold pieceOf; simp; omega
theorem cutQ_bd {s b : Bs} : ∀ (k i : Nat) (op : Option Nat) (out ps : List Bs), cutQ s b k i op out = some ps → (∀ x ∈ out, x.length ≤ s.length) → ps.length ≤ out.length + k ∧ ∀ x ∈ ps, x.length ≤ s.length
  | 0, _, _, _, _, h, _ => by cases h
  | k + 1, i, op, out, ps, h, ho => by
    have hc := closeOf_bd (i := i) (op := op) ho
    rcases Nat.lt_or_ge s.length i with hi | hi
    · rw [cutQ_end hi] at h; cases h
    · rw [cutQ_go hi] at h
      cases hm : markOf (Lib.cut (s.drop i) [13, 10]).1 b with
      | none =>
        rw [hm] at h
        have := cutQ_bd k _ _ _ _ h ho
        exact ⟨by omega, this.2⟩
      | some t =>
        rw [hm] at h
        simp only at h
        split at h
        · cases h; exact ⟨by omega, hc.2⟩
        · split at h
          · have := cutQ_bd k _ _ _ _ h hc.2
            exact ⟨by omega, this.2⟩
          · have := cutQ_bd k _ _ _ _ h ho
            exact ⟨by omega, this.2⟩
theorem cutB_bd {s b : Bs} {ps : List Bs} (h : cutB s b = some ps) : ps.length ≤ s.length + 2 ∧ ∀ x ∈ ps, x.length ≤ s.length := by
  have := cutQ_bd _ _ _ _ _ h (by simp)
  simpa using this
theorem eachR_mem {α β : Type} {f : Nat → α → Except Int (β × Nat)} : ∀ {l : List α} {n m : Nat} {ys : List β}, eachR f n l = .ok (ys, m) → ys.length = l.length ∧ ∀ y ∈ ys, ∃ x ∈ l, ∃ a b, f a x = .ok (y, b)
  | [], n, m, ys, h => by
    simp [eachR] at h
    rw [h.1]; simp
  | x :: l, n, m, ys, h => by
    unfold eachR at h
    cases hx : f n x with
    | error e => rw [hx] at h; cases h
    | ok r =>
      obtain ⟨y, n'⟩ := r
      rw [hx] at h
      simp only at h
      cases hr : eachR f n' l with
      | error e => rw [hr] at h; cases h
      | ok r =>
        obtain ⟨zs, k⟩ := r
        rw [hr] at h
        simp only [Except.ok.injEq, Prod.mk.injEq] at h
        obtain ⟨rfl, rfl⟩ := h
        have ih := eachR_mem hr
        refine ⟨by simp [ih.1], fun y' hy => ?_⟩
        rcases List.mem_cons.1 hy with rfl | hy
        · exact ⟨x, by simp, n, n', hx⟩
        · obtain ⟨x', h1, h2⟩ := ih.2 y' hy
          exact ⟨x', by simp [h1], h2⟩
def PrtSm : Nat → Prt → Prop
  | 0, _ => False
  | n + 1, .mk h b _ ps => weight h ≤ 20000 ∧ b.length ≤ 60002 ∧ ps.length ≤ 20002 ∧ ∀ p ∈ ps, PrtSm n p
theorem partR_sm : ∀ (d left : Nat) (s : Bs) (p : Prt) (n : Nat), partR d left s = .ok (p, n) → s.length ≤ 20000 → PrtSm d p
  | 0, _, _, _, _, h, _ => by cases h
  | d + 1, 0, _, _, _, h, _ => by cases h
  | d + 1, left + 1, s, p, n, h, hs => by
    unfold partR at h
    cases hr : readH s with
    | none => rw [hr] at h; cases h
    | some x =>
      obtain ⟨l0, body⟩ := x
      rw [hr] at h
      simp only at h
      have h1 := readH_weight hr
      cases hc : cleanF l0 with
      | none => rw [hc] at h; cases h
      | some l =>
        rw [hc] at h
        simp only at h
        have h2 := cleanF_weight hc
        cases hb : boundF l with
        | none => rw [hb] at h; cases h
        | some ob =>
          rw [hb] at h
          cases ob with
          | none =>
            simp only at h
            cases hd : decodeF l body with
            | error e => rw [hd] at h; cases h
            | ok b =>
              rw [hd] at h
              simp only [Except.ok.injEq, Prod.mk.injEq] at h
              obtain ⟨rfl, _⟩ := h
              have := decodeF_len hd
              exact ⟨by omega, by omega, by simp, by simp⟩
          | some b =>
            simp only at h
            cases hq : cutB body b with
            | none => rw [hq] at h; cases h
            | some ps =>
              rw [hq] at h
              simp only at h
              have h3 := cutB_bd hq
              cases he : eachR (partR d) left ps with
              | error e => rw [he] at h; cases h
              | ok r =>
                obtain ⟨qs, m⟩ := r
                rw [he] at h
                simp only [Except.ok.injEq, Prod.mk.injEq] at h
                obtain ⟨rfl, _⟩ := h
                have h4 := eachR_mem he
                refine ⟨by omega, by simp, by omega, fun q hq => ?_⟩
                obtain ⟨x, hx, a, c, hf⟩ := h4.2 q hq
                exact partR_sm d a x q c hf (by have := h3.2 x hx; omega)
theorem readP_sm {s : Bs} {p : Prt} (h : readP s = .ok p) : PrtSm 4 p := by
  unfold readP at h
  split at h
  · cases h
  · cases hr : partR 4 40 s with
    | error e => rw [hr] at h; cases h
    | ok x =>
      obtain ⟨q, n⟩ := x
      rw [hr] at h
      cases h
      exact partR_sm 4 40 s _ n hr (by omega)
end Go.Proofs.YtignjjnflcpiiaaGreatDoor
