/- part.rename: a value with another boundary. Condition: at most 10^6 bytes each; what the variables hold; How long what package part writes can be. No program, no condition; (part.writer).write where it writes nothing, and of a part without parts. Condition: what the variables hold; so much in the pa. -/
import Derived.Test.YtignjjnflcpiiaaGreatDoorQ19
namespace Go.Proofs.YtignjjnflcpiiaaGreatDoor
open Go Go.RowKit
theorem KindOr.get {B : Nat} {s : Bs} {e : Ending} {w' : World} (h : KindOr B (readK s) e w') : ∃ m ps kv err, e = .returned (.tuple #[.string ⟨m.toArray⟩, kv, err]) ∧ OwnP w' B kv ps ∧ (readK s).getD ([], []) = (m, ps) ∧ m.length ≤ s.length ∧ FldsN s.length ps ∧ (readK s = none ∧ err = .iface 30 (.int .i64 3) ∨ readK s = some (m, ps) ∧ err = .nilIface) := by
  rcases h with ⟨m, l, v, h1, h2, h3⟩ | ⟨h1, h2⟩
  · have hn := readK_n h1
    exact ⟨m, l, v, _, h2, h3, by rw [h1]; rfl, hn.1, hn.2, Or.inr ⟨h1, rfl⟩⟩
  · exact ⟨[], [], _, _, h2, OwnG.nil _ _ _ _ _, by rw [h1]; rfl, by simp, ⟨by simp, fun f hf => by cases hf⟩, Or.inl ⟨h1, rfl⟩⟩
theorem flat_set1 : ∀ (ys : List Fld) (i : Nat) (y : Bs) (h : i < ys.length), (ys.flatMap fldC).set (i * 2 + 1) (.string ⟨y.toArray⟩) = (ys.set i ((ys[i]).1, y)).flatMap fldC
  | [], i, _, h => by simp at h
  | f :: ys, 0, y, _ => rfl
  | f :: ys, i + 1, y, h => by
    have ih := flat_set1 ys i y (by simpa using h)
    rw [List.set_cons_succ, List.flatMap_cons, List.flatMap_cons, List.getElem_cons_succ, ← ih, List.set_append_right _ _ (by show 2 ≤ _; omega)]
    have e2 : (i + 1) * 2 + 1 - (fldC f).length = i * 2 + 1 := by show (i + 1) * 2 + 1 - 2 = _; omega
    rw [e2]
theorem OwnG.setV {e : TypeId} {w : World} {B g n cap : Nat} {ys : List Fld} (h : OwnG e 2 fldC w B (.slice (some ⟨g, 0, none⟩) n cap) ys) (i : Nat) (hi : i < ys.length) (y : Bs) :
    OwnG e 2 fldC (w.setCell ⟨g, i * 2 + 1, none⟩ (.string ⟨y.toArray⟩)) B (.slice (some ⟨g, 0, none⟩) n cap) (ys.set i ((ys[i]).1, y)) := by
  obtain ⟨_, _, hn, _⟩ := h.row
  subst hn
  unfold OwnG at h ⊢
  have h1 := (World.ownsRow.stored h (i * 2 + 1) (.string ⟨y.toArray⟩)).1
  rw [flat_set1 ys i y hi] at h1
  rw [List.length_set]
  exact h1
theorem setP_go {ps : List Fld} {n b : Bs} {k : Nat} (hk : k < ps.length) (h : ps[k].1 ≠ n) (hs : setP ps n b = ps.take k ++ setP (ps.drop k) n b) : setP ps n b = ps.take (k + 1) ++ setP (ps.drop (k + 1)) n b := by
  rw [hs, List.drop_eq_getElem_cons hk]
  conv => lhs; rw [setP, if_neg h]
  rw [List.take_succ_eq_append_getElem hk, List.append_assoc]
  rfl
theorem setP_hit {ps : List Fld} {n b : Bs} {k : Nat} (hk : k < ps.length) (h : ps[k].1 = n) (hs : setP ps n b = ps.take k ++ setP (ps.drop k) n b) : setP ps n b = ps.set k ((ps[k]).1, b) := by
  rw [hs, List.drop_eq_getElem_cons hk]
  conv => lhs; rw [setP, if_pos h]
  rw [List.set_eq_take_append_cons_drop, if_pos hk]
theorem setP_len (n b : Bs) : ∀ ps : List Fld, (setP ps n b).length = ps.length
  | [] => rfl
  | f :: ps => by unfold setP; split <;> simp [setP_len n b ps]
theorem setP_mem {n b : Bs} {N : Nat} (hb : b.length ≤ N) : ∀ {ps : List Fld}, FldsN N ps → FldsN N (setP ps n b) := fun {ps} h => by
  refine ⟨by rw [setP_len]; exact h.1, ?_⟩
  have h2 := h.2
  clear h
  induction ps with
  | nil => intro f hf; cases hf
  | cons g ps ih =>
    intro f hf
    unfold setP at hf
    split at hf
    · rcases List.mem_cons.1 hf with rfl | hf
      · exact ⟨(h2 g (by simp)).1, hb⟩
      · exact h2 f (by simp [hf])
    · rcases List.mem_cons.1 hf with rfl | hf
      · exact h2 _ (by simp)
      · exact ih (fun f hf => h2 f (by simp [hf])) f hf
set_option maxHeartbeats 8000000 in
set_option maxRecDepth 100000 in
theorem rename_any (v b : Bs) (w : World) (hv : v.length ≤ 1000000) (hb : b.length ≤ 1000000) (hg : Gr w) :
    Calls Tryz.prog 198 #[.string ⟨v.toArray⟩, .string ⟨b.toArray⟩] w fun e w' => e = .returned (.string ⟨(renameF v b).toArray⟩) ∧ Below w.heap.size w w' := by
  have hK := readKind_any v w (by omega) hg.g
  have HN := Lib.hid (show renameF v b = (writeK ((readK v).getD ([], [])).1 (setP ((readK v).getD ([], [])).2 boundN b)).getD [] from rfl)
  go_enter Tryz.func198, Tryz.ntmps198
  go_wp2_with fail
  refine hK.mono ?_
  rintro e w1 ⟨hh, b1⟩
  obtain ⟨m, ps, kv, err, rfl, hown, hk, hml, hpn, _⟩ := hh.get
  clear hh hK
  rw [hk] at HN
  have hg1 := hg.next b1
  have hpn := hpn.mono hv
  have hW := fun W kv2 (ps2 : List Fld) (h1 : RdF W kv2 ps2) (h2 : FldsN 1000000 ps2) (h3 : Ground W) => writeKind_any m kv2 ps2 W h1 (by omega) h2.1 h2.2 h3
  have HS0 := Lib.hid (show setP ps boundN b = ps.take 0 ++ setP (ps.drop 0) boundN b from by simp)
  clear hk
  obtain ⟨ka, kn, kcap, rfl⟩ : ∃ a n c, kv = .slice a n c := by
    obtain ⟨a, c, h, _⟩ := OwnG.rd (by decide) fldC_len hown
    exact ⟨a, _, c, h⟩
  have hkn : kn = ps.length := by
    obtain ⟨a, c, h, _⟩ := OwnG.rd (by decide) fldC_len hown
    injection h
  subst hkn
  have hlen := hpn.1
  go_wp2_with fail
  go_loopw [19] (fun i wr => ∃ k : Nat, i = .int .i64 k ∧ k ≤ ps.length ∧ OwnP wr w.heap.size (.slice ka ps.length kcap) ps ∧ Hid (setP ps boundN b = ps.take k ++ setP (ps.drop k) boundN b) ∧ Gr wr ∧ Below w.heap.size w wr) (fun i _ => ps.length - (intOf i).toNat)
  case atStart => exact ⟨0, rfl, by omega, hown, HS0, hg1, b1⟩
  case round =>
    clear hown HS0 hg1 b1
    obtain ⟨k, rfl, hk, hown, HS, hgr, B⟩ := hrel
    by_cases hlt : k < ps.length
    · obtain ⟨g, hka⟩ : ∃ g, ka = some ⟨g, 0, none⟩ := by
        obtain ⟨a, c, h, h2⟩ := RdF.open (OwnG.rd (by decide) fldC_len hown)
        injection h with h _ _
        obtain ⟨b, h3, _⟩ := h2 k hlt
        exact ⟨b, h.trans h3⟩
      subst hka
      have c1 := OwnG.cellAt fldC_len hown k hlt 0 (by decide)
      have c2 := OwnG.cellAt fldC_len hown k hlt 1 (by decide)
      have hfr := OwnG.free hown
      have hge := OwnG.own_ge hown g rfl
      have hset := hown.setV k hlt b
      have HG := Lib.hid (fun h => setP_go (n := boundN) (b := b) hlt h HS.out)
      have HH := Lib.hid (fun h => setP_hit (n := boundN) (b := b) hlt h HS.out)
      simp only [fldC, Nat.add_zero, List.getElem?_cons_zero, List.getElem?_cons_succ] at c1 c2
      generalize ps[k] = f at c1 c2 hset HG HH
      obtain ⟨x, y⟩ := f
      simp only at c1 c2 hset HG HH
      by_cases he : x = boundN
      · have HH := Lib.hid (HH.out he)
        have he2 : (x == [98, 111, 117, 110, 100, 97, 114, 121]) = true := by rw [beq_iff_eq]; exact he
        have hgs : Gr (wr.setCell ⟨g, k * 2 + 1, none⟩ (.string ⟨b.toArray⟩)) := hgr.keep fun c hc => heap_set _ _ _ c (by have := hg.size; simp only; omega)
        have B2 := B.setCell (p := ⟨g, k * 2 + 1, none⟩) hge (.string ⟨b.toArray⟩)
        have hrd := OwnG.rd (by decide) fldC_len hset
        rw [← HH.out] at hrd
        have hWW := hW _ _ _ hrd (setP_mem hb hpn) hgs.g
        clear HG HH HS he hW hset hown hrd
        go_wp2_with fail
        with_reducible refine hWW.mono ?_
        rintro e w3 ⟨hh, b3⟩
        rcases hh with ⟨o, ho, rfl⟩ | ⟨ev, ho, rfl, _⟩
        · have HN := Lib.hid (show renameF v b = o from by rw [HN.out, ho]; rfl)
          clear ho
          go_wp2_with fail
          go_ret
          exact ⟨ret_str HN.out.symm, B2.trans (b3.mono B2.size)⟩
        · have HN := Lib.hid (show renameF v b = [] from by rw [HN.out, ho]; rfl)
          clear ho
          go_wp2_with fail
          go_ret
          exact ⟨ret_str HN.out.symm, B2.trans (b3.mono B2.size)⟩
      · have HG := Lib.hid (HG.out he)
        have he2 : (x == [98, 111, 117, 110, 100, 97, 114, 121]) = false := by rw [beq_eq_false_iff_ne]; exact he
        clear HH he HS hset
        go_wp2_with fail
        go_roundw
        case rel => exact ⟨k + 1, by go_num, by omega, hown, HG, hgr, B⟩
        case measure => simp [intOf]; omega
    · obtain rfl : k = ps.length := by omega
      have HH := Lib.hid (show setP ps boundN b = ps from by rw [HS.out, List.take_length, List.drop_length]; simp [setP])
      have hrd := OwnG.rd (by decide) fldC_len hown
      have hWW := hW _ _ _ hrd hpn hgr.g
      rw [HH.out] at HN
      clear HH HS hW hown hrd
      go_wp2_with fail
      with_reducible refine hWW.mono ?_
      rintro e w3 ⟨hh, b3⟩
      rcases hh with ⟨o, ho, rfl⟩ | ⟨ev, ho, rfl, _⟩
      · have HN := Lib.hid (show renameF v b = o from by rw [HN.out, ho]; rfl)
        clear ho
        go_wp2_with fail
        go_ret
        exact ⟨ret_str HN.out.symm, B.trans (b3.mono B.size)⟩
      · have HN := Lib.hid (show renameF v b = [] from by rw [HN.out, ho]; rfl)
        clear ho
        go_wp2_with fail
        go_ret
        exact ⟨ret_str HN.out.symm, B.trans (b3.mono B.size)⟩
theorem packL_len2 : ∀ (b : Bs) (n : Nat), (packL b n).length ≤ 2 * b.length + 6
  | [], _ => by simp [packL]
  | [a], _ => by simp [packL, quad_length]
  | [a, b], _ => by simp [packL, quad_length]
  | a :: b :: c :: l, n => by
    unfold packL
    split
    · have := packL_len2 l 0; simp [quad_length]; omega
    · have := packL_len2 l (n + 4); simp [quad_length]; omega
theorem shortestF_len2 (s : Bs) : (shortestF s).2.length ≤ 2 * s.length + 6 := by
  unfold shortestF
  have h2 := packL_len2 s 0
  have h3 : packT s = packL s 0 := rfl
  split
  · simp only; omega
  · split
    · rename_i h; rw [h3] at h; exact Nat.le_trans h h2
    · rw [h3]; exact h2
theorem writeHF_len : ∀ (l : List Fld) (o : Bs), writeHF l = some o → o.length ≤ 7 * weight l
  | [], o, h => by cases h; simp
  | f :: l, o, h => by
    unfold writeHF at h
    split at h
    · cases hw : writeHF l with
      | none => rw [hw] at h; cases h
      | some o2 =>
        rw [hw] at h
        simp only [Option.map_some, Option.some.injEq] at h
        subst h
        have h1 := lineT_len (f.1 ++ 58 :: 32 :: firstOf f) (f.2.drop (firstOf f).length)
        have h2 := writeHF_len l o2 hw
        have h3 : (firstOf f).length ≤ f.2.length := by have := cut_le f.2 [32]; unfold firstOf; omega
        rw [List.length_append, weight_cons]
        simp at h1
        omega
    · cases h
theorem writeH_len {l : List Fld} {o : Bs} (h : writeH l = some o) : o.length ≤ 7 * weight l + 2 := by
  unfold writeH at h
  simp only [Option.map_eq_some_iff] at h
  obtain ⟨o2, h1, rfl⟩ := h
  have := writeHF_len _ _ h1
  simp; omega
theorem weight_filter (p : Fld → Bool) : ∀ l : List Fld, weight (l.filter p) ≤ weight l
  | [] => Nat.le_refl _
  | f :: l => by
    have := weight_filter p l
    rw [List.filter_cons, weight_cons]
    split
    · rw [weight_cons]; omega
    · omega
theorem paramsF_weight : ∀ (k : Nat) (rest : Bs) (l : List Fld), paramsF k rest = some l → weight l ≤ rest.length
  | 0, _, _, h => by cases h
  | k + 1, rest, l, h => by
    unfold paramsF at h
    cases hp : paramOf rest with
    | none => rw [hp] at h; cases h
    | some x =>
      obtain ⟨f, r⟩ := x
      rw [hp] at h
      have hle := paramOf_le hp
      cases r with
      | nil => simp only at h; cases h; rw [weight_cons]; simp [weight]; omega
      | cons c r' =>
        simp only at h
        split at h
        · simp only [Option.map_eq_some_iff] at h
          obtain ⟨l2, h1, rfl⟩ := h
          have := paramsF_weight k r' l2 h1
          rw [weight_cons]
          simp at hle; omega
        · cases h
theorem readK_weight {s m : Bs} {l : List Fld} (h : readK s = some (m, l)) : weight l ≤ s.length := by
  unfold readK at h
  simp only at h
  split at h
  · simp only [Option.map_eq_some_iff] at h
    obtain ⟨l2, h1, h2⟩ := h
    cases h2
    split at h1
    · have := paramsF_weight _ _ _ h1
      have := cut_le s [59]
      omega
    · cases h1; simp [weight]
  · cases h
theorem getK_weight (s : Bs) : ((readK s).getD ([], [])).1.length ≤ s.length ∧ weight ((readK s).getD ([], [])).2 ≤ s.length := by
  cases h : readK s with
  | none => simp [weight]
  | some x =>
    obtain ⟨m, l⟩ := x
    exact ⟨(readK_n h).1, readK_weight h⟩
theorem flatMap_escV (v : Bs) : (v.flatMap escV).length ≤ 2 * v.length := by
  induction v with
  | nil => simp
  | cons c v ih =>
    have : (escV c).length ≤ 2 := by unfold escV; split <;> (try split) <;> simp
    rw [List.flatMap_cons, List.length_append, List.length_cons]; omega
theorem quoV_len2 (v : Bs) : (quoV v).length ≤ 2 * v.length + 2 := by
  have := flatMap_escV v
  unfold quoV
  split
  · omega
  · rw [List.length_cons, List.length_append]
    show _ + 1 + 1 ≤ _
    omega
theorem paramsW_len : ∀ (l : List Fld) (o : Bs), paramsW l = some o → o.length ≤ 5 * weight l
  | [], o, h => by cases h; simp
  | p :: l, o, h => by
    unfold paramsW at h
    cases hp : paramW p with
    | none => rw [hp] at h; cases h
    | some x =>
      rw [hp] at h
      simp only [Option.map_eq_some_iff] at h
      obtain ⟨o2, h1, rfl⟩ := h
      have h2 := paramsW_len l _ h1
      have h3 : x.length ≤ 5 * (p.1.length + p.2.length + 1) := by
        unfold paramW at hp
        split at hp
        · cases hp
          have := quoV_len2 p.2
          simp; omega
        · cases hp
      rw [List.length_append, weight_cons]; omega
theorem writeK_len {m o : Bs} {l : List Fld} (h : writeK m l = some o) : o.length ≤ m.length + 5 * weight l := by
  unfold writeK at h
  simp only at h
  split at h
  · simp only [Option.map_eq_some_iff] at h
    obtain ⟨o2, h1, rfl⟩ := h
    have := paramsW_len _ _ h1
    simp; omega
  · cases h
theorem setP_weight (n b : Bs) : ∀ l : List Fld, weight (setP l n b) ≤ weight l + b.length
  | [] => by simp [setP, weight]
  | f :: l => by
    unfold setP
    have := setP_weight n b l
    split <;> (simp only [weight_cons]; omega)
theorem renameF_len (v b : Bs) : (renameF v b).length ≤ 6 * v.length + 5 * b.length := by
  unfold renameF
  have h1 := getK_weight v
  have h2 := setP_weight boundN b ((readK v).getD ([], [])).2
  simp only
  cases hw : writeK ((readK v).getD ([], [])).1 (setP ((readK v).getD ([], [])).2 boundN b) with
  | none => simp
  | some o => have := writeK_len hw; simp only [Option.getD_some]; omega
theorem renF_weight (b : Bs) : ∀ l : List Fld, weight (renF l b) ≤ 6 * weight l + 5 * b.length
  | [] => by simp [renF, weight]
  | f :: l => by
    unfold renF
    have h1 := renameF_len f.2 b
    have h2 := renF_weight b l
    split
    · simp only [weight_cons]; omega
    · simp only [weight_cons]; omega
theorem delF_weight (l : List Fld) : weight (delF l) ≤ weight l := weight_filter _ l
def PrtIn : Nat → Prt → Prop
  | 0, _ => False
  | n + 1, .mk h b _ ps => weight h ≤ 120000 ∧ b.length ≤ 40000000 ∧ ps.length ≤ 1000000 ∧ ∀ p ∈ ps, PrtIn n p
theorem chooseT_len (l : List Bs) (hlen : l.length ≤ 1000000) (hx : ∀ x ∈ l, x.length ≤ 4000000000) : (chooseT l).length ≤ 22 := by
  have h1 := chooseN_lt [45, 45, 98] l
  have h2 := sumLen_le hx
  have h3 : l.length * 4000000000 ≤ 4000000000000000 := by omega
  have := Lib.itoa_length_le (chooseN [45, 45, 98] l : Nat) (by omega) (by omega)
  unfold chooseT
  simp; omega
theorem piecesT_len (b : Bs) : ∀ l : List Bs, (piecesT b l).length = sumLen l + l.length * (b.length + 6)
  | [] => by simp [piecesT, sumLen]
  | s :: l => by
    have ih := piecesT_len b l
    have e : sumLen (s :: l) = s.length + sumLen l := by simp [sumLen]
    have e2 : piecesT b (s :: l) = (45 :: 45 :: (b ++ 13 :: 10 :: (s ++ [13, 10]))) ++ piecesT b l := rfl
    rw [e, e2, List.length_append, ih, show (s :: l).length * (b.length + 6) = l.length * (b.length + 6) + (b.length + 6) from Nat.succ_mul _ _]
    simp; omega
def WriteOr (wb left : Nat) (r : Except Int (Bs × Nat)) (e : Ending) (w' : World) : Prop :=
  (∃ s n, r = .ok (s, n) ∧ n < left ∧ s.length ≤ (left - n) * 100000000 ∧ e = .returned (.tuple #[.string ⟨s.toArray⟩, .nilIface]) ∧ Blk w' wb #[.int .i64 n] 172) ∨ (∃ c s v, r = .error c ∧ e = .returned (.tuple #[.string s, v]) ∧ ErrN w' v c)
theorem delete_any2 (v : Value) (l : List Fld) (B : Nat) (w : World) (hown : OwnF w B v l) (hok : FldsOk l) (hg : Gr w) (hgB : 3 < B) (hB : B ≤ w.heap.size) :
    Calls Tryz.prog 193 #[v, .func (.func 195) #[] #[]] w fun e w' => ∃ v', e = .returned v' ∧ OwnF w' B v' (delF l) ∧ Below B w w' :=
  (delete_any v l B w hown hok hg hgB).mono fun _ _ ⟨v', h1, h2, h3⟩ => ⟨v', h1, h2, by
    rcases h3 with h | ⟨g, hg, h⟩
    · exact h.mono hB
    · exact (h.mono hB).shut hg⟩
set_option maxHeartbeats 8000000 in
set_option maxRecDepth 100000 in
theorem pwrite_low (ha pa : Option Go.Addr) (hn hc pn pc : Nat) (body : Bs) (m : Bool) (wb : Nat) (dp li : Int) (w : World) (hb : Blk w wb #[.int .i64 li] 172) (hl : 0 ≤ li ∧ li ≤ 40) (hd : 1 ≤ dp ∧ dp ≤ 5) (h : dp = 5 ∨ li = 0) :
    Calls Tryz.prog 106 #[.pointer (some ⟨wb, 0, none⟩), .agg #[.slice ha hn hc, .string ⟨body.toArray⟩, .bool m, .slice pa pn pc], .int .i64 dp] w fun e w' => e = .returned (.tuple #[.string ⟨#[]⟩, .iface 30 (.int .i64 4)]) ∧ BelowO wb w.heap.size w w' := by
  have kc := hb.cell 0
  have kf := hb.free 0
  have kcs : (w.setCell ⟨wb, 0, none⟩ (.int .i64 (li - 1))).cell? ⟨wb, 0, none⟩ = some (.int .i64 (li - 1)) := (hb.set 0 _).cell 0
  have hlb := hb.lt
  have hne : w.heap.size ≠ wb := by omega
  have BO : BelowO wb w.heap.size w (w.setCell ⟨wb, 0, none⟩ (.int .i64 (li - 1))) := (BelowO.refl _ _ _).set _
  by_cases h0 : li - 1 < 0
  · go_enter Tryz.func106, Tryz.ntmps106
    go_wp2_with fail
    go_ret2
    exact ⟨rfl, BO.trans (BelowO.of ((Below.refl _ _).alloc (by simp) _))⟩
  · have h4 : dp > 4 := by omega
    clear h
    go_enter Tryz.func106, Tryz.ntmps106
    go_wp2_with fail
    go_ret2
    exact ⟨rfl, BO.trans (BelowO.of ((Below.refl _ _).alloc (by simp) _))⟩
theorem partW_one (d lf : Nat) (h : List Fld) (body : Bs) (ps : List Prt) : partW (d + 1) (lf + 1) (.mk h body false ps) = if rightF h = false then .error 1 else match boundF h with
    | none => .error 1
    | some ob => if ob.isSome then .error 1 else if ps ≠ [] then .error 1 else match leafW h body with
      | none => .error 1
      | some s => .ok (s, lf) := by
  conv => lhs; unfold partW
  split
  · rfl
  · cases boundF h with
    | none => rfl
    | some ob => cases ob <;> cases ps <;> rfl
set_option maxHeartbeats 16000000 in
set_option maxRecDepth 100000 in
theorem pwrite_one (d lf : Nat) (ha pa : Option Go.Addr) (hc pc : Nat) (h : List Fld) (body : Bs) (ps : List Prt) (wb : Nat) (dp li : Int) (w : World) (hdp : Hid (dp = 5 - ((d + 1 : Nat) : Int))) (hd4 : d + 1 ≤ 4) (hli : Hid (li = ((lf + 1 : Nat) : Int))) (hl : lf + 1 ≤ 40) (hg : Gz w) (hml : 8 < wb) (hb : Blk w wb #[.int .i64 li] 172)
    (hrB : RdB 2 fldC (fun b => b ≠ wb) w (.slice ha h.length hc) h) (hhw : weight h ≤ 120000) (hbl : body.length ≤ 40000000) :
    Calls Tryz.prog 106 #[.pointer (some ⟨wb, 0, none⟩), .agg #[.slice ha h.length hc, .string ⟨body.toArray⟩, .bool false, .slice pa ps.length pc], .int .i64 dp] w fun e w' => WriteOr wb (lf + 1) (partW (d + 1) (lf + 1) (.mk h body false ps)) e w' ∧ BelowO wb w.heap.size w w' := by
  have HP := Lib.hid (partW_one d lf h body ps)
  have hl0 : 1 ≤ li ∧ li ≤ 40 := by have := hli.out; omega
  have hdp1 : 1 ≤ dp ∧ dp ≤ 4 := by have := hdp.out; omega
  have hli1 := Lib.hid (show li - 1 = (lf : Int) from by have := hli.out; omega)
  have kc := hb.cell 0
  have kf := hb.free 0
  have kcs : (w.setCell ⟨wb, 0, none⟩ (.int .i64 (li - 1))).cell? ⟨wb, 0, none⟩ = some (.int .i64 (li - 1)) := (hb.set 0 _).cell 0
  have hlb := hb.lt
  have hne : w.heap.size ≠ wb := by omega
  have BO : BelowO wb w.heap.size w (w.setCell ⟨wb, 0, none⟩ (.int .i64 (li - 1))) := (BelowO.refl _ _ _).set _
  have h0 : ¬ li - 1 < 0 := by omega
  have BA := (Below.refl (w.setCell ⟨wb, 0, none⟩ (.int .i64 (li - 1))).heap.size (w.setCell ⟨wb, 0, none⟩ (.int .i64 (li - 1)))).alloc (Nat.le_refl _) (.cells #[.slice ha h.length hc, .string ⟨body.toArray⟩, .bool false, .slice pa ps.length pc] 44)
  have hkl : Blk (w.setCell ⟨wb, 0, none⟩ (.int .i64 (li - 1))) wb #[.int .i64 (li - 1)] 172 := hb.set 0 _
  have hkl := hkl.next BA hkl.lt
  have hkp := Blk.new (w.setCell ⟨wb, 0, none⟩ (.int .i64 (li - 1))) #[.slice ha h.length hc, .string ⟨body.toArray⟩, .bool false, .slice pa ps.length pc] 44
  rw [World.size_setCell] at hkp
  have BO1 := BO.next BA (by simp)
  have hrB := (hrB.set (a := ⟨wb, 0, none⟩) (.int .i64 (li - 1)) (fun h => h rfl)).next BA
  have hg1 := hg.nextO BO1 hml
  have hsz : ((w.setCell ⟨wb, 0, none⟩ (.int .i64 (li - 1))).alloc (.cells #[.slice ha h.length hc, .string ⟨body.toArray⟩, .bool false, .slice pa ps.length pc] 44)).heap.size = w.heap.size + 1 := by simp
  have hn6 := (weight_n hhw).mono (m := 1000000) (by decide)
  have hR := right_fields _ h _ hrB.rd (hn6.ok (by decide))
  generalize hrf : rightF h = rf at hR HP
  clear hrf BO BA hg hb
  go_enter Tryz.func106, Tryz.ntmps106
  go_wp2_with fail
  generalize World.alloc _ _ = W1 at hkl hkp BO1 hrB hg1 hsz hR ⊢
  clear kc kf kcs h0
  have kp := hkp.cell
  with_reducible refine hR.mono ?_
  rintro e w2 ⟨rfl, b2⟩
  have hkl := hkl.next b2 hkl.lt
  have hkp := hkp.next b2 hkp.lt
  have hrB := hrB.next b2
  have hg2 := hg1.next b2
  have B2 := BO1.next b2 BO1.size
  have hs2 := b2.size
  clear hR b2 hg1 BO1 kp
  cases rf with
  | false =>
    have HN := Lib.hid (show partW (d + 1) (lf + 1) (.mk h body false ps) = .error 1 from HP.out)
    clear HP
    go_wp2_with fail
    go_ret2
    exact ⟨Or.inr ⟨1, _, _, HN.out, rfl, Or.inl rfl⟩, B2⟩
  | true =>
  have HP := Lib.hid (show partW (d + 1) (lf + 1) (.mk h body false ps) = match boundF h with
    | none => .error 1
    | some ob => if ob.isSome then .error 1 else if ps ≠ [] then .error 1 else match leafW h body with
      | none => .error 1
      | some s => .ok (s, lf) from HP.out)
  have hB := bound_any _ h w2 hrB.rd hn6 hg2.r
  generalize boundF h = rb at hB HP
  have kp := hkp.cell
  go_wp2_with fail
  with_reducible refine hB.mono ?_
  rintro e w3 ⟨hh, b3⟩
  have hkl := hkl.next b3 hkl.lt
  have hkp := hkp.next b3 hkp.lt
  have hrB := hrB.next b3
  have hg3 := hg2.next b3
  have B3 := B2.next b3 B2.size
  have hs3 := b3.size
  have kp := hkp.cell
  clear hB b3 hg2 B2
  rcases hh with ⟨b, rfl, rfl⟩ | ⟨rfl, rfl⟩ | ⟨rfl, rfl⟩
  case inl =>
    have HN := Lib.hid (show partW (d + 1) (lf + 1) (.mk h body false ps) = .error 1 from HP.out)
    clear HP
    go_wp2_with fail
    go_ret2
    exact ⟨Or.inr ⟨1, _, _, HN.out, rfl, Or.inl rfl⟩, B3⟩
  case inr.inr =>
    have HN := Lib.hid (show partW (d + 1) (lf + 1) (.mk h body false ps) = .error 1 from HP.out)
    clear HP
    go_wp2_with fail
    go_ret2
    exact ⟨Or.inr ⟨1, _, _, HN.out, rfl, Or.inl rfl⟩, B3⟩
  by_cases h0 : ps = []
  case neg =>
    have HN := Lib.hid (show partW (d + 1) (lf + 1) (.mk h body false ps) = .error 1 from by rw [HP.out]; simp [h0])
    have h1 : 0 < ps.length := List.length_pos_iff.2 h0
    have h2 : (0 : Int) < ps.length := by omega
    clear HP h0
    go_wp2_with fail
    go_ret2
    exact ⟨Or.inr ⟨1, _, _, HN.out, rfl, Or.inl rfl⟩, B3⟩
  subst h0
  have HP := Lib.hid (show partW (d + 1) (lf + 1) (.mk h body false []) = match leafW h body with
      | none => .error 1
      | some s => .ok (s, lf) from by rw [HP.out]; simp)
  have hCl := clone_any _ h w3 hrB.rd (by have := hn6.1; omega)
  go_wp2_with fail
  with_reducible refine hCl.mono ?_
  rintro e w4 ⟨v4, rfl, hown, b4⟩
  have hkl := hkl.next b4 hkl.lt
  have hkp := hkp.next b4 hkp.lt
  have hg4 := hg3.next b4
  have B4 := B3.next b4 B3.size
  have hD := delete_any2 v4 h w3.heap.size w4 hown (hn6.ok (by decide)) hg4.r (by have := hg3.size; omega) b4.size
  have hlt1 := hkp.lt
  have hs4 := b4.size
  clear hCl b4 hown
  go_wp2_with fail
  with_reducible refine hD.mono ?_
  rintro e w5 ⟨v5, rfl, hown, b5⟩
  have hkl := hkl.next b5 (by omega)
  have hkp := hkp.next b5 (by omega)
  have hg5 : Gz w5 := hg4.keep fun b hle => b5.block b (by have := hg3.size; omega)
  have B5 : BelowO wb w.heap.size w w5 := B4.trans (BelowO.of (b5.mono (by omega)))
  have hs5 := b5.size
  have hSh := shortest_any body w5 (by omega) hg5.r
  have HL := Lib.hid (show leafW h body = (writeH (delF h ++ [(cteN, (shortestF body).1)])).map (· ++ (shortestF body).2) from rfl)
  have hsl1 := (shortestF_len body).1
  have hsl2 := shortestF_len2 body
  generalize (shortestF body).1 = how at hSh HL hsl1
  generalize (shortestF body).2 = bt at hSh HL hsl2
  have kp := hkp.cell
  clear hD b5 hg4 B4
  go_wp2_with fail
  with_reducible refine hSh.mono ?_
  rintro e w6 ⟨rfl, b6⟩
  have hkl := hkl.next b6 hkl.lt
  have hown := OwnG.next hown b6
  have hg6 := hg5.next b6
  have B6 := B5.next b6 B5.size
  have c0 : w6.cell? ⟨2, 1, none⟩ = some (.string ⟨#[67, 111, 110, 116, 101, 110, 116, 45, 84, 114, 97, 110, 115, 102, 101, 114, 45, 69, 110, 99, 111, 100, 105, 110, 103]⟩) := hg6.r.ours 1 (by decide)
  have hdw := delF_weight h
  have hdl : (delF h).length ≤ 120000 := by have := weight_len (delF h); omega
  have hs6 := b6.size
  clear hSh b6 B5 hg5 kp
  go_wp2_with (at_builtin; refine appG2 (α := Fld) (cs := fldC) (size := 2) (z := .agg #[.string ByteArray.empty, .string ByteArray.empty]) fldC_len fldC_one infoFld rfl (by decide) Tryz.underlying42 rfl _ _ rfl w3.heap.size _ (delF h) [(cteN, how)] ⟨w6.heap.size, 0, none⟩ 1 1 rfl rfl (OwnG.alloc hown _) rfl (cellF1 w6 (cteN, how) _) (by simp; omega) (by unfold maxLen; simp; omega) (by simp; omega) ?_; intro v7 w7 hown7 hg7 hb7 hob)
  have hkl := (hkl.alloc (.cells #[.string ⟨cteN.toArray⟩, .string ⟨how.toArray⟩] 92)).next hb7 (by omega)
  have hg7 : Gz w7 := (hg6.next ((Below.refl w6.heap.size w6).alloc (Nat.le_refl _) (.cells #[.string ⟨cteN.toArray⟩, .string ⟨how.toArray⟩] 92))).keep fun b hle => hb7.block b (by have := hg3.size; omega)
  have B7 : BelowO wb w.heap.size w w7 := (B6.next ((Below.refl w6.heap.size w6).alloc (Nat.le_refl _) (.cells #[.string ⟨cteN.toArray⟩, .string ⟨how.toArray⟩] 92)) B6.size).trans (BelowO.of (hb7.mono (by omega)))
  have hw7 : weight (delF h ++ [(cteN, how)]) ≤ 130000 := by
    rw [weight_append, weight_cons]
    have : (cteN, how).1.length = 25 := rfl
    rw [this, show weight [] = 0 from rfl]
    simp only
    omega
  have hn7 := (weight_n hw7).mono (m := 1000000) (by decide)
  have hW := writeHead_any v7 _ w7 (OwnG.rd (by decide) fldC_len hown7) hn7.1 hn7.2 hg7.r.g
  have hwl := fun o (h : writeH (delF h ++ [(cteN, how)]) = some o) => writeH_len h
  clear hg6 B6 c0 hob hb7 hown
  generalize writeH (delF h ++ [(cteN, how)]) = ro at hW HL hwl
  go_wp2_with fail
  with_reducible refine hW.mono ?_
  rintro e w8 ⟨hh, b8⟩
  have hkl := hkl.next b8 hkl.lt
  have B8 := B7.next b8 B7.size
  clear hW b8 B7
  rcases hh with ⟨o, rfl, rfl⟩ | ⟨v, rfl, rfl, hv⟩
  · have hol := hwl o rfl
    have HN := Lib.hid (show partW (d + 1) (lf + 1) (.mk h body false []) = .ok (o ++ bt, lf) from by rw [HP.out, HL.out]; rfl)
    have i1 : ¬ (9223372036854775807 : Int) < (o.length : Int) + bt.length := by omega
    clear HP HL hwl
    go_wp2_with fail
    go_ret2
    refine ⟨Or.inl ⟨_, _, HN.out, by omega, ?_, rfl, ?_⟩, B8⟩
    · rw [List.length_append]; omega
    · rw [hli1.out] at hkl; exact hkl
  · have HN := Lib.hid (show partW (d + 1) (lf + 1) (.mk h body false []) = .error 1 from by rw [HP.out, HL.out]; rfl)
    clear HP HL hwl
    go_wp2_with fail
    go_ret2
    exact ⟨Or.inr ⟨1, _, _, HN.out, rfl, hv.n (by decide)⟩, B8⟩
end Go.Proofs.YtignjjnflcpiiaaGreatDoor
