/- What == and != say of two addresses: whether they are the same. No condition; How long addresses can be. No program, no condition; bundle.id, bundle.place, bundle.html. Condition: what the variables hold; heads that take at most 120000 bytes; bundle.clone: a part of its own. Condition: at most 10^12. -/
import Derived.Test.YtignjjnflcpiiaaGreatDoorQ21
import Derived.Test.YtignjjnflcpiiaaGreatDoorQ22
namespace Go.Proofs.YtignjjnflcpiiaaGreatDoor
open Go Go.RowKit
set_option maxHeartbeats 1000000 in
theorem eqAddr (a b : Addr) (w : World) : (Op.equalIn 10000 36 (.agg a.cells) (.agg b.cells)).run Tryz.prog w = .ok (decide (a = b)) w := by
  obtain ⟨a1, a2, a3, a4, a5, a6, a7, a8⟩ := a
  obtain ⟨b1, b2, b3, b4, b5, b6, b7, b8⟩ := b
  have u4 := Tryz.underlying4; have t4 := Tryz.isAgg4; have z4 := Tryz.sizeOf4
  have u9 := Tryz.underlying9; have t9 := Tryz.isAgg9; have z9 := Tryz.sizeOf9
  have hS : Tryz.prog.underlying 36 = some (.struct (Tryz.prog.fieldsOf 36)) := by kernel_rfl
  have hp : Tryz.prog.stoodInHeld 36 = false := by kernel_rfl
  rw [show (10000 : Nat) = 9999 + 1 from rfl, run_equalIn_agg w 9999 36 _ _ hS hp]
  simp only [Program.fieldsOf, Tryz.underlying36]
  go_simp
  repeat' split
  all_goals simp [*]
@[go_sem high] theorem eqlAddr (a b : Addr) (w : World) : (binOp .eql 36 (.agg a.cells) (.agg b.cells)).run Tryz.prog w = .ok (.bool (decide (a = b))) w := by
  rw [run_eql_struct, eqAddr]; rfl
@[go_sem high] theorem neqAddr (a b : Addr) (w : World) : (binOp .neq 36 (.agg a.cells) (.agg b.cells)).run Tryz.prog w = .ok (.bool (!decide (a = b))) w := by
  rw [run_neq_struct, eqAddr]; rfl
theorem eqGuardAddr : Tryz.prog.eqGuardType Tryz.prog.depth 36 = false := by kernel_rfl
theorem parseScheme_len (l : Bs) : (parseScheme l).1.length + (parseScheme l).2.length ≤ l.length := by
  unfold parseScheme
  cases h : cutP [58] l with
  | none => simp
  | some x =>
    obtain ⟨a, b⟩ := x
    have e := congrArg List.length (cutP_some h)
    simp at e
    simp only
    split
    · simp only; omega
    · simp
theorem parseAuth_len (l : Bs) : (parseAuth l).2.1.length + (parseAuth l).2.2.length ≤ l.length := by
  unfold parseAuth
  split
  · cases h : cutP [47] (l.drop 2) with
    | none => simp
    | some x =>
      obtain ⟨a, b⟩ := x
      have e := congrArg List.length (cutP_some h)
      simp at e
      simp
      omega
  · simp
theorem readA_len {s : Bs} {x : Addr} (h : readA s = some x) : x.len ≤ 3 * s.length := by
  unfold readA at h
  split at h
  · cases h
    have h1 := cut_le2 s [35]
    have h2 := cut_le2 (Lib.cut s [35]).1 [63]
    have h3 := parseScheme_len (Lib.cut (Lib.cut s [35]).1 [63]).1
    have h4 := parseAuth_len (parseScheme (Lib.cut (Lib.cut s [35]).1 [63]).1).2
    unfold parseA Addr.len
    simp only
    omega
  · cases h
theorem resolve_len (x y : Addr) : (resolveA x y).len ≤ 2 * x.len + 2 * y.len + 4 ∧ (resolveA x y).path.length ≤ 2 * x.len + 2 * y.len + 4 := by
  have h1 := dotsA_len y.path
  have h2 := dotsA_len (ahead x ++ y.path)
  have h3 := ahead_len x
  simp only [List.length_append] at h2
  unfold resolveA Addr.len
  split
  · simp only; omega
  · split
    · simp only; omega
    · split
      · cases hq : y.hasQuery <;> simp <;> omega
      · rename_i c l hp
        rw [hp] at h1 h2
        rw [hp]
        split <;> simp only <;> omega
theorem whole_len (x : Addr) : (wholeA x).len ≤ x.len := by unfold wholeA Addr.len lowS; simp
theorem writeA_len (a : Addr) : (writeA a).length ≤ a.len + 5 := by
  unfold writeA Addr.len
  simp only [List.length_append]
  have h1 : (if a.scheme = [] then ([] : Bs) else a.scheme ++ [58]).length ≤ a.scheme.length + 1 := by split <;> simp
  have h2 : (if a.hasAuth then ([47, 47] ++ a.auth : Bs) else []).length ≤ a.auth.length + 2 := by split <;> simp
  have h3 : (if a.hasQuery then ([63] ++ a.query : Bs) else []).length ≤ a.query.length + 1 := by split <;> simp
  have h4 : (if a.hasFrag then ([35] ++ a.frag : Bs) else []).length ≤ a.frag.length + 1 := by split <;> simp
  omega
theorem inner_no {v : Bs} (h : ¬ (2 < v.length ∧ v.getD 0 0 = 60 ∧ v.getD (v.length - 1) 0 = 62)) : inner v = [] := by unfold inner; rw [if_neg h]
theorem inner_yes {v : Bs} (h : 2 < v.length ∧ v.getD 0 0 = 60 ∧ v.getD (v.length - 1) 0 = 62) : inner v = (v.drop 1).take (v.length - 1 - 1) := by unfold inner; rw [if_pos h]
theorem inner_len (v : Bs) : (inner v).length ≤ v.length := by unfold inner; split <;> simp; omega
theorem getF_getD {n : Nat} {s : Bs} {l : List Fld} (h : FldsN n l) : ((getF l s).getD []).length ≤ n := by
  cases hg : getF l s with
  | none => simp
  | some v => exact getF_le h hg
set_option maxHeartbeats 4000000 in
set_option maxRecDepth 100000 in
theorem bid_any (v : Value) (l : List Fld) (w : World) (hr : RdF w v l) (hok : FldsN 1000000 l) :
    Calls Tryz.prog 37 #[v] w fun e w' => e = .returned (.string ⟨(idF l).toArray⟩) ∧ Below w.heap.size w w' := by
  have hG := get_field v l cidN w hr (hok.ok (by decide)) (by decide)
  have HN := Lib.hid (show idF l = inner ((getF l cidN).getD []) from rfl)
  have hxl := getF_getD (s := cidN) hok
  unfold cidN at hG HN hxl
  generalize (getF l _).getD [] = x at hG HN hxl
  generalize (getF l _).isSome = ok at hG
  go_enter Tryz.func37, Tryz.ntmps37
  go_wp2_with fail
  with_reducible refine hG.mono ?_
  rintro e w1 ⟨rfl, b1⟩
  clear hG
  by_cases h2 : 2 < x.length
  case neg =>
    have HI := Lib.hid (inner_no (v := x) (fun h => h2 h.1))
    have h3 : ¬ (2 : Int) < x.length := by omega
    go_wp2_with fail
    go_ret
    exact ⟨ret_str (by rw [HN.out, HI.out]), b1⟩
  have h3 : (2 : Int) < x.length := by omega
  have e0 : x.getD 0 0 = x[0]'(by omega) := by rw [List.getD_eq_getElem?_getD]; simp [show 0 < x.length by omega]
  have e1 : x.getD (x.length - 1) 0 = x[x.length - 1]'(by omega) := by rw [List.getD_eq_getElem?_getD]; simp [show x.length - 1 < x.length by omega]
  have z1 : (0 : Int) ≤ (x.length : Int) - 1 := by omega
  have z2 : (x.length : Int) - 1 < x.length := by omega
  have z3 : ((x.length : Int) - 1).toNat = x.length - 1 := by omega
  have hp : 0 < x.length := by omega
  by_cases ha : x.getD 0 0 = 60
  case neg =>
    have HI := Lib.hid (inner_no (v := x) (fun h => ha h.2.1))
    have ha2 : ((x[0].toNat : Int) == 60) = false := by
      rw [beq_eq_false_iff_ne]; intro h; apply ha; rw [e0]; apply UInt8.toNat_inj.1; show x[0].toNat = 60; omega
    clear ha e0 e1
    go_wp2_with fail
    go_ret
    exact ⟨ret_str (by rw [HN.out, HI.out]), b1⟩
  have ha2 : ((x[0].toNat : Int) == 60) = true := by
    rw [beq_iff_eq, ← e0, ha]; rfl
  by_cases hb : x.getD (x.length - 1) 0 = 62
  case neg =>
    have HI := Lib.hid (inner_no (v := x) (fun h => hb h.2.2))
    have hb2 : ((x[x.length - 1].toNat : Int) == 62) = false := by
      rw [beq_eq_false_iff_ne]; intro h; apply hb; rw [e1]; apply UInt8.toNat_inj.1; show x[x.length - 1].toNat = 62; omega
    have ha3 := Lib.hid ha2
    clear ha hb e0 e1
    go_wp2_with fail
    go_ret
    exact ⟨ret_str (by rw [HN.out, HI.out]), b1⟩
  have HI := Lib.hid (inner_yes (v := x) ⟨h2, ha, hb⟩)
  have hb2 : ((x[x.length - 1].toNat : Int) == 62) = true := by
    rw [beq_iff_eq, ← e1, hb]; rfl
  clear ha hb e0 e1
  go_wp2_with fail
  go_ret
  exact ⟨ret_str (by rw [HN.out, HI.out, List.drop_one]), b1⟩
set_option maxHeartbeats 8000000 in
set_option maxRecDepth 100000 in
theorem place_any (base : Addr) (v : Value) (l : List Fld) (w : World) (hb : base.len ≤ 1000000) (hr : RdF w v l) (hok : FldsN 1000000 l) (hg : Gr w) :
    Calls Tryz.prog 35 #[base.val, v] w fun e w' => e = .returned (placeF base l).val ∧ Below w.heap.size w w' := by
  have hG := fun W hW => get_field v l clN W hW (hok.ok (by decide)) (by decide)
  have HN := Lib.hid (show placeF base l = match getF l clN with
    | none => base
    | some v => match readA v with
      | none => base
      | some a => wholeA (resolveA base a) from rfl)
  have hxl := fun x (h : getF l clN = some x) => getF_le (n := 1000000) hok h
  unfold clN at hG HN hxl
  generalize getF l _ = r at hG HN hxl
  have B1 := ((Below.refl w.heap.size w).alloc (Nat.le_refl _) (.cells base.cells 36)).alloc (by simp) (.cells zCells 36)
  have hk1 := (Blk.new w base.cells 36).alloc (.cells zCells 36)
  have hk2 := Blk.new (w.alloc (.cells base.cells 36)) zCells 36
  rw [World.size_alloc] at hk2
  have hg1 := hg.next B1
  have hr1 := hr.next B1
  have hsz : ((w.alloc (.cells base.cells 36)).alloc (.cells zCells 36)).heap.size = w.heap.size + 1 + 1 := by simp
  clear hr hg
  go_enter Tryz.func35, Tryz.ntmps35
  go_wp2_with fail
  generalize World.alloc _ _ = W1 at B1 hk1 hk2 hg1 hr1 hsz ⊢
  with_reducible refine (hG _ hr1).mono ?_
  rintro e w2 ⟨rfl, b2⟩
  have hk1 := hk1.next b2 hk1.lt
  have hk2 := hk2.next b2 hk2.lt
  have B2 := B1.trans (b2.mono (by omega))
  have hg2 := hg1.next b2
  have hs2 := b2.size
  clear hG b2 B1 hg1 hr1
  cases r with
  | none =>
    have HN := Lib.hid (show placeF base l = base from HN.out)
    simp only [Option.getD_none, Option.isSome_none]
    have k1 := hk1.cell
    have k2 := hk2.cell
    have f2 := hk2.free
    go_wp2_with fail
    refine bodyPost_ret (v := base.val) (by simp [results, Tryz.results35, go_sem, k2]) rfl ⟨by rw [HN.out], ?_⟩
    go_grown
  | some x =>
    have hx := hxl x rfl
    have hR := addrRead_any x w2 (by omega) hg2.g
    unfold ReadPost at hR
    have HN := Lib.hid (show placeF base l = match readA x with
      | none => base
      | some a => wholeA (resolveA base a) from HN.out)
    have hal := fun a (h : readA x = some a) => readA_len h
    clear hxl
    generalize readA x = ra at hR HN hal
    simp only [Option.getD_some, Option.isSome_some]
    go_wp2_with fail
    with_reducible refine hR.mono ?_
    rintro e w3 ⟨rfl, b3⟩
    have hk1 := hk1.next b3 hk1.lt
    have hk2 := hk2.next b3 hk2.lt
    have B3 := B2.trans (b3.mono B2.size)
    have hg3 := hg2.next b3
    have hs3 := b3.size
    clear hR b3 hg2 B2
    cases ra with
    | none =>
      have HN := Lib.hid (show placeF base l = base from HN.out)
      have hk1 := hk1.alloc (.cells Addr.zero.cells 36)
      have hk2 := hk2.alloc (.cells Addr.zero.cells 36)
      have B4 := B3.alloc B3.size (.cells Addr.zero.cells 36)
      simp only [Addr.zero] at hk1 hk2 B4 ⊢
      have k1 := hk1.cell
      have k2 := hk2.cell
      have f2 := hk2.free
      go_wp2_with fail
      refine bodyPost_ret (v := base.val) (by simp [results, Tryz.results35, go_sem, k2]) rfl ⟨by rw [HN.out], ?_⟩
      go_grown
    | some a =>
      have hal := hal a rfl
      have HN := Lib.hid (show placeF base l = wholeA (resolveA base a) from HN.out)
      have hrl := resolve_len base a
      have hRs := fun W hW => resolve_any base a W (by unfold Addr.len at hb; omega) (by unfold Addr.len at hal; omega) hW
      generalize resolveA base a = y at hRs HN hrl
      have hyl : y.len ≤ 10000000 := by omega
      have hWh := fun W => addrWhole_any y W (by unfold Addr.len at hyl; omega) (by unfold Addr.len at hyl; omega)
      generalize wholeA y = z at hWh HN
      have hk3 := Blk.new w3 a.cells 36
      have hk1 := hk1.alloc (.cells a.cells 36)
      have hk2 := hk2.alloc (.cells a.cells 36)
      have B4 := B3.alloc B3.size (.cells a.cells 36)
      have hg4 := hg3.next ((Below.refl w3.heap.size w3).alloc (Nat.le_refl _) (.cells a.cells 36))
      have k1 := hk1.cell
      have k3 := hk3.cell
      clear hg3 B3
      go_wp2_with fail
      with_reducible refine (hRs _ hg4.g).mono ?_
      rintro e w5 ⟨rfl, b5⟩
      have hk2 := hk2.next b5 hk2.lt
      have B5 := B4.trans (b5.mono B4.size)
      clear hRs b5 k1 k3 hk1 hk3
      go_wp2_with fail
      with_reducible refine (hWh _).mono ?_
      rintro e w6 ⟨rfl, b6⟩
      have hk2 := hk2.next b6 hk2.lt
      have B6 := B5.trans (b6.mono B5.size)
      have k2 := hk2.cell
      have f2 := hk2.free
      clear hWh b6
      go_wp2_with fail
      refine bodyPost_ret (v := z.val) (by simp [results, Tryz.results35, go_sem, k2]) rfl ⟨by rw [HN.out], ?_⟩
      go_grown
set_option maxHeartbeats 8000000 in
set_option maxRecDepth 100000 in
theorem html_any (n : Nat) (raw : PRaw) (p : Prt) (w : World) (hr : RdPrt (fun _ => True) n w raw p) (hok : FldsN 1000000 p.head) (hg : Gr w) :
    Calls Tryz.prog 49 #[prtV raw] w fun e w' => e = .returned (.bool (htmlB p)) ∧ Below w.heap.size w w' := by
  cases n with
  | zero => exact hr.elim
  | succ n =>
  obtain ⟨h, b, m, ps⟩ := p
  obtain ⟨⟨ha, hn, hc⟩, body, m', ⟨pa, pn, pc⟩⟩ := raw
  obtain ⟨rfl, rfl, hrh, _⟩ := hr
  simp only [prtV, slv, Prt.head] at hrh hok ⊢
  have hG := fun W hW => get_field (.slice ha hn hc) h ctN W hW (hok.ok (by decide)) (by decide)
  have HN := Lib.hid (show htmlB (.mk h body m' ps) = match getF h ctN with
    | none => false
    | some v => match readK v with
      | none => false
      | some (m, _) => m == htmlN from rfl)
  have hxl := fun x (h : getF _ ctN = some x) => getF_le (n := 1000000) hok h
  unfold ctN at hG HN hxl
  generalize getF h _ = r at hG HN hxl
  have BA := (Below.refl w.heap.size w).alloc (Nat.le_refl _) (.cells #[.slice ha hn hc, .string ⟨body.toArray⟩, .bool m', .slice pa pn pc] 44)
  have hkp := Blk.new w #[.slice ha hn hc, .string ⟨body.toArray⟩, .bool m', .slice pa pn pc] 44
  have hg1 := hg.next BA
  have hrd := hrh.rd.next BA
  have kp := hkp.cell
  have hG := hG _ hrd
  clear hrh hrd hg
  cases r with
  | none =>
    have HN := Lib.hid (show htmlB (.mk h body m' ps) = false from HN.out)
    simp only [Option.getD_none, Option.isSome_none] at hG
    go_enter Tryz.func49, Tryz.ntmps49
    go_wp2_with fail
    with_reducible refine hG.mono ?_
    rintro e w1 ⟨rfl, b1⟩
    have hK := readKind_any [] w1 (by decide) (hg1.next b1).g
    go_wp2_with fail
    with_reducible refine hK.mono ?_
    rintro e w2 ⟨hh, b2⟩
    obtain ⟨m, ps, kv, err, rfl, _⟩ := hh.get
    clear hh
    go_wp2_with fail
    go_ret
    exact ⟨ret_bool HN.out.symm, BA.trans ((b1.trans (b2.mono b1.size)).mono (by simp))⟩
  | some x =>
    have hx := hxl x rfl
    have HN := Lib.hid (show htmlB (.mk h body m' ps) = match readK x with
      | none => false
      | some (m, _) => m == htmlN from HN.out)
    simp only [Option.getD_some, Option.isSome_some] at hG
    clear hxl
    go_enter Tryz.func49, Tryz.ntmps49
    go_wp2_with fail
    with_reducible refine hG.mono ?_
    rintro e w1 ⟨rfl, b1⟩
    have hK := readKind_any x w1 (by omega) (hg1.next b1).g
    go_wp2_with fail
    with_reducible refine hK.mono ?_
    rintro e w2 ⟨hh, b2⟩
    obtain ⟨m, ps, kv, err, rfl, _, _, _, _, hc⟩ := hh.get
    clear hh hK hG
    rcases hc with ⟨h1, rfl⟩ | ⟨h1, rfl⟩
    · have HN := Lib.hid (show htmlB _ = false from by rw [HN.out, h1])
      clear h1
      go_wp2_with fail
      go_ret
      exact ⟨ret_bool HN.out.symm, BA.trans ((b1.trans (b2.mono b1.size)).mono (by simp))⟩
    · have HN := Lib.hid (show htmlB _ = (m == htmlN) from by rw [HN.out, h1])
      clear h1
      go_wp2_with fail
      go_ret
      exact ⟨ret_bool (by rw [HN.out]; rfl), BA.trans ((b1.trans (b2.mono b1.size)).mono (by simp))⟩
theorem run_append_none {P : Program} {w : World} (base : Nat) (t ty e : TypeId) (i : TypeInfo) (size c : Nat) (ht : P.underlying t = some (.slice e)) (hi : P.info? e = some i)
    (v : Value) (n : Nat) (xs : List Value) (hown : w.ownsRow base e size v n xs) :
    (Builtin.append_ #[t, t] ty #[v, .slice none 0 c]).run P w = .ok v w := by
  rcases hown.2 with ⟨rfl, rfl⟩ | ⟨g, cap, cur, rfl, _, _, hnc, _⟩
  · simp [Builtin.append_, run_underlying ht, sizeOf, typeInfo, hi, Builtin.lenOf, Builtin.firstCells]
  · simp [Builtin.append_, run_underlying ht, sizeOf, typeInfo, hi, Builtin.lenOf, Builtin.firstCells, hnc, storeCells]
theorem wpList_append_none {P : Program} {w : World} {ops : Array Oper} {rest : List Oper} {o : Oper} {a : Act} {Q : Exit → Act → World → Prop} (hgd : o.guard = none) (s x : Operand) (t : TypeId)
    (ho : o.op = .call { callee := .builtin .append, args := #[s, x], argTypes := #[t, t] })
    (base : Nat) (e : TypeId) (i : TypeInfo) (size c : Nat) (ht : P.underlying t = some (.slice e)) (hi : P.info? e = some i)
    (v : Value) (n : Nat) (xs : List Value) (hs : a.eval s = v) (hown : w.ownsRow base e size v n xs) (hx : a.eval x = .slice none 0 c)
    (h : wpList P ops Q rest (a.put o.dst v) w) : wpList P ops Q (o :: rest) a w := by
  refine wpList_plain hgd fun K hK => ?_
  have hrun := run_append_none (P := P) (w := w) base t o.type e i size c ht hi v n xs hown
  unfold Oper.wp
  simp [execOp, ho, resolve, invoke, builtin, hs, hx, hrun, Result.andThen]
  exact hK _ _ h
theorem appFs {Q : Exit → Act → World → Prop} {ops : Array Oper} {rest : List Oper} {o : Oper} {a : Act} {w : World} (hgd : o.guard = none) (s x : Operand)
    (ho : o.op = .call { callee := .builtin .append, args := #[s, x], argTypes := #[42, 42] }) (B : Nat) (v : Value) (sa : Option Go.Addr) (n cap : Nat) (l : List Fld)
    (hs : a.eval s = v) (hown : OwnF w B v []) (hx : a.eval x = .slice sa n cap) (hr : RdF w (.slice sa n cap) l) (hn : l.length ≤ 1000000000000) (hbase : B ≤ w.heap.size)
    (h : ∀ v' w', OwnF w' B v' l → w.grownBy w' v.ownBlock → Below B w w' → (v'.ownBlock = v.ownBlock ∨ v'.ownBlock = some w.heap.size) → wpList Tryz.prog ops Q rest (a.put o.dst v') w') : wpList Tryz.prog ops Q (o :: rest) a w := by
  obtain ⟨a', cap', hv, hc⟩ := hr
  injection hv with e1 e2 e3
  subst e1 e2 e3
  cases sa with
  | none =>
    have h0 : l = [] := by
      rcases Nat.eq_zero_or_pos l.length with h | h
      · exact List.length_eq_zero_iff.1 h
      · obtain ⟨b, h, _⟩ := hc h; cases h
    subst h0
    obtain ⟨i0, hi, _⟩ := info_parts infoFld
    refine wpList_append_none hgd s x 42 ho B 92 i0 2 cap Tryz.underlying42 hi v 0 [] hs hown hx (h v w hown ⟨rfl, rfl, rfl, Nat.le_refl _, fun _ _ _ => rfl⟩ (Below.refl _ _) (Or.inl rfl))
  | some ad =>
    refine appG2 (α := Fld) (cs := fldC) (size := 2) (z := .agg #[.string ByteArray.empty, .string ByteArray.empty]) fldC_len fldC_one infoFld rfl (by decide) Tryz.underlying42 hgd s x ho B v [] l ad l.length cap rfl hs hown hx (fun j u hj => ?_) (by simp; omega) (by unfold maxLen; simp; omega) hbase h
    have hlt := (List.getElem?_eq_some_iff.1 hj).1
    rw [flat_len fldC_len] at hlt
    obtain ⟨b, e, _, hcell⟩ := hc (by omega)
    injection e with e
    subst e
    rw [addr_add0, hcell j hlt]; exact hj
def ClOk (B n : Nat) (w : World) (r : PRaw) (p : Prt) : Prop :=
  r.2.1 = p.body ∧ r.2.2.1 = p.many ∧ OwnF w B (slv r.1) p.head ∧ ∃ raws : List PRaw, OwnPr w B (slv r.2.2.2) raws ∧ raws.length = p.parts.length ∧ (∀ g, (slv r.1).ownBlock = some g → (slv r.2.2.2).ownBlock ≠ some g) ∧
    ∀ k (h1 : k < raws.length) (h2 : k < p.parts.length), RdPrt (fun b => B ≤ b ∧ (slv r.1).ownBlock ≠ some b ∧ (slv r.2.2.2).ownBlock ≠ some b) n w raws[k] p.parts[k]
theorem ClOk.rd {B n : Nat} {w : World} {r : PRaw} {p : Prt} (h : ClOk B n w r p) : RdPrt (fun b => B ≤ b) (n + 1) w r p := by
  obtain ⟨hd, b, m, ps⟩ := p
  obtain ⟨h1, h2, h3, raws, h4, h5, _, h6⟩ := h
  exact ⟨h1, h2, (OwnG.rdB (by decide) fldC_len h3).weak fun b h _ => h.1, raws, (OwnG.rdB (by decide) prtC_len h4).weak fun b h _ => h.1, h5, fun k k1 k2 => RdPrt.weak (fun b h _ => h.1) (h6 k k1 k2)⟩
set_option maxHeartbeats 16000000 in
set_option maxRecDepth 100000 in
theorem pclone_any (n : Nat) : ∀ (raw : PRaw) (p : Prt) (w : World), RdPrt (fun _ => True) (n + 1) w raw p → PrtIn (n + 1) p →
    Calls Tryz.prog 38 #[prtV raw] w fun e w' => (∃ raw', e = .returned (prtV raw') ∧ ClOk w.heap.size n w' raw' p) ∧ Below w.heap.size w w' := by
  have hmain : ∀ (m : Nat) (raw : PRaw) (p : Prt) (w : World), RdPrt (fun _ => True) (m + 1) w raw p → PrtIn (m + 1) p → (∀ (raw : PRaw) (p : Prt) (w : World), RdPrt (fun _ => True) m w raw p → PrtIn m p → Calls Tryz.prog 38 #[prtV raw] w fun e w' => (∃ raw', e = .returned (prtV raw') ∧ RdPrt (fun b => w.heap.size ≤ b) m w' raw' p) ∧ Below w.heap.size w w') →
      Calls Tryz.prog 38 #[prtV raw] w fun e w' => (∃ raw', e = .returned (prtV raw') ∧ ClOk w.heap.size m w' raw' p) ∧ Below w.heap.size w w' := by
    intro m raw p w hr hp ih
    obtain ⟨h, b, mn, ps⟩ := p
    obtain ⟨⟨ha, hn, hc⟩, body, m', ⟨pa, pn, pc⟩⟩ := raw
    obtain ⟨rfl, rfl, hrh, raws, hrp, hrl, hch⟩ := hr
    obtain ⟨hp1, hp2, hp3, hp4⟩ := hp
    simp only [prtV, slv] at hrh hrp ⊢
    have hhl := weight_len h
    have hpn : pn = ps.length := by
      obtain ⟨a, c, e, _⟩ := hrp
      injection e with _ e _
      exact e.trans hrl
    subst hpn
    have HCH := Lib.hid hch
    have HP4 := Lib.hid hp4
    clear hch hp4
    have B2 := (((Below.refl w.heap.size w).alloc (Nat.le_refl _) (.cells #[.slice ha hn hc, .string ⟨body.toArray⟩, .bool m', .slice pa ps.length pc] 44)).alloc (by simp) (.cells #[.slice none 0 0, .string ⟨#[]⟩, .bool false, .slice none 0 0] 44))
    have hk1 := ((Blk.new w #[.slice ha hn hc, .string ⟨body.toArray⟩, .bool m', .slice pa ps.length pc] 44).alloc (.cells #[.slice none 0 0, .string ⟨#[]⟩, .bool false, .slice none 0 0] 44))
    have hk2 := Blk.new (w.alloc (.cells #[.slice ha hn hc, .string ⟨body.toArray⟩, .bool m', .slice pa ps.length pc] 44)) #[.slice none 0 0, .string ⟨#[]⟩, .bool false, .slice none 0 0] 44
    rw [World.size_alloc] at hk2
    have hsz2 : ((w.alloc (.cells #[.slice ha hn hc, .string ⟨body.toArray⟩, .bool m', .slice pa ps.length pc] 44)).alloc (.cells #[.slice none 0 0, .string ⟨#[]⟩, .bool false, .slice none 0 0] 44)).heap.size = w.heap.size + 1 + 1 := by simp
    go_enter Tryz.func38, Tryz.ntmps38
    go_upto_region 1 with fail
    generalize World.alloc _ _ = W2 at B2 hk1 hk2 hsz2 ⊢
    have hge2 : w.heap.size + 1 < W2.heap.size := by omega
    clear hsz2
    have BA := (Below.refl W2.heap.size W2).alloc (Nat.le_refl _) (.cells #[] 92)
    have hrd3 := (hrh.rd.next B2).next BA
    have hk1 := hk1.next BA hk1.lt
    have hk2 := hk2.next BA hk2.lt
    have hmade := ownF_made W2
    have hsz3 : (W2.alloc (.cells #[] 92)).heap.size = W2.heap.size + 1 := by simp
    have B3 := B2.trans (BA.mono B2.size)
    have k1 := hk1.cell
    have f1 := hk1.free
    clear BA B2
    go_wp2_with (at_builtin; refine appFs rfl _ _ rfl W2.heap.size _ ha hn hc h rfl hmade rfl hrd3 (by omega) (by simp) ?_; intro v4 w4 hown4 hg4 hb4 hob; obtain ⟨a4, c4, hv4, _⟩ := OwnG.rd (by decide) fldC_len hown4; subst hv4; have hk1 := hk1.next hb4 (by omega); have k1 := hk1.cell; have f1 := hk1.free)
    have hk1 : Blk (w4.setCell ⟨w.heap.size, 0, none⟩ (.slice a4 h.length c4)) w.heap.size #[.slice a4 h.length c4, .string ⟨body.toArray⟩, .bool m', .slice pa ps.length pc] 44 := hk1.set 0 _
    have hk2 := (hk2.next hb4 (by omega)).setO (a := ⟨w.heap.size, 0, none⟩) (by simp only; omega) (.slice a4 h.length c4)
    have hown4 := hown4.setO (a := ⟨w.heap.size, 0, none⟩) (by simp only; omega) (.slice a4 h.length c4)
    have B5 := (B3.trans (hb4.mono (by omega))).setCell (p := ⟨w.heap.size, 0, none⟩) (Nat.le_refl _) (.slice a4 h.length c4)
    have hlt4 := OwnG.own_lt hown4
    have hs5 : W2.heap.size + 1 ≤ (w4.setCell ⟨w.heap.size, 0, none⟩ (.slice a4 h.length c4)).heap.size := by have := hb4.size; simp [World.setCell] at *; omega
    generalize hw5 : w4.setCell ⟨w.heap.size, 0, none⟩ (.slice a4 h.length c4) = w5 at hk1 hk2 hown4 B5 hlt4 hs5
    have k1 := hk1.cell
    clear hg4 hb4 hob hrd3 hmade B3
    clear hw5
    go_loopw [3, 14] (fun vp iv wr => ∃ (k : Nat) (rs : List PRaw) (sl : Slc), iv = .int .i64 k ∧ vp = slv sl ∧ k ≤ ps.length ∧ rs.length = k ∧ OwnPr wr w5.heap.size (slv sl) rs ∧ OwnF wr W2.heap.size (.slice a4 h.length c4) h ∧ Hid (∀ j (h1 : j < rs.length) (h2 : j < ps.length), RdPrt (fun b => w5.heap.size ≤ b ∧ (slv sl).ownBlock ≠ some b) m wr rs[j] ps[j]) ∧ Blk wr w.heap.size #[.slice a4 h.length c4, .string ⟨body.toArray⟩, .bool m', .slice pa ps.length pc] 44 ∧ Blk wr (w.heap.size + 1) #[.slice none 0 0, .string ⟨#[]⟩, .bool false, .slice none 0 0] 44 ∧ Below w.heap.size w wr ∧ w5.heap.size ≤ wr.heap.size) (fun _ iv _ => ps.length - (intOf iv).toNat)
    case atStart => exact ⟨0, [], (none, 0, 0), rfl, rfl, by omega, rfl, OwnG.nil _ _ _ _ _, hown4, Lib.hid (fun j h1 => by simp at h1), hk1, hk2, B5, Nat.le_refl _⟩
    case round =>
      clear hk1 hk2 hown4 B5 k1
      obtain ⟨k, rs, sl, rfl, rfl, hk, hrs, hownp, hown, HR, hk1, hk2, B, hwr⟩ := hrel
      obtain ⟨sa, sn, sc⟩ := sl
      simp only [slv] at hownp HR ⊢
      by_cases hlt : k < ps.length
      · obtain ⟨pb, rfl, _, hpb2, hcell⟩ := (hrp.next B).at prtC_len k (by omega)
        have hq1 := (HCH.out k (by omega) hlt).next B
        have hq2 := HP4.out _ (List.getElem_mem hlt)
        have c0 := hcell 0 (by decide)
        have c1 := hcell 1 (by decide)
        have c2 := hcell 2 (by decide)
        have c3 := hcell 3 (by decide)
        have HSN := Lib.hid (show ∀ (W : World) (r : PRaw), RdPrt (fun b => w5.heap.size ≤ b ∧ (Value.slice sa sn sc).ownBlock ≠ some b) m W r ps[k] → (∀ j (h1 : j < rs.length) (h2 : j < ps.length), RdPrt (fun b => w5.heap.size ≤ b ∧ (Value.slice sa sn sc).ownBlock ≠ some b) m W rs[j] ps[j]) → ∀ j (h1 : j < (rs ++ [r]).length) (h2 : j < ps.length), RdPrt (fun b => w5.heap.size ≤ b ∧ (Value.slice sa sn sc).ownBlock ≠ some b) m W (rs ++ [r])[j] ps[j] from fun W r h1 h2 j k1 k2 => by
          by_cases hj : j < rs.length
          · rw [List.getElem_append_left hj]; exact h2 j hj k2
          · obtain rfl : j = k := by simp at k1; omega
            rw [List.getElem_append_right (by omega)]
            simp only [List.getElem_singleton]
            exact h1)
        clear hcell
        generalize ps[k] = q at hq1 hq2 HSN
        generalize raws[k]'(by omega) = raw at hq1 c0 c1 c2 c3
        have hI := fun W h => ih raw q W h hq2
        obtain ⟨⟨ra, rn, rcp⟩, rb, rm, ⟨ra', rn', rcp'⟩⟩ := raw
        simp only [prtV, slv, prtC, Nat.add_zero, List.getElem?_cons_zero, List.getElem?_cons_succ] at c0 c1 c2 c3 hI
        have kt := Blk.new wr #[.slice ra rn rcp, .string ⟨rb.toArray⟩, .bool rm, .slice ra' rn' rcp'] 44
        have BA := (Below.refl wr.heap.size wr).alloc (Nat.le_refl _) (.cells #[.slice ra rn rcp, .string ⟨rb.toArray⟩, .bool rm, .slice ra' rn' rcp'] 44)
        have hk1 := hk1.next BA hk1.lt
        have hk2 := hk2.next BA hk2.lt
        have hown := OwnG.next hown BA
        have hownp := OwnG.next hownp BA
        have B1 := B.trans (BA.mono B.size)
        have hI := hI _ (hq1.next BA)
        have HR := Lib.hid (fun j h1 h2 => (HR.out j h1 h2).next BA)
        have hsz1 : (wr.alloc (.cells #[.slice ra rn rcp, .string ⟨rb.toArray⟩, .bool rm, .slice ra' rn' rcp'] 44)).heap.size = wr.heap.size + 1 := by simp
        have ktc := kt.cell
        clear BA B hq1 hq2
        go_wp2_with fail
        generalize World.alloc _ _ = W1 at hk1 hk2 hown hownp B1 hI HR hsz1 ktc kt ⊢
        with_reducible refine hI.mono ?_
        rintro e w8 ⟨⟨raw', rfl, hrw⟩, b8⟩
        have hk1 := hk1.next b8 hk1.lt
        have hk2 := hk2.next b8 hk2.lt
        have hown := OwnG.next hown b8
        have hgo := OwnG.own_lt hownp
        have hownp := OwnG.next hownp b8
        have B8 := B1.trans (b8.mono B1.size)
        have HR := Lib.hid (HSN.out w8 raw' (RdPrt.weak (fun b h _ => ⟨by omega, fun e => by have := hgo b e; omega⟩) hrw) (fun j h1 h2 => (HR.out j h1 h2).next b8))
        have hgo2 := OwnG.own_ge hownp
        have hs8 := b8.size
        clear hI c0 c1 c2 c3 B1 kt ktc b8 HSN hrw hgo
        obtain ⟨⟨qa, qn, qcp⟩, qb, qm, ⟨qa', qn', qcp'⟩⟩ := raw'
        go_wp2_with (at_builtin; refine appPr rfl _ _ rfl w5.heap.size _ rs ((qa, qn, qcp), qb, qm, (qa', qn', qcp')) w8.heap.size 1 rfl (OwnG.alloc hownp _) rfl (cellPr1 _ ((qa, qn, qcp), qb, qm, (qa', qn', qcp')) _ _ rfl) (by omega) (by simp; omega) ?_; intro v' w9 hownp9 hg9 hb9 hob; obtain ⟨sa', sn', sc', rfl⟩ := hownp9.shape)
        have BA := (Below.refl w8.heap.size w8).alloc (Nat.le_refl _) (.cells #[.slice qa qn qcp, .string ⟨qb.toArray⟩, .bool qm, .slice qa' qn' qcp'] 44)
        have hk1 := (hk1.next BA hk1.lt).next hb9 (by omega)
        have hk2 := (hk2.next BA hk2.lt).next hb9 (by omega)
        have hown := (OwnG.next hown BA).grown hg9 (fun g hg e => by have h1 := hlt4 g hg; have h2 := hgo2 g e; omega)
        have B9 := (B8.trans (BA.mono B8.size)).trans (hb9.mono (by omega))
        have hs9 := hb9.size
        rw [World.size_alloc] at hs9
        have HR := Lib.hid (fun j h1 h2 => RdPrt.weak (Q := fun b => w5.heap.size ≤ b ∧ (Value.slice sa' sn' sc').ownBlock ≠ some b) (fun b h _ => ⟨h.1.1, h.2⟩) ((RdPrt.weak (Q := fun b => (w5.heap.size ≤ b ∧ (Value.slice sa sn sc).ownBlock ≠ some b) ∧ (Value.slice sa' sn' sc').ownBlock ≠ some b) (fun b h hlt => ⟨h, fun e => by
            rcases hob with ho | ho
            · exact h.2 (ho ▸ e)
            · rw [ho] at e; injection e with e; omega⟩) ((HR.out j h1 h2).next BA)).grown hg9 (fun b h e => h.1.2 e.symm)))
        clear BA hgo2 hg9 hb9 hob hownp B8
        go_wp2_with fail
        go_roundw
        case rel => exact ⟨k + 1, rs ++ [((qa, qn, qcp), qb, qm, (qa', qn', qcp'))], (sa', sn', sc'), by go_num, rfl, by omega, by simp; omega, hownp9, hown, HR, hk1, hk2, B9, by omega⟩
        case measure => simp [intOf]; omega
      · obtain rfl : k = ps.length := by omega
        have hgo2 := OwnG.own_ge hownp
        have hst : Blk (wr.setCell ⟨w.heap.size, 3, none⟩ (.slice sa sn sc)) w.heap.size #[.slice a4 h.length c4, .string ⟨body.toArray⟩, .bool m', .slice sa sn sc] 44 := hk1.set 3 _
        have k1 := hk1.cell
        have f1 := hk1.free
        have ks := hst.cell
        have hk2 := hk2.setO (a := ⟨w.heap.size, 3, none⟩) (by simp only; omega) (.slice sa sn sc)
        have k2 := hk2.cell
        have f2 := hk2.free
        go_wp2_with fail
        refine bodyPost_ret (v := .agg #[.slice a4 h.length c4, .string ⟨body.toArray⟩, .bool m', .slice sa sn sc]) (by simp [results, Tryz.results38, go_sem, k2]) rfl ⟨⟨((a4, h.length, c4), body, m', (sa, sn, sc)), rfl, rfl, rfl, ?_, rs, ?_, hrs, ?_, fun j h1 h2 => ?_⟩, ?_⟩
        · exact OwnG.mono (((((hown.setO (by simp only; omega) _).setO (by simp only; omega) _).setO (by simp only; omega) _).setO (by simp only; omega) _).setO (by simp only; omega) _) (by omega)
        · exact OwnG.mono (((((hownp.setO (by simp only; omega) _).setO (by simp only; omega) _).setO (by simp only; omega) _).setO (by simp only; omega) _).setO (by simp only; omega) _) (by omega)
        · intro g hg e
          have h1 := hlt4 g hg
          have h2 := hgo2 g e
          omega
        · exact RdPrt.weak (fun b h _ => ⟨by omega, fun e => by have := hlt4 b e; omega, h.2⟩) ((((((HR.out j h1 h2).set _ (fun h => by have := h.1; simp only at this; omega)).set _ (fun h => by have := h.1; simp only at this; omega)).set _ (fun h => by have := h.1; simp only at this; omega)).set _ (fun h => by have := h.1; simp only at this; omega)).set _ (fun h => by have := h.1; simp only at this; omega))
        · go_grown
  induction n with
  | zero => exact fun raw p w hr hp => hmain 0 raw p w hr hp (fun raw p w hr _ => hr.elim)
  | succ n ih => exact fun raw p w hr hp => hmain (n + 1) raw p w hr hp (fun raw p w hr hp => (ih raw p w hr hp).mono fun _ _ ⟨⟨raw', h1, h2⟩, h3⟩ => ⟨⟨raw', h1, h2.rd⟩, h3⟩)
def adrC (a : Addr) : List Value := a.cells.toList
theorem adrC_len (a : Addr) : (adrC a).length = 8 := rfl
theorem adrC_one (a : Addr) : ∀ u ∈ adrC a, u.oneCell' = true := fun u hu => by
  simp [adrC] at hu
  rcases hu with rfl | rfl | rfl | rfl | rfl | rfl | rfl | rfl <;> rfl
theorem infoAdr : (Tryz.prog.info? 36).map (fun i => (i.zero, i.size, i.bytes)) = some (some (.agg #[.string ByteArray.empty, .bool false, .string ByteArray.empty, .string ByteArray.empty, .bool false, .string ByteArray.empty, .bool false, .string ByteArray.empty]), 8, 104) := by kernel_rfl
abbrev OwnA (w : World) (B : Nat) (v : Value) (l : List Addr) : Prop := OwnG 36 8 adrC w B v l
def bndC (raw : PRaw) (root : Nat) (sa si : Slc) : Array Value := #[slv raw.1, .string ⟨raw.2.1.toArray⟩, .bool raw.2.2.1, slv raw.2.2.2, .int .i64 (root : Int), slv sa, slv si]
def RdBnd (P : Nat → Prop) (w : World) (bp : Nat) (b : Bnd) : Prop :=
  ∃ (raw : PRaw) (sa si : Slc), P bp ∧ Blk w bp (bndC raw b.root sa si) 83 ∧ RdPrt P 4 w raw b.whole ∧ RdB 8 adrC P w (slv sa) b.places ∧ RdB 1 strC P w (slv si) b.ids
theorem RdBnd.keep {P : Nat → Prop} {w w' : World} {bp : Nat} {b : Bnd} (h : RdBnd P w bp b) (hs : w.heap.size ≤ w'.heap.size) (hk : ∀ b, P b → b < w.heap.size → w'.heap[b]? = w.heap[b]?) : RdBnd P w' bp b := by
  obtain ⟨raw, sa, si, h1, h2, h3, h4, h5⟩ := h
  exact ⟨raw, sa, si, h1, (hk bp h1 h2.lt).trans h2, RdPrt.keep hs hk h3, h4.keep hs hk, h5.keep hs hk⟩
theorem RdBnd.next {P : Nat → Prop} {w w' : World} {bp : Nat} {b : Bnd} (h : RdBnd P w bp b) (hb : Below w.heap.size w w') : RdBnd P w' bp b := h.keep hb.size fun b _ hlt => hb.block b hlt
theorem RdBnd.weak {P Q : Nat → Prop} {w : World} {bp : Nat} {b : Bnd} (hP : ∀ b, P b → b < w.heap.size → Q b) (h : RdBnd P w bp b) : RdBnd Q w bp b := by
  obtain ⟨raw, sa, si, h1, h2, h3, h4, h5⟩ := h
  exact ⟨raw, sa, si, hP bp h1 h2.lt, h2, RdPrt.weak hP h3, h4.weak hP, h5.weak hP⟩
structure BndIn (b : Bnd) : Prop where
  whole : PrtSm 4 b.whole
  places : b.places.length = b.whole.parts.length
  ids : b.ids.length = b.whole.parts.length
  placeL : ∀ a ∈ b.places, a.len ≤ 1000000
  idL : ∀ s ∈ b.ids, s.length ≤ 1000000
theorem PrtSm.in : ∀ {n : Nat} {p : Prt}, PrtSm n p → PrtIn n p
  | 0, _, h => h.elim
  | _ + 1, .mk _ _ _ _, ⟨h1, h2, h3, h4⟩ => ⟨by omega, by omega, by omega, fun p hp => (h4 p hp).in⟩
set_option maxHeartbeats 4000000 in
set_option maxRecDepth 100000 in
theorem root_any (P : Nat → Prop) (bp : Nat) (b : Bnd) (w : World) (h : RdBnd P w bp b) :
    Calls Tryz.prog 13 #[.pointer (some ⟨bp, 0, none⟩)] w fun e w' => e = .returned (.int .i64 (b.root : Int)) ∧ w = w' := by
  obtain ⟨raw, sa, si, h1, h2, _⟩ := h
  have kc := h2.cell
  unfold bndC at kc
  go_enter Tryz.func13, Tryz.ntmps13
  go_wp2_with fail
  go_ret
  exact ⟨rfl, rfl⟩
theorem fieldP3 (v1 v2 v3 v4 : Value) (w : World) : (Instr.field 44 (.agg #[v1, v2, v3, v4]) 3).run Tryz.prog w = .ok v4 w := by kernel_rfl
set_option maxHeartbeats 4000000 in
set_option maxRecDepth 100000 in
theorem parts_any (P : Nat → Prop) (bp : Nat) (b : Bnd) (w : World) (h : RdBnd P w bp b) (hin : PrtSm 4 b.whole) :
    Calls Tryz.prog 14 #[.pointer (some ⟨bp, 0, none⟩)] w fun e w' => (∃ v raws, e = .returned v ∧ OwnPr w' w.heap.size v raws ∧ raws.length = b.whole.parts.length ∧ ∀ k (h1 : k < raws.length) (h2 : k < b.whole.parts.length), RdPrt (fun b => w.heap.size ≤ b) 3 w' raws[k] b.whole.parts[k]) ∧ Below w.heap.size w w' := by
  obtain ⟨raw, sa, si, h1, h2, h3, _⟩ := h
  have hC := pclone_any 3 raw b.whole w (RdPrt.weak (fun _ _ _ => trivial) h3) hin.in
  have kc := h2.cell
  obtain ⟨⟨ra, rn, rc⟩, rb, rm, ⟨ra', rn', rc'⟩⟩ := raw
  unfold bndC at kc
  simp only [prtV, slv] at kc hC
  clear h3
  go_enter Tryz.func14, Tryz.ntmps14
  go_wp2_with fail
  with_reducible refine hC.mono ?_
  rintro e w1 ⟨⟨raw', rfl, hcl⟩, b1⟩
  obtain ⟨⟨qa, qn, qc⟩, qb, qm, ⟨qa', qn', qc'⟩⟩ := raw'
  obtain ⟨_, _, _, raws, h4, h5, _, h6⟩ := hcl
  simp only [slv] at h4
  have hf := fieldP3
  go_wp2_with fail
  go_ret
  exact ⟨⟨_, raws, rfl, h4, h5, fun k k1 k2 => RdPrt.weak (fun b h _ => h.1) (h6 k k1 k2)⟩, b1⟩
def atV : Option Addr → Value
  | none => .tuple #[Addr.zero.val, .iface 30 (.int .i64 2)]
  | some a => .tuple #[a.val, .nilIface]
set_option maxHeartbeats 8000000 in
set_option maxRecDepth 100000 in
theorem at_any (P : Nat → Prop) (bp : Nat) (b : Bnd) (i : Int) (w : World) (h : RdBnd P w bp b) (hi1 : -9223372036854775808 ≤ i) (hi2 : i ≤ 9223372036854775807) :
    Calls Tryz.prog 15 #[.pointer (some ⟨bp, 0, none⟩), .int .i64 i] w fun e w' => e = .returned (atV (atB b i)) ∧ Below w.heap.size w w' := by
  obtain ⟨raw, sa, si, h1, h2, _, h4, _⟩ := h
  obtain ⟨sa0, sn, sc⟩ := sa
  have hsn : sn = b.places.length := by
    obtain ⟨a, c, e, _⟩ := h4
    injection e
  subst hsn
  have hk2 := Blk.new w zCells 36
  have k2 := hk2.cell
  have f2 := hk2.free
  have kc := (h2.alloc (.cells zCells 36)).cell
  unfold bndC at kc
  simp only [slv] at kc h4
  have h4 := h4.next ((Below.refl w.heap.size w).alloc (Nat.le_refl _) (.cells zCells 36))
  by_cases h0 : i < 0
  · have HN := Lib.hid (show atB b i = none from by unfold atB; rw [if_pos h0])
    go_enter Tryz.func15, Tryz.ntmps15
    go_wp2_with fail
    refine bodyPost_ret (v := .tuple #[Addr.zero.val, .iface 30 (.int .i64 2)]) (by simp [results, Tryz.results15, go_sem, Addr.zero, k2]) rfl ⟨by rw [HN.out]; rfl, ?_⟩
    go_grown
  · by_cases hlt : i < b.places.length
    case neg =>
      have HN := Lib.hid (show atB b i = none from by unfold atB; rw [if_neg h0]; exact List.getElem?_eq_none (by omega))
      have hge : (b.places.length : Int) ≤ i := by omega
      go_enter Tryz.func15, Tryz.ntmps15
      go_wp2_with fail
      refine bodyPost_ret (v := .tuple #[Addr.zero.val, .iface 30 (.int .i64 2)]) (by simp [results, Tryz.results15, go_sem, Addr.zero, k2]) rfl ⟨by rw [HN.out]; rfl, ?_⟩
      go_grown
    obtain ⟨k, rfl⟩ : ∃ k : Nat, i = k := ⟨i.toNat, by omega⟩
    have hk : k < b.places.length := by omega
    have HN := Lib.hid (show atB b (k : Int) = some b.places[k] from by unfold atB; rw [if_neg h0]; simp [hk])
    obtain ⟨pb, rfl, _, hpb, hcell⟩ := h4.at adrC_len k hk
    generalize b.places[k] = a at HN hcell
    have c0 := hcell 0 (by decide)
    have c1 := hcell 1 (by decide)
    have c2 := hcell 2 (by decide)
    have c3 := hcell 3 (by decide)
    have c4 := hcell 4 (by decide)
    have c5 := hcell 5 (by decide)
    have c6 := hcell 6 (by decide)
    have c7 := hcell 7 (by decide)
    simp only [adrC, Nat.add_zero, List.getElem?_cons_zero, List.getElem?_cons_succ] at c0 c1 c2 c3 c4 c5 c6 c7
    have i0 : (0 : Int) ≤ k := by omega
    clear hcell h4 h0
    go_enter Tryz.func15, Tryz.ntmps15
    go_wp2_with fail
    refine bodyPost_ret (v := .tuple #[a.val, .nilIface]) (by simp [results, Tryz.results15, go_sem]) rfl ⟨by rw [HN.out]; rfl, ?_⟩
    go_grown
end Go.Proofs.YtignjjnflcpiiaaGreatDoor
