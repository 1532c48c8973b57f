/- DeskPieces. Condition: what the variables hold; lengths that a sum of two takes; Out of the row's laid variables: what the walks ask of an array of strings. No condition; A contract of a call run alone gives the leaving form. No condition; The wrap of a contract into the leaving form of a row with a. -/
import Derived.Carry
import Derived.ChangeMaps5
import Derived.Conc.HoldsTime
import Derived.Handed
import Derived.HandedShaped
import Derived.JoinedOf
import Derived.KernelRfl
import Derived.LaidHandle
import Derived.LaidMore
import Derived.Lay
import Derived.Leaving
import Derived.Lib.LaidTab
import Derived.Lib.LaidU8
import Derived.OpenShut
import Derived.ProofKit
import Derived.Seven
import Derived.SevenTiedAt
import Derived.Stop.Joined
import Derived.Test.YtignjjnflcpiiaaGreatDoorCards
import Derived.Test.YtignjjnflcpiiaaGreatDoorChecked
import Derived.Test.YtignjjnflcpiiaaGreatDoorQ38
import Derived.Test.YtignjjnflcpiiaaGreatDoorRows
import Derived.Test.YtignjjnflcpiiaaGreatDoorTie
namespace Go.Proofs.YtignjjnflcpiiaaGreatDoor
open Go Go.RowKit
theorem session_ok (s : Bs) (w : World) (hg : Gz w) (hs : s.length ≤ 2502) :
    Calls Tryz.prog 27 #[.string ⟨s.toArray⟩] w fun e w' => e = .returned (.string ⟨(sessC s).toArray⟩) ∧ Below w.heap.size w w' := by
  unfold sessC
  rw [if_neg (by omega)]
  exact session_any s w hg (by omega) (sess_len s hs)
theorem samp_ok : sessC sampI = sampO := by
  unfold sessC
  rw [if_neg (by decide)]
  exact samp
set_option maxHeartbeats 8000000 in
set_option maxRecDepth 100000 in
theorem pieces_any (a b : Bs) (w : World) (hg : Gz w) (ha : a.length ≤ 4611686018427387903) (hb : b.length ≤ 4611686018427387903) :
    Calls Tryz.prog 5 #[.string ⟨a.toArray⟩, .string ⟨b.toArray⟩] w fun e w' => e = .returned (.bool true) ∧ Below w.heap.size w w' := by
  have hw1 : wrap64 ((a.length : Int) + b.length) = (a.length : Int) + b.length := by unfold wrap64; omega
  by_cases h : a.length + b.length ≤ 2500
  case neg =>
    have h2 : (2500 : Int) < (a.length : Int) + b.length := by omega
    go_enter Tryz.func5, Tryz.ntmps5
    go_wp2_with fail
    go_ret
    exact ⟨rfl, Below.refl _ _⟩
  have h2 : ¬ (2500 : Int) < (a.length : Int) + b.length := by omega
  have hS1 := session_ok sampI w hg (by decide)
  rw [samp_ok] at hS1
  have hS2 := fun W hW => session_ok (a ++ [10]) W hW (by simp; omega)
  have hS3 := fun W hW => session_ok (a ++ [10] ++ b) W hW (by simp; omega)
  obtain ⟨r, hr⟩ := sess_pieces a b h
  rw [← hr, show a ++ [10] ++ b = a ++ 10 :: b from by simp] at hS3
  have hx := sess_len (a ++ [10] ++ b) (by simp; omega)
  have hy : sessC (a ++ [10] ++ b) = linesD ⟨none, []⟩ (splitC 10 (Lib.trimSuffix (a ++ [10] ++ b) [10])) := by
    unfold sessC
    rw [if_neg (by simp; omega)]
  rw [← hy, ← hr] at hx
  clear hy hr
  generalize sessC (a ++ [10]) = x at hS2 hS3 hx
  unfold sampI sampO at hS1
  simp only [List.length_append] at hx
  go_enter Tryz.func5, Tryz.ntmps5
  go_wp2_with fail
  with_reducible refine hS1.mono ?_
  rintro e w1 ⟨rfl, b1⟩
  have hS2 := hS2 w1 (hg.next b1)
  go_wp2_with fail
  with_reducible refine hS2.mono ?_
  rintro e w2 ⟨rfl, b2⟩
  have B2 := b1.trans (b2.mono b1.size)
  have hS3 := hS3 w2 (hg.next B2)
  go_wp2_with fail
  with_reducible refine hS3.mono ?_
  rintro e w3 ⟨rfl, b3⟩
  have B3 := B2.trans (b3.mono B2.size)
  have hle : (x.length : Int) ≤ (x.length : Int) + (r.length : Int) := by omega
  have hb1 : 0 ≤ (x.length : Int) ∧ (x.length : Int) ≤ (x.length : Int) + (r.length : Int) := by omega
  have ht : List.take x.length (x ++ r) = x := by simp
  clear hS1 hS2 hS3 h2 hw1
  go_wp2_with fail
  first | go_ret | trace_state
  exact ⟨rfl, B3⟩
theorem strs_arr {fuel n : Nat} {t e : TypeId} {w : World} {cs : List Value} {ss : List Bs} {p : List MemPlace} (ht : Tryz.prog.underlying t = some (.array n e)) (he : Tryz.prog.underlying e = some .string) (hce : Tryz.prog.cellsOf e = 1) (hct : Tryz.prog.cellsOf t = n)
    (h : DataW.trod (fun _ => ()) Tryz.prog w 0 (fun _ => true) false fuel t cs = some (.agg (ss.map fun s => .lit (.string s)), p)) : cs = ss.map fun s => Value.string ⟨s.toArray⟩ := by
  obtain ⟨xs, m, rfl, hx, hl, hxl, hall⟩ := DataW.trod_array ht h
  have hxs : xs.map (·.1) = ss.map fun s => (DataW.lit (.string s) : DataW Unit) := by
    have := congrArg Prod.fst hx
    simpa using this.symm
  have hsl : ss.length = n := by have := congrArg List.length hxs; simp at this; omega
  apply List.ext_getElem?
  intro i
  by_cases hi : i < n
  · have hf := hall i hi
    rw [hce, Nat.mul_one, List.getElem?_eq_getElem (by omega : i < xs.length)] at hf
    obtain ⟨z, hc, hz, _⟩ := DataW.trod_string he hf
    have h1 : cs[i]? = some (.string z) := by
      have := congrArg (·[0]?) hc
      simpa [List.getElem?_take, List.getElem?_drop] using this
    have h2 : (xs.map (·.1))[i]? = (ss.map fun s => (DataW.lit (.string s) : DataW Unit))[i]? := by rw [hxs]
    simp only [List.getElem?_map, List.getElem?_eq_getElem (by omega : i < xs.length), List.getElem?_eq_getElem (by omega : i < ss.length), Option.map_some, hz] at h2
    rw [h1, List.getElem?_map, List.getElem?_eq_getElem (by omega : i < ss.length)]
    simp at h2
    simp [← h2]
  · rw [List.getElem?_eq_none (by omega), List.getElem?_eq_none (by simp; omega)]
def oursL : List Bs := [[67, 111, 110, 116, 101, 110, 116, 45, 84, 121, 112, 101], [67, 111, 110, 116, 101, 110, 116, 45, 84, 114, 97, 110, 115, 102, 101, 114, 45, 69, 110, 99, 111, 100, 105, 110, 103]]
theorem ours_of {W : World} (h : Lib.VarReads Tryz.prog W "bindery/part.ours" (.agg (oursL.map fun s => .lit (.string s)))) : ∀ k, k < 2 → W.cell? ⟨2, k, none⟩ = oursRow[k]? := by
  obtain ⟨g, t, cs, fuel, p, hg, hty, hv, hd⟩ := h
  obtain rfl := Option.some.inj ((show Tryz.prog.globalNamed "bindery/part.ours" = some 2 by kernel_rfl).symm.trans hg)
  obtain rfl := Option.some.inj ((show (Tryz.prog.globals[2]?).map (·.type) = some 249 by kernel_rfl).symm.trans hty)
  have e := strs_arr Tryz.underlying249 Tryz.underlying9 (by kernel_rfl) (by kernel_rfl) hd
  intro k hk
  rw [World.var?_cell hg hv k, ← Array.getElem?_toList, e]
  rcases (show k = 0 ∨ k = 1 by omega) with rfl | rfl <;> rfl
theorem pow_of {W : World} (h : Lib.VarReads Tryz.prog W "internal/strconv.uint64pow10" (Lib.tabData .u64 Lib.pow10Tab)) : Lib.TabIs Tryz.prog W "internal/strconv.uint64pow10" .u64 Lib.pow10Tab := by
  obtain ⟨g, t, cs, fuel, p, hg, hty, hv, hd⟩ := h
  obtain rfl := Option.some.inj ((show Tryz.prog.globalNamed "internal/strconv.uint64pow10" = some 4 by kernel_rfl).symm.trans hg)
  obtain rfl := Option.some.inj ((show (Tryz.prog.globals[4]?).map (·.type) = some 340 by kernel_rfl).symm.trans hty)
  unfold Lib.TabIs
  rw [hv, ← Lib.cells_of_tab Tryz.underlying340 Tryz.underlying143 (by kernel_rfl) (by kernel_rfl) hd]
def signsL : List (List Bs) := [[[38], [38, 97, 109, 112, 59]], [[34], [38, 113, 117, 111, 116, 59]], [[39], [38, 35, 51, 57, 59]], [[60], [38, 108, 116, 59]], [[62], [38, 103, 116, 59]]]
theorem signs_of {W : World} (h : Lib.VarReads Tryz.prog W "bindery/page.signs" (.agg (signsL.map fun r => .agg (r.map fun s => .lit (.string s))))) : ∀ k, k < 10 → W.cell? ⟨1, k, none⟩ = sigRow[k]? := by
  obtain ⟨g, t, cs, fuel, p, hg, hty, hv, hd⟩ := h
  obtain rfl := Option.some.inj ((show Tryz.prog.globalNamed "bindery/page.signs" = some 1 by kernel_rfl).symm.trans hg)
  obtain rfl := Option.some.inj ((show (Tryz.prog.globals[1]?).map (·.type) = some 250 by kernel_rfl).symm.trans hty)
  obtain ⟨xs, m, rfl, hx, hl, hxl, hall⟩ := DataW.trod_array Tryz.underlying250 hd
  have hxs : xs.map (·.1) = signsL.map fun r => (DataW.agg (r.map fun s => .lit (.string s)) : DataW Unit) := by
    have := congrArg Prod.fst hx
    simpa using this.symm
  have hce : Tryz.prog.cellsOf 249 = 2 := by kernel_rfl
  have row : ∀ (i : Nat) (r : List Bs), signsL[i]? = some r → i < 5 → ((cs.toList.drop (i * 2)).take 2) = r.map fun s => Value.string ⟨s.toArray⟩ := fun i r hr hi => by
    have hf := hall i hi
    rw [hce] at hf
    have h2 : (xs.map (·.1))[i]? = some (DataW.agg (r.map fun s => .lit (.string s)) : DataW Unit) := by rw [hxs, List.getElem?_map, hr]; rfl
    rw [List.getElem?_map, Option.map_eq_some_iff] at h2
    obtain ⟨⟨y, q⟩, hy, rfl⟩ := h2
    rw [hy] at hf
    exact strs_arr Tryz.underlying249 Tryz.underlying9 (by kernel_rfl) (by kernel_rfl) hf
  intro k hk
  rw [World.var?_cell hg hv k, ← Array.getElem?_toList]
  have key : ∀ (i j : Nat) (r : List Bs), signsL[i]? = some r → i < 5 → j < 2 → cs.toList[i * 2 + j]? = (r.map fun s => Value.string ⟨s.toArray⟩)[j]? := fun i j r hr hi hj => by
    rw [← row i r hr hi, List.getElem?_take, if_pos hj, List.getElem?_drop]
  rcases (show k = 0 ∨ k = 1 ∨ k = 2 ∨ k = 3 ∨ k = 4 ∨ k = 5 ∨ k = 6 ∨ k = 7 ∨ k = 8 ∨ k = 9 by omega) with rfl | rfl | rfl | rfl | rfl | rfl | rfl | rfl | rfl | rfl
  · exact key 0 0 _ rfl (by decide) (by decide)
  · exact key 0 1 _ rfl (by decide) (by decide)
  · exact key 1 0 _ rfl (by decide) (by decide)
  · exact key 1 1 _ rfl (by decide) (by decide)
  · exact key 2 0 _ rfl (by decide) (by decide)
  · exact key 2 1 _ rfl (by decide) (by decide)
  · exact key 3 0 _ rfl (by decide) (by decide)
  · exact key 3 1 _ rfl (by decide) (by decide)
  · exact key 4 0 _ rfl (by decide) (by decide)
  · exact key 4 1 _ rfl (by decide) (by decide)
theorem iface_of {fuel : Nat} {t : TypeId} {w : World} {cs : List Value} {x : DataW Unit × List MemPlace} {ms} (ht : Tryz.prog.underlying t = some (.interface ms)) (h : DataW.trod (fun _ => ()) Tryz.prog w 0 (fun _ => true) false fuel t cs = some x) :
    cs = [.nilIface] ∨ ∃ u v, cs = [.iface u v] := by
  cases fuel with
  | zero => simp [DataW.trod] at h
  | succ m =>
    unfold DataW.trod at h
    rw [ht] at h
    split at h <;> simp_all
theorem errVar_of {W : World} {name : String} {g : Nat} {d : DataW Unit} (hg : Tryz.prog.globalNamed name = some g) (hty : (Tryz.prog.globals[g]?).map (·.type) = some 25) (h : Lib.VarReads Tryz.prog W name d) : ∃ ev, W.cell? ⟨g, 0, none⟩ = some ev ∧ (ev = .nilIface ∨ ∃ te pe, ev = .iface te pe) := by
  obtain ⟨g', t, cs, fuel, p, hg', hty', hv, hd⟩ := h
  obtain rfl := Option.some.inj (hg.symm.trans hg')
  obtain rfl := Option.some.inj (hty.symm.trans hty')
  have hc := World.var?_cell hg hv 0
  rw [← Array.getElem?_toList] at hc
  rcases iface_of Tryz.underlying25 hd with e | ⟨u, v, e⟩
  · rw [e] at hc
    exact ⟨_, hc, Or.inl rfl⟩
  · rw [e] at hc
    exact ⟨_, hc, Or.inr ⟨_, _, rfl⟩⟩
theorem gz_of {W : World} {dS dR : DataW Unit} (hG : Ground W) (h1 : Lib.VarReads Tryz.prog W "bindery/page.signs" (.agg (signsL.map fun r => .agg (r.map fun s => .lit (.string s))))) (h2 : Lib.VarReads Tryz.prog W "bindery/part.ours" (.agg (oursL.map fun s => .lit (.string s))))
    (h3 : Lib.VarReads Tryz.prog W "internal/strconv.uint64pow10" (Lib.tabData .u64 Lib.pow10Tab)) (h4 : Lib.VarReads Tryz.prog W "strconv.ErrSyntax" dS) (h5 : Lib.VarReads Tryz.prog W "strconv.ErrRange" dR)
    (he : W.cell? ⟨0, 0, none⟩ = some (.iface 262 (.agg #[.pointer (some ⟨12, 25, none⟩)]))) : Gz W :=
  ⟨⟨hG, signs_of h1, ours_of h2, he⟩, pow_of h3, errVar_of (by kernel_rfl) (by kernel_rfl) h4, errVar_of (by kernel_rfl) (by kernel_rfl) h5⟩
theorem leaving_of_alone {P : Program} {last : Machine} {w : World} {t : Trace} (h : aloneAtReturn P last w t) : leavingAtReturn P last w t := by
  obtain ⟨h1, h2, h3⟩ := h
  exact ⟨h2, onlyLeaving_of_quiet h1, h3⟩
theorem returnsInLeavingWide_of_calls {a : Assume} {C : Checked} {os : Os} {f : FuncId} {r : Reach} {Pre : World → Array Value → Prop} {Post : World → Array Value → Value → World → Prop}
    (own : ownKnob C.prog.godebug = none) (started : os.Started) (noInit : C.prog.inits.idxOf? f = none)
    (witness : ∃ (w : World) (tape : Tape) (i : Input), w.os = os ∧ (w.forCall tape i).Shaped C.prog ∧ i.vars = [] ∧ Input.okWide C.prog (w.forCall tape i) r w.heap.size f i ∧ Pre (w.forCall tape i).memory i.args ∧
      a.holds C.prog (lone (Frame.enter C.prog f i.args .normal) [] (w.forCall tape i)))
    (contract : ∀ (w : World) (tape : Tape) (i : Input), w.os = os → (w.forCall tape i).ShapedOpen C.prog → i.vars = [] → Input.okWide C.prog (w.forCall tape i) r w.heap.size f i → Pre (w.forCall tape i).memory i.args →
      a.holds C.prog (lone (Frame.enter C.prog f i.args .normal) [] (w.forCall tape i)) →
      Calls C.prog f i.args (w.forCall tape i) fun
        | .returned v, w' => Post (w.forCall tape i).blind i.args v w'.blind
        | _, _ => False) :
    ReturnsInLeavingWide a C os f r Pre Post := fun enter => by
  obtain ⟨w0, t0, i0, a1, a2, a3, a4, a5, a6⟩ := witness
  refine ⟨enter, own, started, ⟨w0, t0, i0, a1, a2, a3, a4, a5, a6, trivial⟩, fun w tape i h => ?_⟩
  obtain ⟨n, v, w', fr, hn, hend, hp⟩ := (contract w tape i h.1 h.2.1 h.2.2.1 h.2.2.2.1 h.2.2.2.2.1 h.2.2.2.2.2.1).done_lone noInit
  exact ⟨n + 1, v, w', hend, (clean_of_lone hn).2, roomy_placeholder .., hp, ⟨n, _, hn, step_of_runs hn hend, leaving_of_alone (alone_of_lone hn)⟩, fun _ _ _ => trivial⟩
end Go.Proofs.YtignjjnflcpiiaaGreatDoor
namespace Go.Proofs.YtignjjnflcpiiaaGreatDoor
open Go Go.ChangeShapes Go.WideShapes Go.ChangeAt Go.RowKit Go.Conc Go.ConcM
theorem wrapLv {H : Type} {enc : TypeId × Value → H} {a : Assume} {C : Checked} {os : Os} {f : FuncId} {fn : Func} {s : ChangeSpec} {F : Stop.Interp} {conds : List PathCond} {apart fresh handsOn : Bool} {X : World → Array Value → Prop}
    (hX : ∀ (w w' : World) (args : Array Value), w.heap = w'.heap → X w args → X w' args)
    (own : ownKnob C.prog.godebug = none) (started : os.Started) (noInit : C.prog.inits.idxOf? f = none) (hfn : C.prog.funcs[f]? = some fn)
    (witness : ∃ (w : World) (tape : Tape) (i : Input), w.os = os ∧ (w.forCall tape i).Shaped C.prog ∧ i.vars = [] ∧ Input.okWide C.prog (w.forCall tape i) .any w.heap.size f i ∧
      ((s.pre enc C.prog fn conds apart (w.forCall tape i).memory i.args ∧ X (w.forCall tape i).memory i.args) ∧ sizedMet enc C.prog fn (OpenSpec.ofChange s) apart (w.forCall tape i).memory i.args) ∧ a.holds C.prog (lone (Frame.enter C.prog f i.args .normal) [] (w.forCall tape i)))
    (contract : ∀ (W : World) (base : Nat) (args : Array Value) (ds gs : List (DataW H)) (before : List MemPlace),
      (∀ (j : Nat) t v, fn.params[j]? = some t → args[j]? = some v → Value.okWide C.prog W .any base t v) →
      DataW.Whole enc C.prog fn.params.toList s.vars apart W args.toList ds gs before →
      (DataW.weightsEach C.prog (fn.params.toList ++ s.plain.varTypes C.prog) (ds ++ gs)).all (· ≤ reachBytes) = true → X W args →
      W.ShapedOpen C.prog →
      Calls C.prog f args W fun e W' => ∃ v, e = .returned v ∧ s.post enc C.prog fn apart fresh handsOn false W args v W' ∧ W'.os = W.os) :
    ReturnsInLeavingWide a C os f .any (fun w args => (s.pre enc C.prog fn conds apart w args ∧ X w args) ∧ sizedMet enc C.prog fn (OpenSpec.ofChange s) apart w args) ((OpenSpec.ofChange s).postWith enc C.prog fn F (outsideKept [.timePasses]) apart fresh handsOn) := by
  refine returnsInLeavingWide_of_calls own started noInit witness ?_
  intro w tape i _ hsh _ hok hpre hholds
  obtain ⟨_, _, _, fn', hfn', _, _, _, _, hval⟩ := hok
  have e : fn' = fn := Option.some.inj (hfn'.symm.trans hfn)
  subst e
  obtain ⟨⟨⟨ds, gs, before, hw, hc⟩, hx⟩, hz⟩ := hpre
  have hw' := DataW.Whole.of_heap (w' := w.forCall tape i) (by rfl) hw
  refine (contract (w.forCall tape i) w.heap.size i.args ds gs before hval hw' (hz.weights hw) (hX _ _ _ (by rfl) hx) hsh).mono fun e W' ⟨v, he, hp, ho⟩ => ?_
  subst he
  refine postWith_blind (postWith_of_post ?_ (ho ▸ OsLater.refl _))
  rw [← ho]
  exact hp
end Go.Proofs.YtignjjnflcpiiaaGreatDoor
namespace Go.Proofs.YtignjjnflcpiiaaGreatDoor
open Go Go.ChangeShapes Go.WideShapes Go.ChangeAt Go.RowKit Go.ChangeMaps
abbrev laidDP : List (String × DataW Unit) := Rows.deskPiecesRow.laid
theorem seatOwnZ : ownKnob Tryz.prog.godebug = none := by kernel_rfl
theorem et_rtZ : (Tryz.prog.cutTypes.find? (·.1 == "internal/reflectlite.rtype")).map (·.2) = some 262 := by kernel_rfl
theorem et_rowZ : ((List.range 1000).filter fun t => Tryz.prog.rowNamed t [101, 114, 114, 111, 114]) = [25] := by kernel_rfl
theorem et_sizeZ : Tryz.prog.types.size ≤ 1000 := of_decide_eq_true (by kernel_rfl)
theorem gz_of_laid {W : World} (hG : Ground W) (h : laidMetH Tryz.prog laidDP W) : Gz W := by
  have h' : laidMet Tryz.prog (laidDP.filter fun x => x.2.handleName?.isNone) W ∧ handlesMet Tryz.prog [("errors.errorType", Rows.laid_errors_errorType)] W := h
  obtain ⟨name, u, ty, e1, e2, e3, e4, e5⟩ := h'.2 _ (List.mem_singleton.2 rfl)
  have en : name = [101, 114, 114, 111, 114] := (Option.some.inj e1).symm
  subst en
  obtain rfl := Option.some.inj (et_rtZ.symm.trans e2)
  have hm : ty ∈ (List.range 1000).filter fun t => Tryz.prog.rowNamed t [101, 114, 114, 111, 114] := List.mem_filter.2 ⟨List.mem_range.2 (Nat.lt_of_lt_of_le e3 et_sizeZ), e4⟩
  rw [et_rowZ] at hm
  obtain rfl := List.mem_singleton.1 hm
  have hh : typeHandle Tryz.prog 25 = .pointer (some ⟨12, 25, none⟩) := by kernel_rfl
  rw [hh] at e5
  have hr := fun n d (hm : (n, d) ∈ laidDP.filter fun x => x.2.handleName?.isNone) => Lib.laidMet.reads h'.1 hm
  exact gz_of hG (hr "bindery/page.signs" Rows.laid_bindery_page_signs (List.mem_of_getElem? (i := 6) (by kernel_rfl))) (hr "bindery/part.ours" Rows.laid_bindery_part_ours (List.mem_of_getElem? (i := 7) (by kernel_rfl))) (hr _ Rows.laid_internal_strconv_uint64pow10 (List.mem_of_getElem? (i := 2) (by kernel_rfl))) (hr "strconv.ErrSyntax" Rows.laid_strconv_ErrSyntax (List.mem_of_getElem? (i := 5) (by kernel_rfl))) (hr "strconv.ErrRange" Rows.laid_strconv_ErrRange (List.mem_of_getElem? (i := 4) (by kernel_rfl)))
    (by simpa using World.var?_cell (show Tryz.prog.globalNamed "errors.errorType" = some 0 by kernel_rfl) e5 0)
end Go.Proofs.YtignjjnflcpiiaaGreatDoor
namespace Go.Proofs.YtignjjnflcpiiaaGreatDoor
open Go Go.ChangeShapes Go.WideShapes Go.ChangeAt Go.RowKit Go.ChangeMaps Go.Conc Go.ConcM
noncomputable def dpBase (os : Os) : World :=
  let w0 := World.holding Tryz.prog os ⟨#[], #[], []⟩
  { w0 with heap := w0.heap.modify 0 fun
      | .cells _ t frozen => .cells #[.iface 262 (.agg #[.pointer (some ⟨12, 25, none⟩)])] t frozen
      | o => o }
abbrev laidDPd : List (String × DataW Unit) := laidDP.filter fun x => x.2.handleName?.isNone
noncomputable def dpWorld (os : Os) : World := (dpBase os).layVars Tryz.prog laidDPd
set_option maxRecDepth 100000 in
theorem dpWorld_met (os : Os) (args : Array Value) : laidMetH Tryz.prog laidDP ((dpWorld os).forCall (fun _ _ => 0) ⟨#[], args, []⟩).memory := by
  have hd : laidMet Tryz.prog laidDPd (dpWorld os) := laidMet_layVars (w0 := dpBase os) (laidDPd.map (·.1)) [] rfl (by kernel_rfl) (by kernel_rfl) LaidIn.none
  exact laidMetH_of_parts (hd.of_heap (by simp [World.memory, World.forCall, Input.heap])) (by kernel_rfl)
set_option maxRecDepth 100000 in
theorem pieces_lifted (os : Os) (started : os.Started) (H : Type) (enc : TypeId × Value → H) (F : Stop.Interp) :
    ReturnsInLeavingWide Rows.deskPiecesRow.assume Tryz.checked os 5 .any (fun w args => (Rows.deskPiecesSpec.pre enc Tryz.prog Tryz.f5 [] false w args ∧ laidMetH Tryz.prog laidDP w) ∧ sizedMet enc Tryz.prog Tryz.f5 (OpenSpec.ofChange Rows.deskPiecesSpec) false w args)
      ((OpenSpec.ofChange Rows.deskPiecesSpec).postWith enc Tryz.prog Tryz.f5 F (outsideKept [.timePasses]) false true false) := by
  refine wrapLv (C := Tryz.checked) (X := fun w _ => laidMetH Tryz.prog laidDP w) (fun _ _ _ hh h => h.of_heap hh) seatOwnZ started (by kernel_rfl) Tryz.func5 ?_ ?_
  · exact ⟨dpWorld os, fun _ _ => 0, ⟨#[], #[.string ⟨#[]⟩, .string ⟨#[]⟩], []⟩, World.layVars_os _ _ _, World.shaped_of_ZipB (by kernel_rfl) (by kernel_rfl), rfl, (Input.okWide_of_okWideB (by kernel_rfl)).2, ⟨⟨ChangeSpec.pre_of_preB (fuel := 8) (by kernel_rfl), dpWorld_met os _⟩, sizedMet_of_sizedB (fuel := 8) (by kernel_rfl)⟩, by
      change ({ calm := true } : Assume).holds _ _
      simp only [Assume.holds]
      exact ⟨by simp, fun _ _ _ _ => rfl, by simp, by simp, by simp⟩⟩
  intro W base args ds gs before hval0 hW hwt0 hL hsh
  have hval : ∀ (j : Nat) t v, Tryz.f5.params[j]? = some t → args[j]? = some v → Value.okWide Tryz.prog W .any base t v := hval0
  have hwt : (DataW.weightsEach Tryz.prog (Tryz.f5.params.toList ++ Rows.deskPiecesSpec.plain.varTypes Tryz.prog) (ds ++ gs)).all (· ≤ reachBytes) = true := hwt0
  have hG : Ground W := ⟨Tryz.laysM145.s1_3 W hsh⟩
  have hg := gz_of_laid hG hL
  have hW' := hW
  obtain ⟨p, q, hA0, hV, rfl, _, _⟩ := hW
  have hA : DataW.TrodAll enc Tryz.prog W 0 (fun _ => true) true Tryz.f5.params.toList args.toList ds p := hA0
  rw [Tryz.params5] at hA hval hwt
  obtain ⟨v0, v1, d0, d1, p0, p1, rfl, rfl, rfl, h0, h1⟩ := trodAll_two hA
  obtain ⟨rfl, rfl⟩ := trodVars_none hV
  obtain ⟨s, rfl, rfl, rfl, ws⟩ := open_string Tryz.underlying9 (hval 0 9 v0 rfl rfl) h0
  obtain ⟨t, rfl, rfl, rfl, wt⟩ := open_string Tryz.underlying9 (hval 1 9 v1 rfl rfl) h1
  simp only [List.append_nil] at hW'
  have hs : s.data.toList.length ≤ reachBytes := sized_string hwt (j := 0) rfl rfl
  have ht : t.data.toList.length ≤ reachBytes := sized_string hwt (j := 1) rfl rfl
  have hc := pieces_any s.data.toList t.data.toList W hg (Nat.le_trans hs (by decide)) (Nat.le_trans ht (by decide))
  rw [Lib.mk_data, Lib.mk_data] at hc
  refine hc.mono fun e W' ⟨he, hb⟩ => ?_
  subst he
  exact ⟨_, rfl, ⟨_, _, _, [], [], [], hW', trodAll_mk1 (shut_bool Tryz.underlying4 true), trodAll_mk2 (shut_string Tryz.underlying9 ws) (shut_string Tryz.underlying9 wt), rfl, hb.frame _, fun h => by cases h⟩, hb.os⟩
end Go.Proofs.YtignjjnflcpiiaaGreatDoor
namespace Go.Proofs.YtignjjnflcpiiaaGreatDoor
open Go
theorem holds_tied_goes_at (Lk : Looks) {p : Pinned} {s : OpenSpec} {c : OpenClaim} (kinds : List LaidKind) (tests : Bool) (har : Bool × String) (lk g : Bool)
    (hc : c.holds p s) (hw : c.wfByText s = true) (htie : c.laidByTextAt Lk p kinds tests)
    (hst : c.start = .entering) (hnb : c.noBlocks = false ∧ c.again = false) (hm : p.checked.prog.mainIs = some (har.1, har.2.toList)) (hn : (!har.1 && har.2.isEmpty && !lk) = false)
    (hl : ∀ f fn, p.checked.prog.funcNamed c.func = some f → p.checked.prog.funcs[f]? = some fn → lk = p.checked.prog.looks [] ∧ ∀ (j : Nat) t, fn.params[j]? = some t → p.checked.prog.wantsStandIn t = false)
    (hg : g = c.goesBy p.checked.prog) :
    Claim7.holds p (.plain s) { stood := { row := c, standIns := [], harness := har, looks := lk }, kinds := [], alts := [], goes := g, laidByText := true, laidKinds := kinds, laidTests := tests, laidLooks := Lk } := by
  have h6 : ∀ r : OpenClaim, Claim7.isSixth { stood := { row := r, standIns := [], harness := har, looks := lk }, kinds := [] } = false := fun r => by simpa [Claim7.isSixth] using hn
  exact ⟨Claim7.tied_new_at Lk kinds tests (Claim7.new_of_sixth hc har lk hst hnb hm (h6 c) hl) hw, (fun D hD => nomatch (show D ∈ ([] : List (List PathCond)) from hD)), htie, (fun h => nomatch (show false = true from h)), hg⟩
theorem jf0 : Rows.deskPiecesRow.wf (OpenSpec.ofChange Rows.deskPiecesSpec) = true := by kernel_rfl
theorem jf1 : laidOutB Tryz.pinned.checked.prog = true := by kernel_rfl
theorem jf2 : mapsRowed Tryz.pinned.checked.prog = true := by kernel_rfl
theorem jf3 : (Rows.deskPiecesRow.inPlace == Tryz.pinned.checked.prog.inPlace 5) = true := by kernel_rfl
theorem jf4 : (Rows.deskPiecesRow.unfollowed == Tryz.pinned.checked.prog.unfollowed 5) = true := by kernel_rfl
theorem jf5 : (Rows.deskPiecesRow.recurses == Tryz.pinned.checked.prog.recurses 5) = true := by kernel_rfl
theorem jf6 : (Rows.deskPiecesRow.named == Tryz.pinned.checked.prog.varsNamed 5) = true := by kernel_rfl
theorem jf7 : (Rows.deskPiecesRow.plainKeys == Tryz.pinned.checked.prog.plainKeys) = true := by kernel_rfl
theorem jf8 : Tryz.pinned.checked.prog.stopsHeard = true := by kernel_rfl
theorem jf9 : Tryz.pinned.checked.prog.mayEnter = true := by kernel_rfl
theorem jf10 : (Rows.deskPiecesRow.lifted == Tryz.pinned.checked.prog.liftsFinal) = true := by kernel_rfl
theorem jf11 : (Tryz.pinned.checked.prog.make == some Rows.deskPiecesRow.make) = true := by kernel_rfl
theorem jf12 : namedTie Tryz.pinned.checked.prog Rows.deskPiecesRow.named Rows.deskPiecesSpec.vars = true := by kernel_rfl
theorem jf_and {a b : Bool} (h : a = true) (k : b = true) : (a && b) = true := by rw [h, k]; rfl
theorem dp_closed : joinedFacts Tryz.pinned.checked.prog 5 Tryz.f5 Rows.deskPiecesSpec Rows.deskPiecesRow = true := by
  unfold joinedFacts
  repeat' with_reducible refine jf_and ?_ ?_
  all_goals first | with_reducible exact jf0 | with_reducible exact jf1 | with_reducible exact jf2 | with_reducible exact jf3 | with_reducible exact jf4 | with_reducible exact jf5 | with_reducible exact jf6 | with_reducible exact jf7 | with_reducible exact jf8 | with_reducible exact jf9 | with_reducible exact jf10 | with_reducible exact jf11 | with_reducible exact jf12 | kernel_rfl
theorem dp_named : Tryz.pinned.checked.prog.funcNamed Rows.deskPiecesRow.func = some 5 := by kernel_rfl
theorem dp_inst : Tryz.f5.isInstance Tryz.pinned.checked.prog Rows.deskPiecesRow.origin Rows.deskPiecesRow.targs := of_decide_eq_true (by kernel_rfl)
theorem dp_wrap : Tryz.f5.isWrapper Tryz.pinned.checked.prog Rows.deskPiecesRow.wrapper Rows.deskPiecesRow.mainSum := by unfold Func.isWrapper; rw [if_neg (of_decide_eq_false (by kernel_rfl))]; exact ⟨rfl, rfl⟩
theorem dp_wft : Rows.deskPiecesRow.wfByText (OpenSpec.ofChange Rows.deskPiecesSpec) = true := by kernel_rfl
theorem dp_main : Tryz.pinned.checked.prog.mainIs = some (true, "6f0251da0188cf8eafed328b06f003c29786626d0e54394887c6c4c50c66b9af".toList) := by kernel_rfl
theorem dp_looks : true = Tryz.pinned.checked.prog.looks [] := by kernel_rfl
theorem dp_stand : ([9, 9].all fun u => !Tryz.prog.wantsStandIn u) = true := by kernel_rfl
theorem dp_goes : true = Rows.deskPiecesRow.goesBy Tryz.pinned.checked.prog := by kernel_rfl
end Go.Proofs.YtignjjnflcpiiaaGreatDoor
namespace Go.Proofs.YtignjjnflcpiiaaGreatDoor
open Go Go.ChangeShapes Go.WideShapes Go.ChangeAt Go.RowKit Go.ChangeMaps
theorem pieces_row : Rows.DeskPiecesSaid :=
  OpenClaim.holds_of_wide_leaving_time (p := Tryz.pinned) (s := Rows.deskPiecesSpec) (c := Rows.deskPiecesRow) 5 Tryz.f5 rfl rfl rfl rfl rfl rfl rfl ⟨rfl, rfl, rfl, rfl, rfl⟩ rfl rfl rfl rfl rfl dp_named Tryz.func5 dp_closed dp_inst dp_wrap
    (fun os started H enc _ F => pieces_lifted os started H enc F)
theorem pieces_card : Rows.DeskPiecesCardSaid :=
  holds_tied_goes_at .later [.data, .data, .data, .data, .handle, .sentinel, .sentinel, .widerDeep, .data, .pinned] true (true, "6f0251da0188cf8eafed328b06f003c29786626d0e54394887c6c4c50c66b9af") true true
    pieces_row dp_wft deskPieces_row_tie rfl ⟨rfl, rfl⟩ dp_main rfl
    (fun f fn hf hfn => by
      obtain rfl : f = 5 := Option.some.inj (dp_named.symm.trans hf) |>.symm
      obtain rfl : fn = Tryz.f5 := (Option.some.inj (Tryz.func5.symm.trans hfn)).symm
      exact ⟨dp_looks, fun j t ht => by
        rw [Tryz.params5] at ht
        have hm : t ∈ [9, 9] := by simpa using Array.mem_of_getElem? ht
        exact (show Tryz.prog.wantsStandIn t = false by simpa using List.all_eq_true.1 dp_stand t hm)⟩)
    dp_goes
end Go.Proofs.YtignjjnflcpiiaaGreatDoor
