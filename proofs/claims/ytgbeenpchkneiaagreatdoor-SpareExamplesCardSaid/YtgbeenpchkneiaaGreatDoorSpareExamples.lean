/- 'bluelinelaw09.SpareExamples' answers true, from every start in which the six listed package-level variables hold what the program's text lays. Conditions: the card's own (the listed variables are tied to the program's text). Shown by an abstract machine that is proved sound against the model and evaluated in the kernel, call by call. -/
import Derived.Test.YtgbeenpchkneiaaGreatDoorK
import Derived.Test.YtgbeenpchkneiaaGreatDoorCards
import Derived.Test.YtgbeenpchkneiaaGreatDoorTie
import Derived.WalkKit
import Derived.ProofKit
import Derived.OpenShut
import Derived.Deep.DeepHandedRow
import Derived.Lib.LaidTab
namespace Go.Proofs.YtgbeenpchkneiaaGreatDoor.spareExamples
open Go.ChangeShapes Go.WideShapes Go.ChangeAt Go.RowKit Go.Am
set_option maxRecDepth 100000

theorem own : ownKnob Tryz.prog.godebug = none := by kernel_rfl

/-- What is the same later, as the row's builders want it. -/
theorem grown_of {W W' : World} (h : Later' W W') : RowKit.Grown W W' := by
  refine ⟨⟨h.os, h.output, fun i hi => ?_⟩, h.fz, h.sz⟩
  rw [h.fr i hi]
  cases W.heap[i]? with
  | none => rfl
  | some o => cases o <;> first | exact ⟨rfl, rfl, rfl, fun _ _ => rfl⟩ | exact .inr ⟨rfl, rfl⟩ | rfl

theorem size_of {W : World} (h : laidMetH Tryz.prog Rows.spareExamplesRow.laid W) : Tryz.prog.globals.size ≤ W.heap.size := by
  have hs : Tryz.prog.globals.size = 6 := by kernel_rfl
  obtain ⟨g, t, cs, fuel, p, hg, _, hv, _⟩ := h.funcs (n := "blueline/built.kinds") (.tail _ (.tail _ (.tail _ (.head _))))
  have h5 : Tryz.prog.globalNamed "blueline/built.kinds" = some 5 := by kernel_rfl
  unfold World.var? at hv
  rw [h5] at hv
  simp only [Option.bind_some] at hv
  cases hh : W.heap[5]? with
  | none => rw [hh] at hv; cases hv
  | some o =>
    have := (Array.getElem?_eq_some_iff.1 hh).1
    omega

theorem struct_inv {H : Type} {enc : TypeId × Value → H} {P : Program} {w : World} {base : Nat} {sp : Nat → Bool} {held : Bool} {fuel : Nat} {t : TypeId} {cs : List Value} {d : DataW H} {p : List MemPlace} {fs : Array Field} (hu : P.underlying t = some (.struct fs)) (ht : DataW.trod enc P w base sp held (fuel + 1) t cs = some (d, p)) : cs.length = P.cellsOf t ∧ ∃ xs, (fs.toList.mapM fun f => DataW.trod enc P w base sp held fuel f.type ((cs.drop f.offset).take (P.cellsOf f.type))) = some xs ∧ d = .agg (xs.map (·.1)) := by
  simp only [DataW.trod, hu] at ht
  split at ht
  · rename_i hl
    obtain ⟨xs, hm, hx⟩ := Option.map_eq_some_iff.1 ht
    exact ⟨hl, xs, hm, (congrArg Prod.fst hx).symm⟩
  · cases ht

theorem data_of {W : World} (h : laidMetH Tryz.prog Rows.spareExamplesRow.laid W) : Lib.TabIs Tryz.prog W "blueline/built.nothing" .i64 [1, 0] := by
  have h2 : laidMet Tryz.prog [("blueline/built.nothing", .agg [.lit (.int .i64 1), .lit (.int .i64 0)])] W := by
    unfold laidMetH at h
    split at h
    · rename_i e; cases e
    · exact h.1
  obtain ⟨ps, ⟨g, t, cs, fuel, p, q, hg, ht, hvar, hd, _, _⟩, _⟩ := h2
  obtain rfl := Option.some.inj ((show Tryz.prog.globalNamed "blueline/built.nothing" = some 3 by kernel_rfl).symm.trans hg)
  obtain rfl := Option.some.inj ((show (Tryz.prog.globals[3]?).map (·.type) = some 95 by kernel_rfl).symm.trans ht)
  have c95 : Tryz.prog.cellsOf 95 = 2 := by kernel_rfl
  have c3 : Tryz.prog.cellsOf 3 = 1 := by kernel_rfl
  unfold Lib.TabIs
  rw [hvar]
  cases fuel with
  | zero => simp [DataW.trod] at hd
  | succ fuel =>
    obtain ⟨hl, xs, hm, hx⟩ := struct_inv Tryz.underlying95 hd
    rw [c95] at hl
    obtain ⟨x0, hx0, ht0⟩ := Lib.mapM_at hm 0 _ rfl
    obtain ⟨x1, hx1, ht1⟩ := Lib.mapM_at hm 1 _ rfl
    dsimp only at ht0 ht1
    rw [c3] at ht0 ht1
    obtain ⟨z0, e0, rfl, _⟩ := DataW.trod_int Tryz.underlying3 ht0
    obtain ⟨z1, e1, rfl, _⟩ := DataW.trod_int Tryz.underlying3 ht1
    replace hx := DataW.agg.inj hx
    have g0 := congrArg (·[0]?) hx
    have g1 := congrArg (·[1]?) hx
    simp only [List.getElem?_map, hx0, hx1, Option.map_some, List.getElem?_cons_zero, List.getElem?_cons_succ, Option.some.injEq, DataW.lit.injEq, Lit.int.injEq, true_and] at g0 g1
    subst g0 g1
    obtain ⟨l⟩ := cs
    match l, hl with
    | [a, b], _ =>
      simp at e0 e1
      subst e0 e1
      rfl
theorem base_of {W : World} (h : laidMetH Tryz.prog Rows.spareExamplesRow.laid W) : BaseR W baseAll := by
  have b0 := base_of_funcs (n := 8) (vs := base0V) (t := 174) (h.funcs (n := "blueline/spare.kinds") (.tail _ (.tail _ (.tail _ (.tail _ (.tail _ (.head _))))))) (g := 0) (by kernel_rfl) (by kernel_rfl) (by kernel_rfl) (by kernel_rfl)
  have b1 := base_of_funcs (n := 8) (vs := base1V) (t := 194) (h.funcs (n := "blueline/sheet.checks") (.head _)) (g := 1) (by kernel_rfl) (by kernel_rfl) (by kernel_rfl) (by kernel_rfl)
  have b2 := base_of_funcs (n := 8) (vs := base2V) (t := 264) (h.funcs (n := "blueline/note.checks") (.tail _ (.head _))) (g := 2) (by kernel_rfl) (by kernel_rfl) (by kernel_rfl) (by kernel_rfl)
  have b3 := base_of_ints (g := 3) (by kernel_rfl) (data_of h)
  have b4 := base_of_funcs (n := 8) (vs := base4V) (t := 291) (h.funcs (n := "blueline/swap.sources") (.tail _ (.tail _ (.tail _ (.tail _ (.head _)))))) (g := 4) (by kernel_rfl) (by kernel_rfl) (by kernel_rfl) (by kernel_rfl)
  have b5 := base_of_funcs (n := 8) (vs := base5V) (t := 306) (h.funcs (n := "blueline/built.kinds") (.tail _ (.tail _ (.tail _ (.head _))))) (g := 5) (by kernel_rfl) (by kernel_rfl) (by kernel_rfl) (by kernel_rfl)
  exact List.forall_mem_cons.2 ⟨b0, List.forall_mem_cons.2 ⟨b1, List.forall_mem_cons.2 ⟨b2, List.forall_mem_cons.2 ⟨b3, List.forall_mem_cons.2 ⟨b4, List.forall_mem_cons.2 ⟨b5, fun _ h => by cases h⟩⟩⟩⟩⟩⟩

/-- THE CALL. -/
theorem walk {W : World} (h : laidMetH Tryz.prog Rows.spareExamplesRow.laid W) : Calls Tryz.prog 3 #[] W fun e w' => e = .returned (.bool true) ∧ RowKit.Grown W w' := by
  have hc := k374.calls (avs := []) (size_of h) (base_of h) trivial rfl
  refine Calls.mono hc fun e w' ⟨w, he, hw, hl⟩ => ?_
  have hw' := hw.bool
  subst hw'
  exact ⟨he, grown_of hl⟩

/-- WHAT THE CALL GIVES, FOR EVERY WORLD THAT HOLDS THE TABLES. -/
theorem contract (H : Type) (enc : TypeId × Value → H) (W : World) (args : Array Value) (ds gs : List (DataW H)) (before : List MemPlace)
    (hW : DataW.Whole enc Tryz.prog Tryz.f3.params.toList Rows.spareExamplesSpec.vars false W args.toList ds gs before) (hL : laidMetH Tryz.prog Rows.spareExamplesRow.laid W) :
    Calls Tryz.prog 3 args W fun e W' => ∃ v, e = .returned v ∧ Rows.spareExamplesSpec.post enc Tryz.prog Tryz.f3 false true false false W args v W' := by
  have hW' := hW
  obtain ⟨p, q, hA0, hV, rfl, hfz, hnd⟩ := hW
  have hA : DataW.TrodAll enc Tryz.prog W 0 (fun _ => true) true Tryz.f3.params.toList args.toList ds p := hA0
  rw [Tryz.params3] at hA
  obtain ⟨hargs, rfl, rfl⟩ := trodAll_nil hA
  obtain rfl : args = #[] := by cases args; simp_all
  obtain ⟨rfl, rfl⟩ := trodVars_none hV
  clear hA0
  simp only [List.append_nil] at hW'
  refine (walk hL).mono fun e W' ⟨he, hg⟩ => ?_
  subst he
  exact ⟨_, rfl, post_of_same (pa := []) (pv := []) hW' (fun _ _ _ => trodAll_cons_mk (shut_bool Tryz.underlying4 _) trodAll_mk0) (fun _ _ => trodAll_mk0) (fun _ _ => rfl) rfl
    (hg.frame _) hg.2.1 (ok_one (by kernel_rfl) rfl (okWide_bool_mk Tryz.underlying4 _))⟩

def lay (i : Nat) (cs : Array Value) (h : Array Go.Obj) : Array Go.Obj := h.modify i fun
  | .cells _ t frozen => .cells cs t frozen
  | o => o
def fv (g : Nat) : Value := .func (.func g) #[] #[]
/-- A WORLD FOR THE WITNESS: the settled one, the tables holding what their initialisers lay. -/
noncomputable def laidWorld (os : Os) : World :=
  { World.holding Tryz.prog os ⟨#[], #[], []⟩ with heap := lay 5 #[.nilFunc, .nilFunc, fv 262, fv 263, fv 264, fv 265, fv 266, fv 267] (lay 4 #[fv 259, fv 260] (lay 3 #[.int .i64 1, .int .i64 0] (lay 2 #[fv 249, fv 250, fv 251, fv 252, fv 253, fv 254, fv 256, fv 258] (lay 1 #[fv 239, fv 240, fv 241, fv 242] (lay 0 #[fv 220, fv 223, fv 224, fv 225] (World.holding Tryz.prog os ⟨#[], #[], []⟩).heap))))) }
theorem laid_met (os : Os) : laidMetH Tryz.prog Rows.spareExamplesRow.laid ((laidWorld os).forCall (fun _ _ => 0) ⟨#[], #[], []⟩).memory :=
  laidMetH_of_parts3 (fuel := 8) (laidMet_of_run' 8 (by kernel_rfl) (by kernel_rfl)) (by kernel_rfl) (by kernel_rfl)
theorem reads (os : Os) {H : Type} (enc : TypeId × Value → H) : ∃ places, DataW.whole enc Tryz.prog ((laidWorld os).forCall (fun _ _ => 0) ⟨#[], #[], []⟩).memory Tryz.f3.params.toList Rows.spareExamplesSpec.vars false #[].toList 8 = some ([], [], places) :=
  ⟨[], by kernel_rfl⟩

/-- THE FIRST FORM's STEP. -/
theorem lifted (os : Os) (started : os.Started) (H : Type) (enc : TypeId × Value → H) (F : Stop.Interp) :
    ReturnsInHanded {} Tryz.checked os 3 .any ((OpenSpec.ofChange Rows.spareExamplesSpec).preRow enc Tryz.prog Tryz.f3 Rows.spareExamplesRow.domain false Rows.spareExamplesRow.laid) (((OpenSpec.ofChange Rows.spareExamplesSpec).at F).post enc Tryz.prog Tryz.f3 false true false false) := by
  obtain ⟨places, hx⟩ := reads os enc
  refine returnsInHanded_of_row (C := Tryz.checked) (s := OpenSpec.ofChange Rows.spareExamplesSpec) own started (by kernel_rfl) Tryz.func3
    (witness_row_at (enc := enc) (C := Tryz.checked) false (laidWorld os) #[] rfl (by kernel_rfl) (by kernel_rfl) (by kernel_rfl)
      (OpenSpec.preRow_of_cond 8 hx (by kernel_rfl) (fun k hk => by cases hk) (by kernel_rfl) (laid_met os))) ?_
  intro W base args ds gs before hval hW _ _ _ hL _ _
  exact contract H enc W args ds gs before hW hL

theorem said : Rows.SpareExamplesSaid :=
  OpenClaim.holds_of_cond 3 Tryz.f3 rfl rfl rfl rfl rfl rfl rfl ⟨rfl, rfl, rfl, rfl, rfl⟩ rfl rfl rfl rfl rfl (by kernel_rfl) Tryz.func3 (by kernel_rfl)
    (of_decide_eq_true (by kernel_rfl)) (by unfold Func.isWrapper; first | (rw [if_pos (by decide +kernel)]; kernel_rfl) | (rw [if_neg (by decide +kernel)]; exact ⟨rfl, rfl⟩))
    (fun os started H enc _ F => by rw [OpenClaim.pre_eq_preRow]; exact lifted os started H enc F)

/-- No parameter wants a stand-in; the program's own looks are off: what the card asks. -/
theorem plain (f : FuncId) (fn : Func) (hf : Tryz.pinned.checked.prog.funcNamed "blueline/bluelinelaw09.SpareExamples" = some f) (hfn : Tryz.pinned.checked.prog.funcs[f]? = some fn) :
    false = Tryz.pinned.checked.prog.looks [] ∧ ∀ (j : Nat) t, fn.params[j]? = some t → Tryz.pinned.checked.prog.wantsStandIn t = false := by
  obtain rfl : f = 3 := Option.some.inj ((show Tryz.prog.funcNamed "blueline/bluelinelaw09.SpareExamples" = some 3 by kernel_rfl).symm.trans hf) |>.symm
  obtain rfl : fn = Tryz.f3 := (Option.some.inj (Tryz.func3.symm.trans hfn)).symm
  refine ⟨by kernel_rfl, fun j t ht => ?_⟩
  rw [Tryz.params3] at ht
  simp at ht

/-- THE CARD. -/
theorem card : Rows.SpareExamplesCardSaid :=
  Claim7.holds_tied_plain_at .later [] _ _ _ _ said (fun _ h => by cases h) (by kernel_rfl) (fun _ h => by cases h) spareExamples_row_tie rfl ⟨rfl, rfl⟩ (by kernel_rfl) rfl plain (by kernel_rfl)
end Go.Proofs.YtgbeenpchkneiaaGreatDoor.spareExamples
