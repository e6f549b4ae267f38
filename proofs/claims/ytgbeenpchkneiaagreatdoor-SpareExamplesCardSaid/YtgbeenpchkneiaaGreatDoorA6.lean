/- The abstract machine: entries known ahead. -/
import Derived.Test.YtgbeenpchkneiaaGreatDoorA5
import Derived.Test.YtgbeenpchkneiaaGreatDoorA1
import Derived.LaidHandle
import Derived.Lib.LaidTab
import Derived.RowKit3
set_option linter.unusedVariables false
set_option linter.unusedSimpArgs false
set_option linter.constructorNameAsVariable false
set_option linter.unusedSectionVars false
namespace Go.Am
open Go Classical
def TsR (lo : Nat) (W : World) : Ts → List Value → Prop
  | .e, [] => True
  | .s v r, w :: l => leafOk v = true ∧ VR (fun _ => none) v w ∧ TsR lo W r l
  | .sl n _ c r, w :: l => (∃ q ad cap us, w = .slice (some ad) n cap ∧ n ≤ cap ∧ (cap = 0 ∨ ad = Pl.ad q 0) ∧ lo ≤ q.blk ∧ q.blk < W.heap.size ∧ TsR lo W c us ∧ ∀ (i : Nat) u, us[i]? = some u → W.cell? (Pl.ad q i) = some u) ∧ TsR lo W r l
  | .a c r, w :: l => (∃ us, w = .agg us.toArray ∧ TsR lo W c us) ∧ TsR lo W r l
  | .t c r, w :: l => (∃ us, w = .tuple us.toArray ∧ TsR lo W c us) ∧ TsR lo W r l
  | _, _ => False
theorem leaf_none {κ : K} {v : V} {w : Value} (hl : leafOk v = true) (h : VR κ v w) : VR (fun _ => none) v w := by
  cases h <;> simp only [leafOk] at hl <;> first | cases hl | skip
  · exact .b _
  · exact .i _ _
  · exact .s _ _ (by assumption)
  · exact .pn
  · exact .sn
  · exact .mn
  · rename_i g fs cs fs' cs' h1 h2 h3 h4
    cases fs with
    | cons => simp [leafOk] at hl
    | nil =>
      cases cs with
      | cons => simp [leafOk] at hl
      | nil => exact .f _ _ _ _ _ h1 h2 (fun i x y hx => by simp at hx) (fun i x y hx => by simp at hx)
  · exact .fn
theorem matchT_sound {PR : Program} {κ : K} {h : H} {W : World} (hs : SR PR κ h W) {n lo : Nat} (hlo : ∀ o q, κ o = some q → n ≤ o.num → lo ≤ q.blk) : ∀ (ts : Ts) (l : List V) (ws : List Value), matchT n h ts l = true → VRs κ l ws → TsR lo W ts ws
  | .e, [], ws, _, hv => by
    rw [List.length_eq_zero_iff.1 hv.1.symm]; trivial
  | .e, _ :: _, _, hm, _ => by simp [matchT] at hm
  | .s v r, [], _, hm, _ => by simp [matchT] at hm
  | .s v r, x :: l, [], _, hv => by cases hv.1
  | .s v r, x :: l, w :: ws, hm, hv => by
    simp only [matchT, Bool.and_eq_true] at hm
    have := vbeq_eq hm.1.2
    subst this
    exact ⟨hm.1.1, leaf_none hm.1.1 (hv.2 0 _ _ rfl rfl), matchT_sound hs hlo r l ws hm.2 (by simpa using hv.drop 1)⟩
  | .sl m k c r, [], _, hm, _ => by simp [matchT] at hm
  | .sl m k c r, x :: l, [], _, hv => by cases hv.1
  | .sl m k c r, x :: l, w :: ws, hm, hv => by
    cases x <;> simp only [matchT, Bool.and_eq_true, Bool.false_eq_true] at hm
    rename_i o off len cap
    obtain ⟨⟨⟨h1, h2⟩, h3⟩, h4⟩ := hm
    rw [beq_iff_eq] at h1
    subst h1
    obtain ⟨q, ad, c', hq, hw, hle, had, _⟩ := (hv.2 0 _ _ rfl rfl).slI
    obtain ⟨ob, hob, hr, hlt⟩ := hs.obj o q hq
    rw [hob] at h3
    split at h3
    · rename_i vs ro he
      cases he
      split at h3
      · rename_i cs hcs
        obtain ⟨ht1, ht2⟩ := takeN_some hcs
        rw [dropN_eq] at ht1 ht2
        -- the cells
        have hcell : ∀ i, i < cs.length → ∃ u, W.cell? (Pl.ad ⟨q.blk, q.base + off, q.tot⟩ i) = some u ∧ ∀ v, cs[i]? = some v → VR κ v u := by
          intro i hi
          have hv0 : vs[off + i]? = cs[i]? := by
            rw [ht2, List.getElem?_take, List.getElem?_drop]
            rw [if_pos]
            rw [ht2] at hi
            simp at hi
            omega
          obtain ⟨v, hv1⟩ : ∃ v, cs[i]? = some v := ⟨_, List.getElem?_eq_getElem hi⟩
          obtain ⟨u, hu, hvr⟩ := hr.1 (off + i) v (hv0.trans hv1)
          refine ⟨u, ?_, fun v' hv' => by rw [hv1] at hv'; cases hv'; exact hvr⟩
          rw [← hu]
          simp only [Pl.ad, Nat.add_assoc]
        let us : List Value := (List.range cs.length).map fun i => (W.cell? (Pl.ad ⟨q.blk, q.base + off, q.tot⟩ i)).getD undef
        have hus : ∀ (i : Nat) u, us[i]? = some u → i < cs.length ∧ W.cell? (Pl.ad ⟨q.blk, q.base + off, q.tot⟩ i) = some u := by
          intro i u hi
          have hil : i < cs.length := by
            have := (List.getElem?_eq_some_iff.1 hi).1
            simpa [us] using this
          obtain ⟨u', hu', _⟩ := hcell i hil
          simp only [us, List.getElem?_map, List.getElem?_range hil, Option.map_some, hu', Option.getD_some, Option.some.injEq] at hi
          exact ⟨hil, hi ▸ hu'⟩
        refine ⟨⟨⟨q.blk, q.base + off, q.tot⟩, ad, c', us, hw, hle, ?_, hlo o q hq (by rw [Nat.ble_eq] at h2; exact h2), hlt, matchT_sound hs hlo c cs us h3 ⟨by simp [us], fun i v u hi hu => ?_⟩, fun i u hi => (hus i u hi).2⟩, matchT_sound hs hlo r l ws h4 (by simpa using hv.drop 1)⟩
        · rcases had with h5 | h5
          · exact .inl h5
          · exact .inr (by rw [h5]; simp [Pl.ad])
        · obtain ⟨hil, hcu⟩ := hus i u hu
          obtain ⟨u', hu', hvr⟩ := hcell i hil
          rw [hcu] at hu'; cases hu'
          exact hvr v hi
      · cases h3
    · cases h3
  | .a c r, [], _, hm, _ => by simp [matchT] at hm
  | .a c r, x :: l, [], _, hv => by cases hv.1
  | .a c r, x :: l, w :: ws, hm, hv => by
    cases x <;> simp only [matchT, Bool.and_eq_true, Bool.false_eq_true] at hm
    obtain ⟨us, hw, hus⟩ := (hv.2 0 _ _ rfl rfl).agg
    exact ⟨⟨us, hw, matchT_sound hs hlo c _ us hm.1 hus⟩, matchT_sound hs hlo r l ws hm.2 (by simpa using hv.drop 1)⟩
  | .t c r, [], _, hm, _ => by simp [matchT] at hm
  | .t c r, x :: l, [], _, hv => by cases hv.1
  | .t c r, x :: l, w :: ws, hm, hv => by
    cases x <;> simp only [matchT, Bool.and_eq_true, Bool.false_eq_true] at hm
    obtain ⟨us, hw, hus⟩ := (hv.2 0 _ _ rfl rfl).tup
    exact ⟨⟨us, hw, matchT_sound hs hlo c _ us hm.1 hus⟩, matchT_sound hs hlo r l ws hm.2 (by simpa using hv.drop 1)⟩
section
variable {PR : Program} {κ : K} {h : H} {W : World}
/-- an object that only is looked at, over a place that nothing owns -/
theorem SR.look (hs : SR PR κ h W) (q : Pl) (hlt : q.blk < W.heap.size) {vs : List V} (hx : ObR PR (κ.upd h.next q) W q (.c vs true)) (hfree : ∀ o q' x, κ o = some q' → T.get o h.objs = some x → x.own = true → q'.blk ≠ q.blk) : SR PR (κ.upd h.next q) (h.new (.c vs true)) W := by
  have hle := hs.le_upd q
  refine ⟨fun o q' e => ?_, fun o q' e => ?_, fun o o' q1 q' y y' e e' hne hy hy' hown hd => ?_, fun b hb => ?_⟩
  · by_cases ho : o = h.next
    · subst ho
      rw [K.upd_same] at e; cases e
      exact ⟨_, get_set _ _ _, hx, hlt⟩
    · rw [K.upd_ne _ _ ho] at e
      obtain ⟨y, hy, hoy, hl⟩ := hs.obj o q' e
      exact ⟨y, (get_set_ne _ _ _ _ ho).trans hy, hoy.mono hle rfl, hl⟩
  · show o.num < h.next.succ.num
    rw [num_succ]
    by_cases ho : o = h.next
    · subst ho; omega
    · rw [K.upd_ne _ _ ho] at e
      have := hs.low o q' e
      omega
  · by_cases ho : o = h.next
    · subst ho
      have hy1 : T.get h.next (T.set (.c vs true) h.next h.objs) = some y := hy
      rw [get_set] at hy1; cases hy1
      cases hown
    · rw [K.upd_ne _ _ ho] at e
      have hy0 : T.get o h.objs = some y := (get_set_ne (Obj.c vs true) h.next o h.objs ho).symm.trans hy
      by_cases ho' : o' = h.next
      · subst ho'
        rw [K.upd_same] at e'; cases e'
        exact hfree o q1 y e hy0 hown
      · rw [K.upd_ne _ _ ho'] at e'
        exact hs.sep o o' q1 q' y y' e e' hne hy0 ((get_set_ne _ _ _ _ ho').symm.trans hy') hown hd
  · obtain ⟨⟨q', e, h1⟩, vs', hv⟩ := hs.glob b hb
    exact ⟨⟨q', hle _ _ e, h1⟩, vs', (get_set_ne _ _ _ _ (hs.glob_ne hb)).trans hv⟩
structure Laid (PR : Program) (κ : K) (h : H) (W : World) (lo : Nat) (κ' : K) (h' : H) : Prop where
  sr : SR PR κ' h' W
  le : K.le κ κ'
  nw : ∀ o q, κ' o = some q → κ o = some q ∨ (h.next.num ≤ o.num ∧ lo ≤ q.blk)
  nx : h.next.num ≤ h'.next.num
  old : ∀ o, o.num < h.next.num → T.get o h'.objs = T.get o h.objs
  own : ∀ o q x, κ' o = some q → T.get o h'.objs = some x → x.own = true → q.blk < lo
theorem Laid.trans {lo : Nat} {κ1 κ2 : K} {h1 h2 : H} (a : Laid PR κ h W lo κ1 h1) (b : Laid PR κ1 h1 W lo κ2 h2) : Laid PR κ h W lo κ2 h2 :=
  ⟨b.sr, fun o q e => b.le _ _ (a.le _ _ e), fun o q e => by
    rcases b.nw o q e with h3 | ⟨h3, h4⟩
    · exact a.nw o q h3
    · exact .inr ⟨Nat.le_trans a.nx h3, h4⟩, Nat.le_trans a.nx b.nx, fun o ho => (b.old o (Nat.lt_of_lt_of_le ho a.nx)).trans (a.old o ho), b.own⟩
theorem lay_sound {lo : Nat} : ∀ (ts : Ts) (h : H) (l : List V) (h' : H), lay ts h = (l, h') → ∀ (κ : K) (ws : List Value), SR PR κ h W → (∀ o q x, κ o = some q → T.get o h.objs = some x → x.own = true → q.blk < lo) → TsR lo W ts ws →
    ∃ κ', Laid PR κ h W lo κ' h' ∧ VRs κ' l ws
  | .e, h, l, h', hl, κ, ws, hs, hown, ht => by
    simp only [lay] at hl; cases hl
    cases ws with
    | nil => exact ⟨κ, ⟨hs, fun _ _ h => h, fun _ _ h => .inl h, Nat.le_refl _, fun _ _ => rfl, hown⟩, .nil κ⟩
    | cons => exact ht.elim
  | .s v r, h, l, h', hl, κ, ws, hs, hown, ht => by
    simp only [lay] at hl
    cases ws with
    | nil => exact ht.elim
    | cons w ws =>
      obtain ⟨h1, h2, h3⟩ := ht
      cases hr : lay r h with
      | mk l1 h1' =>
        rw [hr] at hl; cases hl
        obtain ⟨κ', a, b⟩ := lay_sound r h l1 h1' hr κ ws hs hown h3
        exact ⟨κ', a, .cons (h2.mono (fun _ _ h => by cases h)) b⟩
  | .sl n k c r, h, l, h', hl, κ, ws, hs, hown, ht => by
    simp only [lay] at hl
    cases ws with
    | nil => exact ht.elim
    | cons w ws =>
      obtain ⟨⟨q, ad, cap, us, hw, hle, had, hlo, hlt, hc, hcell⟩, h3⟩ := ht
      cases hr : lay c h with
      | mk vs h1 =>
        rw [hr] at hl
        dsimp only at hl
        obtain ⟨κ1, a1, b1⟩ := lay_sound c h vs h1 hr κ us hs hown hc
        have hnone := a1.sr.next_none
        have a2 : Laid PR κ1 h1 W lo (κ1.upd h1.next q) (h1.new (.c vs true)) := by
          refine ⟨a1.sr.look q hlt ⟨fun i v hv => ?_, fun e => by cases e⟩ (fun o q' x e hx ho => ?_), a1.sr.le_upd q, fun o q' e => ?_, ?_, fun o ho => ?_, fun o q' x e hx ho => ?_⟩
          · obtain ⟨u, hu, hvr⟩ := b1.get hv
            exact ⟨u, hcell i u hu, hvr.mono (a1.sr.le_upd q)⟩
          · have := a1.own o q' x e hx ho
            omega
          · by_cases ho : o = h1.next
            · subst ho
              rw [K.upd_same] at e; cases e
              exact .inr ⟨Nat.le_refl _, hlo⟩
            · rw [K.upd_ne _ _ ho] at e
              exact .inl e
          · show _ ≤ h1.next.succ.num; rw [num_succ]; omega
          · exact get_set_ne _ _ _ _ (fun e => by rw [e] at ho; omega)
          · by_cases ho' : o = h1.next
            · subst ho'
              have hx1 : T.get h1.next (T.set (.c vs true) h1.next h1.objs) = some x := hx
              rw [get_set] at hx1; cases hx1
              cases ho
            · rw [K.upd_ne _ _ ho'] at e
              exact a1.own o q' x e ((get_set_ne _ _ _ _ ho').symm.trans hx) ho
        cases hr2 : lay r (h1.new (.c vs true)) with
        | mk l2 h2 =>
          rw [hr2] at hl; cases hl
          obtain ⟨κ3, a3, b3⟩ := lay_sound r _ l2 h2 hr2 _ ws a2.sr a2.own h3
          refine ⟨κ3, (a1.trans a2).trans a3, .cons ?_ b3⟩
          rw [hw]
          exact .sla _ q 0 n cap ad (a3.le _ _ (K.upd_same _ _ _)) hle had
  | .a c r, h, l, h', hl, κ, ws, hs, hown, ht => by
    simp only [lay] at hl
    cases ws with
    | nil => exact ht.elim
    | cons w ws =>
      obtain ⟨⟨us, hw, hc⟩, h3⟩ := ht
      cases hr : lay c h with
      | mk vs h1 =>
        rw [hr] at hl
        dsimp only at hl
        obtain ⟨κ1, a1, b1⟩ := lay_sound c h vs h1 hr κ us hs hown hc
        cases hr2 : lay r h1 with
        | mk l2 h2 =>
          rw [hr2] at hl; cases hl
          obtain ⟨κ3, a3, b3⟩ := lay_sound r _ l2 h2 hr2 _ ws a1.sr a1.own h3
          refine ⟨κ3, a1.trans a3, .cons ?_ b3⟩
          rw [hw]
          exact VR.agg_mk (b1.mono a3.le)
  | .t c r, h, l, h', hl, κ, ws, hs, hown, ht => by
    simp only [lay] at hl
    cases ws with
    | nil => exact ht.elim
    | cons w ws =>
      obtain ⟨⟨us, hw, hc⟩, h3⟩ := ht
      cases hr : lay c h with
      | mk vs h1 =>
        rw [hr] at hl
        dsimp only at hl
        obtain ⟨κ1, a1, b1⟩ := lay_sound c h vs h1 hr κ us hs hown hc
        cases hr2 : lay r h1 with
        | mk l2 h2 =>
          rw [hr2] at hl; cases hl
          obtain ⟨κ3, a3, b3⟩ := lay_sound r _ l2 h2 hr2 _ ws a1.sr a1.own h3
          refine ⟨κ3, a1.trans a3, .cons ?_ b3⟩
          rw [hw]
          exact VR.tup_mk (b1.mono a3.le)
end
end Go.Am
namespace Go.Am
open Go Classical
section
variable {PR : Program} {E : Env} {κ : K} {h : H} {W : World}
theorem callF {n : Nat} (hfn : ∀ g F, E.fn g = some F → fnOf PR g = some F) (hmemo : MemoOk PR E) (hex : ExecS PR E n) {g : Nat} {args : List V} {v : V} {h' : H} (he : callV E (n + 1) (.f g [] []) args h = some (v, h')) {avs : List Value} (hs : SR PR κ h W) (hv : VRs κ args avs) : FnC PR κ h W g avs v h' := by
  simp only [callV, List.nil_append, List.append_nil] at he
  split at he
  · rename_i r hr
    subst he
    exact hmemo _ _ _ _ _ hr κ W _ hs hv
  · split at he
    case h_2 => cases he
    rename_i F hF
    replace hF := hfn _ _ hF
    split at he
    case isFalse => cases he
    rename_i hle
    have hle' : args.length ≤ F.nt := Nat.le_of_ble_eq_true hle
    split at he
    case h_2 => cases he
    rename_i x f' h1 hex'
    cases x with
    | exit id => cases he
    | normal =>
      dsimp only at he
      split at he
      · rename_i l hl
        cases he
        exact fn_sound hex hF hle' hex' (by simp) hl hs hv
      · cases he
    | ret =>
      dsimp only at he
      split at he
      · rename_i l hl
        cases he
        exact fn_sound hex hF hle' hex' (by simp) hl hs hv
      · cases he
/-- what is the same later -/
structure Later' (W W' : World) : Prop where
  fr : ∀ b, b < W.heap.size → W'.heap[b]? = W.heap[b]?
  sz : W.heap.size ≤ W'.heap.size
  os : W'.os = W.os
  tape : W'.tape = W.tape
  output : W'.output = W.output
  fz : ∀ x, W'.frozen? x = W.frozen? x
def BaseR (W : World) (base : List (Nat × Ts)) : Prop := ∀ x ∈ base, ∃ us, TsR 0 W x.2 us ∧ ∀ (i : Nat) u, us[i]? = some u → W.cell? ⟨x.1, i, none⟩ = some u
/-- what an entry tells is so -/
def EnOk (PR : Program) (e : En) : Prop := (∀ x ∈ e.base, x.1 < PR.globals.size) ∧ ∀ W avs, PR.globals.size ≤ W.heap.size → BaseR W e.base → TsR 0 W e.args avs →
  (∃ fn, PR.funcs[e.g]? = some fn ∧ fn.body.isSome = true ∧ (fn.name == "runtime.NumGoroutine") = false) ∧
  ∃ W' w, Later' W W' ∧ TsR W.heap.size W' e.res [w] ∧ Leaves PR e.g avs W w W'
theorem blankT_get : ∀ (n b : Nat), T.get (P.of b) (blankT n .e) = if b < n then some (.c [] true) else none
  | 0, b => by simp [blankT, get_e]
  | n + 1, b => by
    simp only [blankT]
    by_cases hb : b = n
    · subst hb
      rw [get_set]; simp
    · rw [get_set_ne _ _ _ _ (fun e => hb (by have := congrArg P.num e; rwa [num_of, num_of] at this)), blankT_get n b]
      by_cases h1 : b < n
      · rw [if_pos h1, if_pos (by omega)]
      · rw [if_neg h1, if_neg (by omega)]
theorem of_num (p : P) : P.of p.num = p := num_inj (num_of _)
/-- the globals alone, nothing known of them -/
def κG (gs : Nat) : K := fun o => if o.num < gs then some ⟨o.num, 0, 0⟩ else none
theorem blank_SR (hg : PR.globals.size ≤ W.heap.size) : SR PR (κG PR.globals.size) ⟨blankT PR.globals.size .e, P.of PR.globals.size⟩ W := by
  have hk : ∀ {o q}, κG PR.globals.size o = some q → o.num < PR.globals.size ∧ q = ⟨o.num, 0, 0⟩ := fun e => by
    simp only [κG] at e
    split at e
    · cases e; exact ⟨by assumption, rfl⟩
    · cases e
  have hget : ∀ o : P, o.num < PR.globals.size → T.get o (blankT PR.globals.size .e) = some (.c [] true) := fun o ho => by
    have := blankT_get PR.globals.size o.num
    rw [of_num, if_pos ho] at this
    exact this
  refine ⟨fun o q e => ?_, fun o q e => ?_, fun o o' q q' x x' e e' hne hx hx' hown hd => ?_, fun b hb => ⟨⟨⟨b, 0, 0⟩, ?_, rfl, rfl⟩, [], ?_⟩⟩
  · obtain ⟨h1, rfl⟩ := hk e
    exact ⟨_, hget o h1, ⟨fun i v hi => by simp at hi, fun e => by cases e⟩, by dsimp only; omega⟩
  · obtain ⟨h1, rfl⟩ := hk e
    rw [num_of]; exact h1
  · obtain ⟨h1, rfl⟩ := hk e
    rw [hget o h1] at hx; cases hx
    cases hown
  · simp [κG, num_of, hb]
  · exact hget _ (by rw [num_of]; exact hb)
/-- all only looked at -/
def AllRo (h : H) : Prop := ∀ o x, T.get o h.objs = some x → x.own = false
theorem SR.setG (hs : SR PR κ h W) {b : Nat} (hb : b < PR.globals.size) {vs : List V} {us : List Value} (hv : VRs κ vs us) (hc : ∀ (i : Nat) u, us[i]? = some u → W.cell? ⟨b, i, none⟩ = some u) (hro : ∀ o q x, κ o = some q → T.get o h.objs = some x → x.own = false) : SR PR κ (h.set (P.of b) (.c vs true)) W ∧ ∀ o q x, κ o = some q → T.get o (h.set (P.of b) (.c vs true)).objs = some x → x.own = false := by
  obtain ⟨⟨q0, e0, hq1, hq2⟩, _⟩ := hs.glob b hb
  have hro' : ∀ o q x, κ o = some q → T.get o (h.set (P.of b) (.c vs true)).objs = some x → x.own = false := fun o q x e hx => by
    by_cases ho : o = P.of b
    · subst ho
      have hx1 : T.get (P.of b) (T.set (.c vs true) (P.of b) h.objs) = some x := hx
      rw [get_set] at hx1; cases hx1; rfl
    · exact hro o q x e ((get_set_ne _ _ _ _ ho).symm.trans hx)
  refine ⟨⟨fun o q e => ?_, hs.low, fun o o' q q' x x' e e' hne hx hx' hown hd => ?_, fun b' hb' => ?_⟩, hro'⟩
  · obtain ⟨x, hx, hr, hl⟩ := hs.obj o q e
    by_cases ho : o = P.of b
    · subst ho
      rw [e0] at e; cases e
      refine ⟨_, get_set _ _ _, ⟨fun i v hi => ?_, fun e => by cases e⟩, hl⟩
      obtain ⟨u, hu, hvr⟩ := hv.get hi
      refine ⟨u, ?_, hvr⟩
      rw [← hc i u hu]
      simp only [Pl.ad, hq1, hq2, Nat.zero_add]
    · exact ⟨x, (get_set_ne _ _ _ _ ho).trans hx, hr, hl⟩
  · have := hro' o q x e hx
    rw [this] at hown; cases hown
  · obtain ⟨h1, vs', h2⟩ := hs.glob b' hb'
    refine ⟨h1, ?_⟩
    by_cases ho : P.of b' = P.of b
    · exact ⟨vs, by rw [ho]; exact get_set _ _ _⟩
    · exact ⟨vs', (get_set_ne _ _ _ _ ho).trans h2⟩
theorem layBase_sound : ∀ (base : List (Nat × Ts)) (h : H) (κ : K), SR PR κ h W → (∀ o q x, κ o = some q → T.get o h.objs = some x → x.own = false) → BaseR W base → (base.all fun x => Nat.blt x.1 PR.globals.size) = true →
    ∃ κ', SR PR κ' (layBase base h) W ∧ (∀ o q x, κ' o = some q → T.get o (layBase base h).objs = some x → x.own = false)
  | [], h, κ, hs, hro, _, _ => ⟨κ, hs, hro⟩
  | (b, ts) :: r, h, κ, hs, hro, hb, ha => by
    simp only [List.all_cons, Bool.and_eq_true] at ha
    have hb0 : b < PR.globals.size := by have h1 := ha.1; rw [Nat.blt_eq] at h1; exact h1
    obtain ⟨us, hu, hc⟩ := hb (b, ts) List.mem_cons_self
    simp only [layBase]
    cases hl : lay ts h with
    | mk vs h1 =>
      dsimp only
      obtain ⟨κ1, a1, b1⟩ := lay_sound (lo := 0) ts h vs h1 hl κ us hs (fun o q x e hx ho => by rw [hro o q x e hx] at ho; cases ho) hu
      obtain ⟨s2, r2⟩ := a1.sr.setG hb0 b1 hc (fun o q x e hx => by
        cases ho : x.own with
        | false => rfl
        | true => have := a1.own o q x e hx ho; omega)
      exact layBase_sound r _ κ1 s2 r2 (fun x hx => hb x (List.mem_cons_of_mem _ hx)) ha.2
theorem enOk_sound (hmix : PR.follows .mixedOrders = true) (hfn : ∀ g F, E.fn g = some F → fnOf PR g = some F) (hm : MemoOk PR E) {n : Nat} {e : En} (hk : enOk E (n + 1) PR.globals.size e = true) : EnOk PR e := by
  simp only [enOk, Bool.and_eq_true] at hk
  obtain ⟨hk1, hk2⟩ := hk
  refine ⟨fun x hx => ?_, fun W avs hg hb ha => ?_⟩
  · have h1 := (List.all_eq_true.1 hk1) x hx
    rw [Nat.blt_eq] at h1; exact h1
  obtain ⟨κ0, s0, r0⟩ := layBase_sound e.base _ _ (blank_SR hg) (fun o q x e' hx => by
    have h1 := (blank_SR (PR := PR) hg).obj o q e'
    obtain ⟨y, hy, hr, _⟩ := h1
    rw [hx] at hy; cases hy
    have h2 := blankT_get PR.globals.size o.num
    rw [of_num] at h2
    rw [h2] at hx
    split at hx
    · cases hx; rfl
    · cases hx) hb hk1
  cases hl : lay e.args (heap0 PR.globals.size e.base) with
  | mk vs h1 =>
    rw [hl] at hk2
    dsimp only at hk2
    obtain ⟨κ1, a1, v1⟩ := lay_sound (lo := 0) e.args _ vs h1 hl κ0 avs s0 (fun o q x e' hx ho => by rw [r0 o q x e' hx] at ho; cases ho) ha
    split at hk2
    · rename_i v h2 hv
      have hE := (sound hmix hfn hm n).1
      obtain ⟨hf, κ', W', w, hE', hS', hV', hst⟩ := callF hfn hm hE hv a1.sr v1
      have hro : ∀ o q x, κ1 o = some q → T.get o h1.objs = some x → x.own = false := fun o q x e' hx => by
        cases ho : x.own with
        | false => rfl
        | true => have := a1.own o q x e' hx ho; omega
      have hn : ∀ o q, κ1 o = some q → nOwn h1 o := fun o q e' x hx => hro o q x e' hx
      refine ⟨hf, W', w, ⟨fun b hb' => hE'.fr b hb' (fun o q e' _ => hn o q e'), hE'.sz, hE'.os, hE'.tape, hE'.output, hE'.fz⟩, ?_, hst⟩
      refine matchT_sound hS' (n := h1.next.num) (fun o q e' hle => ?_) e.res [v] [w] hk2 (.one hV')
      rcases hE'.nw o q e' with h3 | h3 | ⟨o0, q0, h3, _, h5⟩
      · have := a1.sr.low o q h3
        omega
      · exact h3
      · exact absurd (hn o0 q0 h3) h5
    · cases hk2
end
end Go.Am
namespace Go.Am
open Go Classical
section
variable {PR : Program} {E : Env} {κ : K} {h : H} {W : World}
theorem lookE_mem {g : Nat} {args : List V} {h : H} : ∀ {es : List En} {e : En}, lookE g args h es = some e → e ∈ es ∧ e.g = g ∧ matchT 0 h e.args args = true ∧ matchB h e.base = true
  | [], _, hl => by cases hl
  | x :: es, e, hl => by
    simp only [lookE] at hl
    split at hl
    · rename_i hc
      cases hl
      simp only [Bool.and_eq_true, beq_iff_eq] at hc
      exact ⟨List.mem_cons_self, hc.1.1, hc.1.2, hc.2⟩
    · obtain ⟨h1, h2⟩ := lookE_mem hl
      exact ⟨List.mem_cons_of_mem _ h1, h2⟩
theorem row_us {q : Pl} {vs : List V} {ro : Bool} (hr : ObR PR κ W q (.c vs ro)) : ∃ us, VRs κ vs us ∧ ∀ (i : Nat) u, us[i]? = some u → W.cell? (q.ad i) = some u := by
  have hc : ∀ i, i < vs.length → ∃ u, W.cell? (q.ad i) = some u ∧ ∀ v, vs[i]? = some v → VR κ v u := fun i hi => by
    obtain ⟨v, hv⟩ : ∃ v, vs[i]? = some v := ⟨_, List.getElem?_eq_getElem hi⟩
    obtain ⟨u, hu, hvr⟩ := hr.1 i v hv
    exact ⟨u, hu, fun v' hv' => by rw [hv] at hv'; cases hv'; exact hvr⟩
  have hus : ∀ (i : Nat) u, ((List.range vs.length).map fun i => (W.cell? (q.ad i)).getD undef)[i]? = some u → i < vs.length ∧ W.cell? (q.ad i) = some u := by
    intro i u hi
    have hil : i < vs.length := by
      have := (List.getElem?_eq_some_iff.1 hi).1
      simpa using this
    obtain ⟨u', hu', _⟩ := hc i hil
    simp only [List.getElem?_map, List.getElem?_range hil, Option.map_some, hu', Option.getD_some, Option.some.injEq] at hi
    exact ⟨hil, hi ▸ hu'⟩
  refine ⟨_, ⟨by simp, fun i v u hi hu => ?_⟩, fun i u hi => (hus i u hi).2⟩
  obtain ⟨hil, hcu⟩ := hus i u hu
  obtain ⟨u', hu', hvr⟩ := hc i hil
  rw [hcu] at hu'; cases hu'
  exact hvr v hi
theorem matchB_sound (hs : SR PR κ h W) : ∀ (base : List (Nat × Ts)), (∀ x ∈ base, x.1 < PR.globals.size) → matchB h base = true → BaseR W base
  | [], _, _ => fun x hx => by cases hx
  | (b, ts) :: r, hlt, hm => by
    simp only [matchB, Bool.and_eq_true] at hm
    obtain ⟨h1, h2⟩ := hm
    intro x hx
    cases hx with
    | head =>
      obtain ⟨⟨q, e, hq1, hq2⟩, _⟩ := hs.glob b (hlt (b, ts) List.mem_cons_self)
      obtain ⟨ob, hob, hr, _⟩ := hs.obj _ q e
      rw [hob] at h1
      split at h1
      · rename_i vs ro he
        cases he
        obtain ⟨us, hu, hc⟩ := row_us hr
        refine ⟨us, matchT_sound hs (n := 0) (fun _ _ _ _ => Nat.zero_le _) ts vs us h1 hu, fun i u hi => ?_⟩
        rw [← hc i u hi]
        simp only [Pl.ad, hq1, hq2, Nat.zero_add]
      · cases h1
    | tail _ hx => exact matchB_sound hs r (fun x hx => hlt x (List.mem_cons_of_mem _ hx)) h2 x hx
theorem SR.later (hs : SR PR κ h W) {W' : World} (hL : Later' W W') : SR PR κ h W' :=
  ⟨fun o q e => by
    obtain ⟨x, hx, hr, hl⟩ := hs.obj o q e
    exact ⟨x, hx, hr.mono (fun _ _ h => h) (hL.fr _ hl), Nat.lt_of_lt_of_le hl hL.sz⟩, hs.low, hs.sep, hs.glob⟩
theorem SR.size (hs : SR PR κ h W) : PR.globals.size ≤ W.heap.size := by
  rcases Nat.eq_zero_or_pos PR.globals.size with h0 | h0
  · omega
  · obtain ⟨⟨q, e, hq1, _⟩, _⟩ := hs.glob (PR.globals.size - 1) (by omega)
    obtain ⟨_, _, _, hl⟩ := hs.obj _ q e
    omega
theorem memoE_ok {es : List En} (hes : ∀ e ∈ es, EnOk PR e) (hE : E.memo = memoE es) : MemoOk PR E := by
  intro g args h v h' hm κ W avs hs hv
  rw [hE] at hm
  simp only [memoE] at hm
  split at hm
  · rename_i e he
    obtain ⟨hmem, hg, h1, h2⟩ := lookE_mem he
    subst hg
    obtain ⟨hb, hk⟩ := hes e hmem
    obtain ⟨hf, W', w, hL, hT, hst⟩ := hk W avs hs.size (matchB_sound hs e.base hb h2) (matchT_sound hs (n := 0) (fun _ _ _ _ => Nat.zero_le _) e.args args avs h1 hv)
    refine ⟨hf, ?_⟩
    cases hl : lay e.res h with
    | mk l h2' =>
      rw [hl] at hm
      split at hm
      · rename_i v1 h1' heq
        cases heq
        cases hm
        obtain ⟨κ', a, b⟩ := lay_sound (lo := W.heap.size) e.res h [v] h' hl κ [w] (hs.later hL) (fun o q x e' hx _ => by
          obtain ⟨_, _, _, hlt⟩ := hs.obj o q e'
          exact hlt) hT
        refine ⟨κ', W', w, ⟨a.le, fun o q e' => ?_, fun o q e' => ?_, fun o hk hn => ?_, fun b hb _ => hL.fr b hb, hL.sz, a.nx, hL.os, hL.tape, hL.output, fun b (L : Go.Loop) e' => ⟨L, ?_⟩, hL.fz⟩, a.sr, b.2 0 _ _ rfl rfl, hst⟩
        · rcases a.nw o q e' with h3 | ⟨_, h3⟩
          · exact .inl h3
          · exact .inr (.inl h3)
        · rcases a.nw o q e' with h3 | ⟨h3, _⟩
          · exact .inl h3
          · exact .inr h3
        · cases e' : κ o with
          | none => exact absurd e' hk
          | some q => exact a.old o (hs.low o q e')
        · rw [hL.fr b (Array.getElem?_eq_some_iff.1 e').1]; exact e'
      · cases hm
  · cases hm
/-- one entry, by others -/
theorem en_ok (hmix : PR.follows .mixedOrders = true) {es : List En} (hes : ∀ e ∈ es, EnOk PR e) {fn : Nat → Option F} (hfn : ∀ g F, fn g = some F → fnOf PR g = some F) {n : Nat} {e : En} (hk : enOk ⟨fn, memoE es⟩ (n + 1) PR.globals.size e = true) : EnOk PR e :=
  enOk_sound (E := ⟨fn, memoE es⟩) hmix hfn (memoE_ok hes rfl) hk
end
end Go.Am
namespace Go.Am
open Go Classical
/-- do the cells read so -/
def toldB (P : Program) : Nat → TypeId → DataW (List UInt8) → List V → Bool
  | 0, _, _, _ => false
  | n + 1, t, d, vs => match P.underlying t with
    | some (.func _ _ _) => (match vs with
      | [.fn] => (match d with | .nil => true | _ => false)
      | [.f g [] []] => (match d, P.funcs[g]? with | .held (b :: r), some fn => P.funcNamed fn.name == some g && fn.name.toUTF8.data.toList == b :: r | _, _ => false)
      | _ => false)
    | some (.int _) => (match vs, d with | [.i k x], .lit (.int k' y) => k == k' && x == y | _, _ => false)
    | some (.array m e) => (match d with
      | .agg ds => vs.length == P.cellsOf t && m * P.cellsOf e == vs.length && decide (0 < P.cellsOf e) && (List.range m).all fun i => match ds[i]? with
        | some d' => toldB P n e d' ((vs.drop (i * P.cellsOf e)).take (P.cellsOf e))
        | none => false
      | _ => false)
    | some (.struct fs) => (match d with
      | .agg ds => vs.length == P.cellsOf t && (List.range fs.size).all (fun i => match fs[i]?, ds[i]? with
          | some f, some d' => decide (f.offset + P.cellsOf f.type ≤ vs.length) && toldB P n f.type d' ((vs.drop f.offset).take (P.cellsOf f.type))
          | _, _ => false) && (List.range vs.length).all (fun j => fs.toList.any fun f => decide (f.offset ≤ j) && decide (j < f.offset + P.cellsOf f.type))
      | _ => false)
    | _ => false
section
variable {H : Type} {enc : TypeId × Value → H} {P : Program} {w : World} {base : Nat} {sp : Nat → Bool} {fuel : Nat} {t : TypeId} {cs : List Value} {d : DataW H} {p : List MemPlace}
theorem trod_func_inv {a b : Array TypeId} {c : Bool} (hu : P.underlying t = some (.func a b c)) (ht : DataW.trod enc P w base sp true (fuel + 1) t cs = some (d, p)) : (cs = [.nilFunc] ∧ d = .nil) ∨ ∃ fn x y, cs = [.func fn x y] ∧ d = .held (enc (t, .func fn x y)) := by
  simp only [DataW.trod, hu] at ht
  split at ht <;> simp_all
  exact ⟨_, _, _, ⟨rfl, rfl, rfl⟩, ht.1.symm⟩
theorem trod_array_inv {n : Nat} {e : TypeId} (hu : P.underlying t = some (.array n e)) (ht : DataW.trod enc P w base sp true (fuel + 1) t cs = some (d, p)) : cs.length = P.cellsOf t ∧ ∃ xs, ((List.range n).mapM fun i => DataW.trod enc P w base sp true fuel e ((cs.drop (i * P.cellsOf e)).take (P.cellsOf e))) = some xs ∧ d = .agg (xs.map (·.1)) := by
  simp only [DataW.trod, hu] at ht
  split at ht
  · rename_i hl
    obtain ⟨xs, hm, hx⟩ := Option.map_eq_some_iff.1 ht
    exact ⟨hl, xs, hm, (congrArg Prod.fst hx).symm⟩
  · cases ht
theorem trod_struct_inv {fs : Array Field} (hu : P.underlying t = some (.struct fs)) (ht : DataW.trod enc P w base sp true (fuel + 1) t cs = some (d, p)) : cs.length = P.cellsOf t ∧ ∃ xs, (fs.toList.mapM fun f => DataW.trod enc P w base sp true fuel f.type ((cs.drop f.offset).take (P.cellsOf f.type))) = some xs ∧ d = .agg (xs.map (·.1)) := by
  simp only [DataW.trod, hu] at ht
  split at ht
  · rename_i hl
    obtain ⟨xs, hm, hx⟩ := Option.map_eq_some_iff.1 ht
    exact ⟨hl, xs, hm, (congrArg Prod.fst hx).symm⟩
  · cases ht
end
theorem VRs.part {κ : K} {vs : List V} {ws : List Value} {o c j : Nat} (h : VRs κ ((vs.drop o).take c) ((ws.drop o).take c)) (h1 : o ≤ j) (h2 : j < o + c) {x : V} {y : Value} (hx : vs[j]? = some x) (hy : ws[j]? = some y) : VR κ x y := by
  refine h.2 (j - o) x y ?_ ?_
  · rw [List.getElem?_take, if_pos (by omega), List.getElem?_drop, show o + (j - o) = j by omega]; exact hx
  · rw [List.getElem?_take, if_pos (by omega), List.getElem?_drop, show o + (j - o) = j by omega]; exact hy
theorem toldB_sound {P : Program} {w : World} {base : Nat} {sp : Nat → Bool} : ∀ (n fuel : Nat) (t : TypeId) (d : DataW (List UInt8)) (vs : List V) (cs : List Value) (p : List MemPlace),
    toldB P n t d vs = true → DataW.trod (funcToken P) P w base sp true fuel t cs = some (d, p) → VRs (fun _ => none) vs cs
  | 0, _, _, _, _, _, _, h, _ => by simp [toldB] at h
  | n + 1, 0, _, _, _, _, _, _, h => by simp [DataW.trod] at h
  | n + 1, fuel + 1, t, d, vs, cs, p, hb, ht => by
    simp only [toldB] at hb
    split at hb
    · rename_i hu
      have hi := trod_func_inv hu ht
      split at hb
      · split at hb
        · rcases hi with ⟨rfl, _⟩ | ⟨fn, x, y, _, h2⟩
          · exact .one .fn
          · cases h2
        · cases hb
      · rename_i g
        split at hb
        · rename_i b r fn hfn
          simp only [Bool.and_eq_true, beq_iff_eq] at hb
          rcases hi with ⟨_, h2⟩ | ⟨fn', x, y, hcs, h2⟩
          · cases h2
          · have h3 : funcToken P (t, Value.func fn' x y) = b :: r := by injection h2 with h2; exact h2.symm
            obtain ⟨f, fn2, hv, hf2, hn2, hbytes⟩ := funcToken_tells h3
            have hname : fn2.name = fn.name := by
              have h1 : fn2.name.toUTF8 = fn.name.toUTF8 := by
                have h4 := hbytes.trans hb.2.symm
                cases ha : fn2.name.toUTF8
                cases hb' : fn.name.toUTF8
                rw [ha, hb'] at h4
                simp at h4
                rw [h4]
              exact String.toByteArray_inj.1 h1
            rw [hname, hb.1] at hn2
            have hfg : g = f := Option.some.inj hn2
            rw [hcs, hv, hfg]
            exact .one (.f _ _ _ [] [] rfl rfl (fun i x y h => by simp at h) (fun i x y h => by simp at h))
        · cases hb
      · cases hb
    · rename_i k hu
      split at hb
      · rename_i k1 x k2 y
        simp only [Bool.and_eq_true, beq_iff_eq] at hb
        obtain ⟨z, hc, hd, _⟩ := DataW.trod_int hu ht
        cases hd
        rw [hc, hb.1, hb.2]
        exact .one (.i _ _)
      · cases hb
    · rename_i m e hu
      obtain ⟨hl, xs, hm, hd⟩ := trod_array_inv hu ht
      subst hd
      simp only [Bool.and_eq_true, beq_iff_eq, decide_eq_true_eq, List.all_eq_true, List.mem_range] at hb
      obtain ⟨⟨⟨h1, h2⟩, h0⟩, h3⟩ := hb
      refine ⟨by omega, fun j x y hx hy => ?_⟩
      have hj : j < m * P.cellsOf e := by have := (List.getElem?_eq_some_iff.1 hx).1; omega
      have hi : j / P.cellsOf e < m := (Nat.div_lt_iff_lt_mul h0).2 hj
      obtain ⟨b, hb1, hb2⟩ := Lib.mapM_at hm (j / P.cellsOf e) (j / P.cellsOf e) (by simp [hi])
      have h4 := h3 _ hi
      rw [show (xs.map (·.1))[j / P.cellsOf e]? = some b.1 by simp [hb1]] at h4
      have := toldB_sound n fuel e b.1 _ _ b.2 h4 hb2
      have hdm := Nat.div_add_mod j (P.cellsOf e)
      have hml := Nat.mod_lt j h0
      rw [Nat.mul_comm] at hdm
      exact this.part (by omega) (by omega) hx hy
    · rename_i fs hu
      obtain ⟨hl, xs, hm, hd⟩ := trod_struct_inv hu ht
      subst hd
      simp only [Bool.and_eq_true, beq_iff_eq, decide_eq_true_eq, List.all_eq_true, List.mem_range, List.any_eq_true] at hb
      obtain ⟨⟨h1, h3⟩, h4⟩ := hb
      refine ⟨by omega, fun j x y hx hy => ?_⟩
      have hj : j < vs.length := (List.getElem?_eq_some_iff.1 hx).1
      obtain ⟨f, hf, hf1, hf2⟩ := h4 j hj
      obtain ⟨i, hi⟩ := List.mem_iff_getElem?.1 hf
      have hi' : fs[i]? = some f := by rw [← hi]; simp
      have hil : i < fs.size := (Array.getElem?_eq_some_iff.1 hi').1
      obtain ⟨b, hb1, hb2⟩ := Lib.mapM_at hm i f hi
      have h5 := h3 i hil
      rw [hi', show (xs.map (·.1))[i]? = some b.1 by simp [hb1]] at h5
      simp only [Bool.and_eq_true, decide_eq_true_eq] at h5
      have := toldB_sound n fuel f.type b.1 _ _ b.2 h5.2 hb2
      exact this.part hf1 hf2 hx hy
    · cases hb
def leafTs : List V → Ts
  | [] => .e
  | v :: l => .s v (leafTs l)
theorem leafTs_R {lo : Nat} {W : World} : ∀ {vs : List V} {ws : List Value}, (vs.all leafOk) = true → VRs (fun _ => none) vs ws → TsR lo W (leafTs vs) ws
  | [], ws, _, h => by
    rw [List.length_eq_zero_iff.1 h.1.symm]; trivial
  | v :: vs, [], _, h => by cases h.1
  | v :: vs, w :: ws, ha, h => by
    simp only [List.all_cons, Bool.and_eq_true] at ha
    exact ⟨ha.1, h.2 0 _ _ rfl rfl, leafTs_R ha.2 (by simpa using h.drop 1)⟩
/-- what a listed variable that holds functions reads as -/
theorem base_of_funcs {P : Program} {W : World} {nm : String} {d : DataW Unit} (h : funcsAt P W nm d) {g : Nat} {t : TypeId} (hg : P.globalNamed nm = some g) (hty : (P.globals[g]?).map (·.type) = some t) {n : Nat} {vs : List V} (hk : toldB P n t d.funcsOut vs = true) (hl : (vs.all leafOk) = true) :
    ∃ us, TsR 0 W (leafTs vs) us ∧ ∀ (i : Nat) u, us[i]? = some u → W.cell? ⟨g, i, none⟩ = some u := by
  obtain ⟨g', t', cs, fuel, p, hg', ht', hvar, hd⟩ := h
  obtain rfl := Option.some.inj (hg.symm.trans hg')
  obtain rfl := Option.some.inj (hty.symm.trans ht')
  refine ⟨cs.toList, leafTs_R hl (toldB_sound n fuel t _ vs cs.toList p hk hd), fun i u hi => ?_⟩
  rw [World.var?_cell hg hvar i]
  simpa using hi
/-- what a listed variable of plain integers reads as -/
theorem base_of_ints {P : Program} {W : World} {nm : String} {k : IntKind} {zs : List Int} {g : Nat} (hg : P.globalNamed nm = some g) (h : Lib.TabIs P W nm k zs) :
    ∃ us, TsR 0 W (leafTs (zs.map fun z => .i k z)) us ∧ ∀ (i : Nat) u, us[i]? = some u → W.cell? ⟨g, i, none⟩ = some u := by
  refine ⟨zs.map fun z => .int k z, leafTs_R (by simp [leafOk]) ⟨by simp, fun i x y hx hy => ?_⟩, fun i u hi => ?_⟩
  · simp only [List.getElem?_map, Option.map_eq_some_iff] at hx hy
    obtain ⟨a, ha, rfl⟩ := hx
    obtain ⟨b, hb, rfl⟩ := hy
    rw [ha] at hb; cases hb
    exact .i _ _
  · rw [World.var?_cell hg h i]
    simpa using hi
/-- a call that keeps all and answers true -/
theorem EnOk.calls {P : Program} {e : En} (h : EnOk P e) {W : World} {avs : List Value} (hg : P.globals.size ≤ W.heap.size) (hb : BaseR W e.base) (ha : TsR 0 W e.args avs) {v : V} (hr : e.res = .s v .e) : Calls P e.g avs.toArray W fun en W' => ∃ w, en = .returned w ∧ VR (fun _ => none) v w ∧ Later' W W' := by
  obtain ⟨_, h2⟩ := h
  obtain ⟨_, W', w, hL, hT, hst⟩ := h2 W avs hg hb ha
  rw [hr] at hT
  intro cs
  obtain ⟨fr0, h3, h4, h5⟩ := hst cs
  exact ⟨.returned w, W', fr0, ⟨w, rfl, hT.2.1, hL⟩, h3, h4, h5⟩
end Go.Am
