/- The abstract machine: ranges over maps, regions in any order, all together. -/
import Derived.Test.YtgbeenpchkneiaaGreatDoorA4
import Derived.Orders
set_option linter.unusedVariables false
set_option linter.unusedSimpArgs false
set_option linter.constructorNameAsVariable false
set_option linter.unusedSectionVars false
namespace Go.Am
open Go Classical
section
variable {PR : Program} {E : Env} {κ : K} {nt : Nat} {f : T V} {tm : Array Value} {h : H}
theorem hasN_mem (n : Nat) : ∀ l : List Nat, hasN n l = true ↔ n ∈ l
  | [] => by simp [hasN]
  | m :: r => by simp [hasN, hasN_mem n r]
theorem leftE_ER {s' : Array Nat} {seen : List Nat} (hs : s'.toList = seen.reverse) : ∀ {es : List (V × V × Nat)} {es' : List MapEntry}, ER κ es es' → ER κ (leftE seen es) (es'.filter fun e => !s'.contains e.born)
  | [], es', hE => by rw [List.length_eq_zero_iff.1 hE.1.symm]; exact ⟨rfl, fun i e e' h => by simp [leftE] at h⟩
  | (k, v, b) :: es, [], hE => by cases hE.1
  | (k, v, b) :: es, e' :: es', hE => by
    obtain ⟨g1, g2, g3⟩ := hE.2 0 _ _ rfl rfl
    have hE' : ER κ es es' := ⟨by have := hE.1; simpa using this, fun i a b ha hb => hE.2 (i + 1) a b (by simpa using ha) (by simpa using hb)⟩
    dsimp only at g1 g2 g3
    have ih := leftE_ER hs hE'
    have hc : s'.contains e'.born = hasN b seen := by
      rw [Bool.eq_iff_iff, hasN_mem, ← g3, Array.contains_iff_mem, ← Array.mem_toList_iff, hs, List.mem_reverse]
    simp only [leftE]
    rw [List.filter_cons, hc]
    cases hasN b seen
    · simp only [Bool.not_false, if_true, Bool.false_eq_true, if_false]
      refine ⟨by simp [ih.1], fun i a c ha hb => ?_⟩
      cases i with
      | zero => simp at ha hb; subst ha; subst hb; exact ⟨g1, g2, g3⟩
      | succ i => exact ih.2 i a c (by simpa using ha) (by simpa using hb)
    · simpa using ih
theorem oldE_all {since : Nat} : ∀ {es : List (V × V × Nat)} {es' : List MapEntry}, ER κ es es' → oldE since es = true → ∀ e ∈ es', e.born < since
  | [], es', hE, _ => by rw [List.length_eq_zero_iff.1 hE.1.symm]; simp
  | (k, v, b) :: es, [], hE, _ => by cases hE.1
  | (k, v, b) :: es, e' :: es', hE, h => by
    obtain ⟨g1, g2, g3⟩ := hE.2 0 _ _ rfl rfl
    have hE' : ER κ es es' := ⟨by have := hE.1; simpa using this, fun i a b ha hb => hE.2 (i + 1) a b (by simpa using ha) (by simpa using hb)⟩
    simp only [oldE, Bool.and_eq_true, decide_eq_true_eq] at h
    intro e he
    rcases List.mem_cons.1 he with rfl | he
    · dsimp only at g3; omega
    · exact oldE_all hE' h.2 e he
/-- a step of an iterator over a map -/
theorem next_run {W : World} {bm bi since last : Nat} {s' : Array Nat} {es' : Array MapEntry} {clock : Nat} (hi : W.heap[bi]? = some (.mapIter (some bm) since s' last)) (hm : W.heap[bm]? = some (.map es' clock)) (hold : ∀ e ∈ es'.toList, e.born < since) (hsl : since ≤ last) (ty : TypeId) :
    ((es'.toList.filter fun e => !s'.contains e.born) = [] → (Instr.next (.pointer (some ⟨bi, 0, none⟩)) false ty).run PR W = .ok (.tuple #[.bool false]) W) ∧
    ((es'.toList.filter fun e => !s'.contains e.born) ≠ [] → ∃ (j : Nat) (e' : MapEntry) (d : Nat), (es'.toList.filter fun e => !s'.contains e.born)[j]? = some e' ∧ (Instr.next (.pointer (some ⟨bi, 0, none⟩)) false ty).run PR W = .ok (.tuple #[.bool true, e'.key, e'.val]) (putObj { W with drawn := d } bi (.mapIter (some bm) since (s'.push e'.born) clock))) := by
  have hgi := getObj_run (PR := PR) hi (by simp)
  have hgm := getObj_run (PR := PR) hm (by simp)
  have hcond : (!s'.isEmpty && !es'.isEmpty && es'.all (fun e => decide (e.born ≥ last))) = false := by
    by_cases he : es'.isEmpty = true
    · simp [he]
    · have hne : 0 < es'.size := by
        rcases Nat.eq_zero_or_pos es'.size with h0 | h0
        · simp [Array.isEmpty, h0] at he
        · exact h0
      have : es'.all (fun e => decide (e.born ≥ last)) = false := by
        rw [Bool.eq_false_iff]
        intro hall
        have := Array.all_eq_true.1 hall 0 hne
        have h2 := hold es'[0] (by simp)
        simp at this
        omega
      rw [this]; simp
  have hleft : es'.filter (fun e => !s'.contains e.born) = (es'.toList.filter fun e => !s'.contains e.born).toArray := by apply Array.ext'; simp
  have hml : ∀ e ∈ (es'.toList.filter fun e => !s'.contains e.born), e.born < since := fun e he => hold e (List.mem_filter.1 he).1
  generalize hL : (es'.toList.filter fun e => !s'.contains e.born) = L at *
  have hold' : L.toArray.filter (fun e => decide (e.born < since)) = L.toArray := by
    apply Array.ext'
    simp only [Array.toList_filter]
    exact List.filter_eq_self.2 (fun e he => by simpa using hml e he)
  have hnew : L.toArray.filter (fun e => decide (e.born ≥ since)) = #[] := by
    apply Array.ext'
    simp only [Array.toList_filter]
    rw [List.filter_eq_nil_iff]
    intro e he
    have := hml e he
    simp; omega
  have hrun : (Instr.next (.pointer (some ⟨bi, 0, none⟩)) false ty).run PR W = ((choose (.mapNext ((if L.toArray.isEmpty then #[none] else #[]) ++ (L.toArray ++ #[]).map some).size)).run PR W).andThen fun i w => (match ((if L.toArray.isEmpty then #[none] else #[]) ++ (L.toArray ++ #[]).map some)[i]? with
      | some (some e) => (do setObj bi (.mapIter (some bm) since (s'.push e.born) clock); pure (.tuple #[.bool true, e.key, e.val]))
      | some none => pure (.tuple #[.bool false])
      | none => stuck "Next: no such candidate" : Sem Value).run PR w := by
    unfold Instr.next
    simp only [Sem.run_bind, hgi, hgm, Result.andThen_ok, hcond, Bool.false_eq_true, if_false, hleft, hold', hnew]
    rfl
  constructor
  · intro h0
    subst h0
    rw [hrun]
    simp [choose, Sem.run, Question.forced]
  · intro hne
    have hemp : L.toArray.isEmpty = false := by cases L <;> simp_all
    have hsz : 0 < L.length := List.length_pos_iff.2 hne
    have hcand : ((if L.toArray.isEmpty = true then #[none] else #[]) ++ (L.toArray ++ #[]).map some) = (L.map some).toArray := by
      rw [hemp]; simp
    rw [hrun, hcand]
    have hch : ∃ j d, j < L.length ∧ (choose (.mapNext (L.map some).toArray.size)).run PR W = .ok j { W with drawn := d } := by
      by_cases h1 : L.length ≤ 1
      · exact ⟨0, W.drawn, hsz, by simp [choose, Sem.run, Question.forced, h1]⟩
      · exact ⟨W.tape W.drawn (.mapNext L.length) % L.length, W.drawn + 1, Nat.mod_lt _ hsz, by simp [choose, Sem.run, Question.forced, Question.cut, h1]⟩
    obtain ⟨j, d, hj, hch⟩ := hch
    refine ⟨j, L[j], d, List.getElem?_eq_getElem hj, ?_⟩
    have hi2 : ({ W with drawn := d } : World).heap[bi]? = some (.mapIter (some bm) since s' last) := hi
    have hso := setObj_run (PR := PR) (x := .mapIter (some bm) since (s'.push L[j].born) clock) hi2 (by simp)
    rw [hch]
    simp [hj, hso, Result.andThen]
/-! ### ways that agree -/
theorem cbeq_eq {a b : Cap} (h : cbeq a b = true) : a = b := by
  cases a <;> cases b <;> simp_all [cbeq]
theorem vbeq0_eq {x y : V} (h : vbeq0 x y = true) : x = y := by
  cases x <;> cases y <;> simp only [vbeq0, Bool.and_eq_true, beq_iff_eq, Bool.false_eq_true] at h
  case u.u => rfl
  case b.b => rw [h]
  case i.i => rw [h.1, h.2]
  case s.s => rw [h]
  case p.p => rw [beq_eq h.1, h.2]
  case pn.pn => rfl
  case sl.sl => rw [beq_eq h.1.1.1, h.1.1.2, h.1.2, cbeq_eq h.2]
  case sn.sn => rfl
  case m.m => rw [beq_eq h]
  case mn.mn => rfl
  case fn.fn => rfl
  case y.y => rw [beq_eq h]
theorem all2_eq {p : V → V → Bool} (hp : ∀ x y, p x y = true → x = y) : ∀ {l r : List V}, all2 p l r = true → l = r
  | [], [], _ => rfl
  | [], _ :: _, h => by simp [all2] at h
  | _ :: _, [], h => by simp [all2] at h
  | x :: l, y :: r, h => by
    simp only [all2, Bool.and_eq_true] at h
    rw [hp _ _ h.1, all2_eq hp h.2]
theorem vbeq1_eq {x y : V} (h : vbeq1 x y = true) : x = y := by
  unfold vbeq1 at h
  split at h
  · simp only [Bool.and_eq_true, beq_iff_eq] at h
    rw [h.1.1, all2_eq (fun _ _ => vbeq0_eq) h.1.2, all2_eq (fun _ _ => vbeq0_eq) h.2]
  · exact vbeq0_eq h
theorem vbeq_eq {x y : V} (h : vbeq x y = true) : x = y := by
  unfold vbeq at h
  split at h
  · rw [all2_eq (fun _ _ => vbeq1_eq) h]
  · rw [all2_eq (fun _ _ => vbeq1_eq) h]
  · exact vbeq1_eq h
theorem esBeq_eq : ∀ {a b : Es}, esBeq a b = true → a = b
  | [], [], _ => rfl
  | [], _ :: _, h => by simp [esBeq] at h
  | _ :: _, [], h => by simp [esBeq] at h
  | (k, v, n) :: l, (k', v', n') :: r, h => by
    simp only [esBeq, Bool.and_eq_true, beq_iff_eq] at h
    rw [vbeq_eq h.1.1.1, vbeq_eq h.1.1.2, h.1.2, esBeq_eq h.2]
theorem xbeq_eq {a b : X} (h : X.beq a b = true) : a = b := by
  cases a <;> cases b <;> simp_all [X.beq]
theorem meet_get : ∀ {f g : T V} {p : P} {v : V}, T.get p (meet f g) = some v → T.get p f = some v ∧ T.get p g = some v
  | .e, g, p, v, h => by cases g <;> simp [meet, get_e] at h
  | .n _ _ _, .e, p, v, h => by simp [meet, get_e] at h
  | .n l x r, .n l' x' r', p, v, h => by
    cases p with
    | z =>
      simp only [meet, T.get] at h ⊢
      split at h
      · split at h
        · rename_i a b hab
          cases h
          have := vbeq_eq hab
          subst this
          exact ⟨rfl, rfl⟩
        · cases h
      · cases h
    | l p => exact meet_get (f := l) (g := l') h
    | r p => exact meet_get (f := r) (g := r') h
/-- an outcome that a way has, and what all have in common -/
def OutLe (a b : Out) : Prop := a.1 = b.1 ∧ a.2.1 = b.2.1 ∧ a.2.2.1 = b.2.2.1 ∧ ∀ p v, T.get p a.2.2.2 = some v → T.get p b.2.2.2 = some v
theorem sameOut_le {a b c : Out} (h : sameOut a b = some c) : OutLe c a ∧ OutLe c b := by
  obtain ⟨x, es, cl, f⟩ := a
  obtain ⟨y, fs, d, g⟩ := b
  simp only [sameOut] at h
  split at h
  · rename_i hc
    cases h
    simp only [Bool.and_eq_true, beq_iff_eq] at hc
    obtain ⟨⟨h1, h2⟩, h3⟩ := hc
    have h1 := xbeq_eq h1; have h2 := esBeq_eq h2
    exact ⟨⟨rfl, rfl, rfl, fun p v hv => (meet_get hv).1⟩, ⟨h1, h2, h3, fun p v hv => (meet_get hv).2⟩⟩
  · cases h
theorem agree_le {k : (V × V × Nat) → Option Out} : ∀ {l : Es} {o : Out}, agree k l = some o → ∀ e ∈ l, ∃ a, k e = some a ∧ OutLe o a
  | [], o, h => by simp [agree] at h
  | [e], o, h => by
    simp only [agree] at h
    intro e' he'
    rw [List.mem_singleton] at he'
    subst he'
    exact ⟨o, h, rfl, rfl, rfl, fun _ _ h => h⟩
  | e :: e2 :: r, o, h => by
    simp only [agree] at h
    split at h
    · rename_i a b ha hb
      obtain ⟨h1, h2⟩ := sameOut_le h
      intro e' he'
      rcases List.mem_cons.1 he' with rfl | he'
      · exact ⟨a, ha, h1⟩
      · obtain ⟨a', ha', hle⟩ := agree_le (l := e2 :: r) hb e' he'
        exact ⟨a', ha', h2.1.trans hle.1, h2.2.1.trans hle.2.1, h2.2.2.1.trans hle.2.2.1, fun p v hv => hle.2.2.2 p v (h2.2.2.2 p v hv)⟩
    · cases h
theorem rounds_sound {N : Nat} (hex : ∀ m, m < N → ExecS PR E m) {c rest : Code} {id : Nat} {ops : Array Oper} {d1 d2 : Tmp} {itop : Operand} {ia : A} {ty1 ty2 : TypeId} {pos1 pos2 : String} {a1 a2 : Array Edge} (hc : c = .seq (.region id ops false) rest) (hops : ops.toList = [⟨some d1, .next itop false, ty1, pos1, a1, none⟩, ⟨some d2, .extract (.tmp d1) 0, ty2, pos2, a2, none⟩]) (hit : co PR itop = some ia) (hd1 : d1 < nt) (hd2 : d2 < nt) {it m : P} {g : T V} :
    ∀ (n : Nat), n ≤ N → ∀ (f : T V) (h : H) (x : X) (es' : Es) (c' : Nat) (f'' : T V), rounds E n (comp PR nt rest) ia it m (P.of d1) (P.of d2) g f h = some (x, es', c', f'') →
    ∀ (κ : K) (W : World) (b : Frame) (tm : Array Value) (ds : List Deferred) (B : Nat), TR κ nt f tm → SR PR κ h W → κ it ≠ none → κ m ≠ none → RO W b → Mk B κ W ds → B ≤ W.heap.size →
    ∃ κ' W' tm' ds' hF, Ex κ h W κ' hF W' ∧ SR PR κ' hF W' ∧ T.get m hF.objs = some (.m es' c') ∧ tm'.size = nt ∧ (∀ p v, T.get p f'' = some v → T.get p g = some v ∧ VR κ' v (tm'.getD p.num undef)) ∧ Mk B κ' W' ds' ∧ ∀ k cs, Goes PR (lone (fat b tm ds (.code c :: .inLoop c :: k)) cs W) b k cs tm' ds' W' x := by
  intro n
  induction n with
  | zero => intro _ f h x es' c' f'' hr; simp [rounds] at hr
  | succ n ih =>
    intro hn f h x es2 c2 f'' hr κ W b tm ds B hT hs hki hkm hro hmk hB
    simp only [rounds] at hr
    split at hr
    case h_2 => cases hr
    rename_i m' since seen last es clock hoi hom
    split at hr
    case isFalse => cases hr
    rename_i hcond
    simp only [Bool.and_eq_true] at hcond
    obtain ⟨⟨⟨hia, hmm⟩, hold⟩, hsl⟩ := hcond
    have hmm := beq_eq hmm
    subst hmm
    have hsl : since ≤ last := Nat.le_of_ble_eq_true hsl
    have hia : ia.ev f = .p it 0 := by
      unfold isIt at hia
      split at hia
      · rename_i o e; rw [e, beq_eq hia]
      · cases hia
    cases hqi : κ it with
    | none => exact absurd hqi hki
    | some qi =>
    cases hqm : κ m' with
    | none => exact absurd hqm hkm
    | some qm =>
    obtain ⟨y, hy, hobi, hlti⟩ := hs.obj it qi hqi
    rw [hoi] at hy; cases hy
    obtain ⟨hb0, mm, s', hWi, hs', hmk'⟩ := hobi
    obtain rfl : mm = some qm.blk := by
      rcases hmk' with ⟨h0, _⟩ | ⟨o2, q2, ho2, hq2, rfl⟩
      · cases h0
      · cases ho2
        rw [hqm] at hq2; cases hq2
        rfl
    obtain ⟨esc, hWm, hE⟩ := mapObj hs hqm (show h.get m' = some (.m es clock) from hom)
    have hitv : evl tm itop = .pointer (some ⟨qi.blk, 0, none⟩) := by
      have := co_sound hs.gl hT hit
      rw [hia] at this
      obtain ⟨q, hq, hw⟩ := this.ptr
      rw [hqi] at hq; cases hq
      rw [hw]; simp [Pl.ad, hb0]
    obtain ⟨nxt0, nxt1⟩ := next_run (PR := PR) hWi hWm (oldE_all hE hold) hsl ty1
    have hER := leftE_ER hs' hE
    have ho0 : ops[0]? = some ⟨some d1, .next itop false, ty1, pos1, a1, none⟩ := by rw [← Array.getElem?_toList, hops]; rfl
    have ho1 : ops[1]? = some ⟨some d2, .extract (.tmp d1) 0, ty2, pos2, a2, none⟩ := by rw [← Array.getElem?_toList, hops]; rfl
    have hrange : List.range ops.size = [0, 1] := by
      have : ops.size = 2 := by rw [← Array.length_toList, hops]; rfl
      rw [this]; rfl
    -- the two operations
    have two : ∀ (bb : Bool) (vs : List Value) (W1 : World), (Instr.next (.pointer (some ⟨qi.blk, 0, none⟩)) false ty1).run PR W = .ok (.tuple (.bool bb :: vs).toArray) W1 → ∀ k cs, Steps PR (lone (fat b tm ds (.code c :: .inLoop c :: k)) cs W) (lone (fat b (putA (putA tm (some d1) (.tuple (.bool bb :: vs).toArray)) (some d2) (.bool bb)) ds (.code rest :: .inLoop c :: k)) cs W1) := by
      intro bb vs W1 hnx k cs
      have e1 : (execOp (evl tm) ⟨some d1, .next itop false, ty1, pos1, a1, none⟩).run PR W = .ok (.value (.tuple (.bool bb :: vs).toArray)) W1 := by
        simp only [execOp, Sem.run_bind, hitv, hnx, Result.andThen_ok]
        rfl
      have hsz : d1 < tm.size := by rw [hT.1]; exact hd1
      have e2 : (execOp (evl (putA tm (some d1) (.tuple (.bool bb :: vs).toArray))) ⟨some d2, .extract (.tmp d1) 0, ty2, pos2, a2, none⟩).run PR W1 = .ok (.value (.bool bb)) W1 := by
        have : evl (putA tm (some d1) (.tuple (.bool bb :: vs).toArray)) (.tmp d1) = .tuple (.bool bb :: vs).toArray := by
          simp [evl, putA, hsz]
        simp only [execOp, this, Instr.extract]
        simp
      subst hc
      refine Steps.head st_seq (Steps.head st_region ?_)
      rw [hrange]
      refine Steps.head (st_op_value ho0 rfl (fun c e => by cases e) e1 (.inl rfl)) (Steps.head (st_op_value ho1 rfl (fun c e => by cases e) e2 (.inl rfl)) ?_)
      exact .one st_region_end
    split at hr
    · -- no entry is left
      rename_i hl
      rw [hl] at hER
      have hemp := List.length_eq_zero_iff.1 hER.1.symm
      have hst := two false [] W (nxt0 hemp)
      have hT2 : TR κ nt (T.set (.b false) (P.of d2) (T.set (.t [.b false]) (P.of d1) f)) (putA (putA tm (some d1) (.tuple [Value.bool false].toArray)) (some d2) (.bool false)) :=
        TR.put (W := W) (d := some d2) (TR.put (W := W) (d := some d1) hT (by simp [dstOk, Nat.blt_eq, hd1]) (VR.tup_mk (ys := [_]) (.one (.b _)))) (by simp [dstOk, Nat.blt_eq, hd2]) (.b _)
      split at hr
      · cases hr
      · rename_i x1 f1 h1 hnn hq
        obtain ⟨κ1, W1, tm1, ds1, e1, s1, t1, m1, g1⟩ := hex n (by omega) _ _ _ _ _ _ hq κ W rest nt b _ ds B rfl hT2 hs hro hmk hB
        split at hr
        · rename_i es1 c1 hm1
          cases hr
          refine ⟨κ1, W1, tm1, ds1, h1, e1, s1, hm1, t1.1, fun p v hv => ?_, m1, fun k cs => Goes.head (hst k cs) (Goes.pass (y := .inLoop c) rfl (fun e => ?_) (g1 (.inLoop c :: k) cs))⟩
          · obtain ⟨v1, v2⟩ := meet_get hv
            exact ⟨v1, t1.2 _ _ v2⟩
          · exact hnn e
        · cases hr
      · cases hr
    · rename_i hl
      have hne : (esc.toList.filter fun e => !s'.contains e.born) ≠ [] := by
        intro h0
        rw [h0] at hER
        exact hl (List.length_eq_zero_iff.1 hER.1)
      obtain ⟨j, e', d, hj, hnx⟩ := nxt1 hne
      have hjl : j < (leftE seen es).length := by rw [hER.1]; exact (List.getElem?_eq_some_iff.1 hj).1
      have hje := List.getElem?_eq_getElem hjl
      obtain ⟨g1, g2, g3⟩ := hER.2 j _ _ hje hj
      obtain ⟨out, hout, hle⟩ := agree_le hr _ (List.getElem_mem hjl)
      generalize (leftE seen es)[j] = ee at *
      obtain ⟨ek, ev, eb⟩ := ee
      dsimp only at g1 g2 g3 hout
      have hst := two true [e'.key, e'.val] _ hnx
      -- the world behind the step
      obtain ⟨sd, ed⟩ := hs.draw d
      obtain ⟨s1, e1⟩ := SR.put sd (x := .it (some m') since (eb :: seen) clock) hqi hoi rfl (W' := putObj { W with drawn := d } qi.blk (.mapIter (some qm.blk) since (s'.push e'.born) clock)) (fun b hb => putObj_other hb) (by simp [putObj]) rfl rfl rfl (fun L hL => by rw [show ({ W with drawn := d } : World).heap = W.heap from rfl, hWi] at hL; cases hL) ⟨hb0, some qm.blk, s'.push e'.born, putObj_same hlti, by simp [hs', g3], .inr ⟨m', qm, rfl, hqm, rfl⟩⟩ (fun vs e => by cases e) (frozen_putObj (fun c t fr e => by rw [show ({ W with drawn := d } : World).heap = W.heap from rfl, hWi] at e; cases e) (fun c t fr e => by cases e))
      have e01 := ed.trans e1
      have hT2 : TR κ nt (T.set (.b true) (P.of d2) (T.set (.t [.b true, ek, ev]) (P.of d1) f)) (putA (putA tm (some d1) (.tuple [Value.bool true, e'.key, e'.val].toArray)) (some d2) (.bool true)) :=
        TR.put (W := W) (d := some d2) (TR.put (W := W) (d := some d1) hT (by simp [dstOk, Nat.blt_eq, hd1]) (VR.tup_mk (ys := [_, _, _]) (.cons (.b _) (.cons g1 (.one g2))))) (by simp [dstOk, Nat.blt_eq, hd2]) (.b _)
      obtain ⟨l1, l2, l3, l4⟩ := hle
      dsimp only at l1 l2 l3 l4
      have hfinish : ∀ (κ1 : K) (W1 : World) (tm1 : Array Value) (ds1 : List Deferred) (hF : H), Ex κ h W κ1 hF W1 → SR PR κ1 hF W1 → T.get m' hF.objs = some (.m out.2.1 out.2.2.1) → tm1.size = nt → (∀ p v, T.get p out.2.2.2 = some v → T.get p g = some v ∧ VR κ1 v (tm1.getD p.num undef)) → Mk B κ1 W1 ds1 → (∀ k cs, Goes PR (lone (fat b tm ds (.code c :: .inLoop c :: k)) cs W) b k cs tm1 ds1 W1 out.1) →
          ∃ κ' W' tm' ds' hF, Ex κ h W κ' hF W' ∧ SR PR κ' hF W' ∧ T.get m' hF.objs = some (.m es2 c2) ∧ tm'.size = nt ∧ (∀ p v, T.get p f'' = some v → T.get p g = some v ∧ VR κ' v (tm'.getD p.num undef)) ∧ Mk B κ' W' ds' ∧ ∀ k cs, Goes PR (lone (fat b tm ds (.code c :: .inLoop c :: k)) cs W) b k cs tm' ds' W' x := by
        intro κ1 W1 tm1 ds1 hF q1 q2 q3 q4 q5 q6 q7
        rw [← l2, ← l3] at q3
        rw [← l1] at q7
        exact ⟨κ1, W1, tm1, ds1, hF, q1, q2, q3, q4, fun p v hv => q5 p v (l4 p v hv), q6, q7⟩
      split at hout
      · rename_i f1 h1 hq
        obtain ⟨κ1, W1, tm1, ds1, e2, s2, t2, m2, gg⟩ := hex n (by omega) _ _ _ _ _ _ hq κ _ rest nt b _ ds B rfl hT2 s1 (hro.step e01) (hmk.step e01) (Nat.le_trans hB e01.sz)
        obtain ⟨x1, es1, c1, ff1⟩ := out
        have e012 := e01.trans e2
        obtain ⟨κ3, W3, tm3, ds3, hF, q1, q2, q3, q4, q5, q6, q7⟩ := ih (by omega) _ _ _ _ _ _ hout κ1 W1 b tm1 ds1 B t2 s2 (by rw [e012.le _ _ hqi]; simp) (by rw [e012.le _ _ hqm]; simp) (hro.step e012) m2 (Nat.le_trans hB e012.sz)
        refine hfinish κ3 W3 tm3 ds3 hF (e012.trans q1) q2 q3 q4 q5 q6 (fun k cs => ?_)
        have a1 := hst k cs
        have a2 : Steps PR _ (lone (fat b tm1 ds1 (.inLoop c :: k)) cs W1) := gg (.inLoop c :: k) cs
        exact Goes.head ((a1.trans a2).trans (.one st_inLoop)) (q7 k cs)
      · rename_i x1 f1 h1 hnn hq
        obtain ⟨κ1, W1, tm1, ds1, e2, s2, t2, m2, gg⟩ := hex n (by omega) _ _ _ _ _ _ hq κ _ rest nt b _ ds B rfl hT2 s1 (hro.step e01) (hmk.step e01) (Nat.le_trans hB e01.sz)
        split at hout
        · rename_i es1 c1 hm1
          cases hout
          refine hfinish κ1 W1 tm1 ds1 h1 (e01.trans e2) s2 hm1 t2.1 (fun p v hv => ?_) m2 (fun k cs => Goes.head (hst k cs) (Goes.pass (y := .inLoop c) rfl (fun e => ?_) (gg (.inLoop c :: k) cs)))
          · obtain ⟨v1, v2⟩ := meet_get hv
            exact ⟨v1, t2.2 _ _ v2⟩
          · exact hnn e
        · cases hout
      · cases hout
end
end Go.Am
namespace Go.Am
open Go Classical
section
variable {PR : Program} {E : Env} {κ : K} {nt : Nat} {f : T V} {tm : Array Value} {h : H}
theorem roT_get : ∀ (p : P) (t : T Obj), T.get p (roT t) = (T.get p t).map roObj
  | _, .e => by simp [roT, get_e]
  | .z, .n l v r => by cases v <;> rfl
  | .l p, .n l v r => roT_get p l
  | .r p, .n l v r => roT_get p r
theorem bare1_back {κ κ' : K} {v : V} {w : Value} (hb : bare1 v = true) (h : VR κ' v w) : VR κ v w := by
  cases v <;> simp only [bare1, Bool.false_eq_true] at hb
  · rw [h.bool]; exact .b _
  · rw [h.int]; exact .i _ _
  · obtain ⟨y, rfl, hy⟩ := h.str; exact .s _ _ hy
theorem bareL_back {κ κ' : K} : ∀ {l : List V} {ys : List Value}, bareL l = true → VRs κ' l ys → VRs κ l ys
  | [], ys, _, h => by rw [List.length_eq_zero_iff.1 h.1.symm]; exact .nil κ
  | x :: l, [], _, h => by cases h.1
  | x :: l, y :: ys, hb, h => by
    simp only [bareL, Bool.and_eq_true] at hb
    exact .cons (bare1_back hb.1 (h.2 0 _ _ rfl rfl)) (bareL_back hb.2 (by have := h.drop 1; simpa using this))
theorem bareV_back {κ κ' : K} {v : V} {w : Value} (hb : bareV v = true) (h : VR κ' v w) : VR κ v w := by
  cases v with
  | a l =>
    obtain ⟨ys, rfl, hs⟩ := h.agg
    exact VR.agg_mk (bareL_back hb hs)
  | _ => exact bare1_back hb h
theorem bare_back {κ κ' : K} : ∀ {es : Es} {es' : List MapEntry}, bare es = true → ER κ' es es' → ER κ es es'
  | [], es', _, h => by rw [List.length_eq_zero_iff.1 h.1.symm]; exact ⟨rfl, fun i e e' h => by simp at h⟩
  | e :: es, [], _, h => by cases h.1
  | (k, v, n) :: es, e' :: es', hb, h => by
    simp only [bare, Bool.and_eq_true] at hb
    obtain ⟨g1, g2, g3⟩ := h.2 0 _ _ rfl rfl
    have ih := bare_back hb.2 (es' := es') (κ := κ) (κ' := κ') ⟨by have := h.1; simpa using this, fun i a b ha hb => h.2 (i + 1) a b (by simpa using ha) (by simpa using hb)⟩
    refine ⟨by simp [ih.1], fun i a c ha hc => ?_⟩
    cases i with
    | zero => simp at ha hc; subst ha; subst hc; exact ⟨bareV_back hb.1.1 g1, bareV_back hb.1.2 g2, g3⟩
    | succ i => exact ih.2 i a c (by simpa using ha) (by simpa using hc)
theorem roObj_own (x : Obj) : (roObj x).own = false := by cases x <;> rfl
theorem rmapS {n : Nat} (hex : ∀ m, m < n + 1 → ExecS PR E m) : RmapS PR E n := by
  intro c ita nx ok rest f h x f' h' he κ W nt b tm ds B hcl hT hs hro hmk hB
  -- what the code is
  have hcode : ∃ (id : Nat) (ops : Array Oper) (restC : Code) (d1 d2 : Tmp) (itop : Operand) (ty1 ty2 : TypeId) (pos1 pos2 : String) (a1 a2 : Array Edge), c = .seq (.region id ops false) restC ∧ ops.toList = [⟨some d1, .next itop false, ty1, pos1, a1, none⟩, ⟨some d2, .extract (.tmp d1) 0, ty2, pos2, a2, none⟩] ∧ co PR itop = some ita ∧ d1 < nt ∧ d2 < nt ∧ nx = P.of d1 ∧ ok = P.of d2 ∧ rest = comp PR nt restC := by
    unfold compLoop at hcl
    split at hcl
    · rename_i id ops restC a rest' heq
      split at hcl
      · rename_i d1 itop ty1 pos1 a1 d2 d1' ty2 pos2 a2 hops
        split at hcl
        · rename_i xx hxx
          split at hcl
          · rename_i hd
            obtain ⟨rfl, h2, h3⟩ := hd
            simp only [C.rmap.injEq] at hcl
            obtain ⟨rfl, rfl, rfl, rfl⟩ := hcl
            simp only [comp, C.seq.injEq] at heq
            exact ⟨id, ops, restC, d1, d2, itop, ty1, ty2, pos1, pos2, a1, a2, rfl, hops, hxx, h2, h3, rfl, rfl, heq.2.symm⟩
          · cases hcl
        · cases hcl
      · cases hcl
    · cases hcl
  obtain ⟨id, ops, restC, d1, d2, itop, ty1, ty2, pos1, pos2, a1, a2, hc, hops, hit, hd1, hd2, rfl, rfl, rfl⟩ := hcode
  simp only [exec] at he
  split at he
  case h_2 => cases he
  rename_i it hita
  split at he
  case h_2 => cases he
  rename_i m since last hoi
  split at he
  case h_2 => cases he
  rename_i es clock hom
  split at he
  case h_2 => cases he
  rename_i x1 es' c' f1 hr
  split at he
  case isFalse => cases he
  rename_i hbare
  cases he
  have hne : m ≠ it := fun e => by rw [e, hoi] at hom; cases hom
  have hitv := co_sound hs.gl hT hit
  rw [hita] at hitv
  obtain ⟨qi, hqi, _⟩ := hitv.ptr
  obtain ⟨y, hy, hobi, hlti⟩ := hs.obj it qi hqi
  rw [hoi] at hy; cases hy
  obtain ⟨hb0, mm, s', hWi, hs', hmk'⟩ := hobi
  obtain ⟨qm, hqm, rfl⟩ : ∃ qm, κ m = some qm ∧ mm = some qm.blk := by
    rcases hmk' with ⟨h0, _⟩ | ⟨o2, q2, ho2, hq2, rfl⟩
    · cases h0
    · cases ho2; exact ⟨q2, hq2, rfl⟩
  -- all else is only read meanwhile
  have g1 : ∀ o, o ≠ m → o ≠ it → T.get o ((⟨roT h.objs, h.next⟩ : H).set it (.it (some m) since [] last) |>.set m (.m es clock)).objs = (T.get o h.objs).map roObj := by
    intro o h1 h2
    exact (get_set_ne _ _ _ _ h1).trans ((get_set_ne _ _ _ _ h2).trans (roT_get o _))
  have g2 : T.get m ((⟨roT h.objs, h.next⟩ : H).set it (.it (some m) since [] last) |>.set m (.m es clock)).objs = some (.m es clock) := get_set _ _ _
  have g3 : T.get it ((⟨roT h.objs, h.next⟩ : H).set it (.it (some m) since [] last) |>.set m (.m es clock)).objs = some (.it (some m) since [] last) := (get_set_ne _ _ _ _ (fun e => hne e.symm)).trans (get_set _ _ _)
  have gn : ((⟨roT h.objs, h.next⟩ : H).set it (.it (some m) since [] last) |>.set m (.m es clock)).next = h.next := rfl
  generalize hh1 : ((⟨roT h.objs, h.next⟩ : H).set it (.it (some m) since [] last) |>.set m (.m es clock)) = h1 at *
  have hs1 : SR PR κ h1 W := by
    refine ⟨fun o q e => ?_, fun o q e => by rw [gn]; exact hs.low o q e, fun o o' q q' x x' e e' hoo hx hx' how hd => ?_, fun b hb => ?_⟩
    · obtain ⟨x, hx, hob, hlt⟩ := hs.obj o q e
      by_cases h1 : o = m
      · subst h1; rw [hom] at hx; cases hx; exact ⟨_, g2, hob, hlt⟩
      · by_cases h2 : o = it
        · subst h2; rw [hoi] at hx; cases hx; exact ⟨_, g3, hob, hlt⟩
        · refine ⟨roObj x, by rw [g1 o h1 h2, hx]; rfl, ?_, hlt⟩
          cases x with
          | c vs ro => exact ⟨hob.1, fun e => by cases e⟩
          | dead => trivial
          | _ => exact ⟨fun i v hi => by simp at hi, fun e => by cases e⟩
    · have hox : ∃ y, T.get o h.objs = some y ∧ y.own = true := by
        by_cases h1 : o = m
        · subst h1; exact ⟨_, hom, rfl⟩
        · by_cases h2 : o = it
          · subst h2; exact ⟨_, hoi, rfl⟩
          · rw [g1 o h1 h2, Option.map_eq_some_iff] at hx
            obtain ⟨y, _, rfl⟩ := hx
            rw [roObj_own] at how; cases how
      have hox' : ∃ y, T.get o' h.objs = some y ∧ y ≠ .dead := by
        by_cases h1 : o' = m
        · subst h1; exact ⟨_, hom, by simp⟩
        · by_cases h2 : o' = it
          · subst h2; exact ⟨_, hoi, by simp⟩
          · rw [g1 o' h1 h2, Option.map_eq_some_iff] at hx'
            obtain ⟨y, hy, rfl⟩ := hx'
            exact ⟨y, hy, fun e => hd (by rw [e]; rfl)⟩
      obtain ⟨y, hy, hyo⟩ := hox
      obtain ⟨y', hy', hyd⟩ := hox'
      exact hs.sep o o' q q' y y' e e' hoo hy hy' hyo hyd
    · obtain ⟨hq, vs, hv⟩ := hs.glob b hb
      refine ⟨hq, vs, ?_⟩
      rw [g1 _ (fun e => by rw [e, hom] at hv; cases hv) (fun e => by rw [e, hoi] at hv; cases hv), hv]
      rfl
  obtain ⟨κ', W', tm', ds', hF, e1, s1, hmF, htm, hf, m1, gg⟩ := rounds_sound (N := n + 1) (fun m hm => hex m hm) hc hops hit hd1 hd2 n (by omega) _ _ _ _ _ _ hr κ W b tm ds B hT hs1 (by rw [hqi]; simp) (by rw [hqm]; simp) hro hmk hB
  have hnown : ∀ o, o ≠ m → o ≠ it → nOwn h1 o := by
    intro o h2 h3 x hx
    rw [g1 o h2 h3, Option.map_eq_some_iff] at hx
    obtain ⟨y, _, rfl⟩ := hx
    exact roObj_own y
  have gO : ∀ o, o ≠ m → o ≠ it → T.get o ((h.set m (.m es' c')).set it .dead).objs = T.get o h.objs := fun o h2 h3 => (get_set_ne _ _ _ _ h3).trans (get_set_ne _ _ _ _ h2)
  have gOm : T.get m ((h.set m (.m es' c')).set it .dead).objs = some (.m es' c') := (get_set_ne _ _ _ _ hne).trans (get_set _ _ _)
  have gOi : T.get it ((h.set m (.m es' c')).set it .dead).objs = some .dead := get_set _ _ _
  have hblk : ∀ o q y, κ o = some q → o ≠ m → o ≠ it → T.get o h.objs = some y → y ≠ .dead → W'.heap[q.blk]? = W.heap[q.blk]? := by
    intro o q y e h2 h3 hy hd
    obtain ⟨_, _, _, hlt⟩ := hs.obj o q e
    refine e1.fr q.blk hlt (fun o' q' e' hb => ?_)
    by_cases h4 : o' = m
    · subst h4
      exact absurd hb (hs.sep o' o q' q _ y e' e (fun h => h2 h.symm) hom hy rfl hd)
    · by_cases h5 : o' = it
      · subst h5
        exact absurd hb (hs.sep o' o q' q _ y e' e (fun h => h3 h.symm) hoi hy rfl hd)
      · exact hnown o' h4 h5
  refine ⟨κ, W', tm', ds', ⟨fun _ _ h => h, fun _ _ h => .inl h, fun _ _ h => .inl h, fun o hk hn => ?_, fun bb hbb hall => ?_, e1.sz, Nat.le_refl _, e1.os, e1.tape, e1.output, e1.lp, e1.fz⟩, ⟨fun o q e => ?_, hs.low, fun o o' q q' x x' e e' hoo hx hx' how hd => ?_, fun bb hbb => ?_⟩, ⟨htm, fun p v hv => ?_⟩, ?_, gg⟩
  · refine gO o (fun e => ?_) (fun e => ?_)
    · subst e; have := hn _ hom; cases this
    · subst e; have := hn _ hoi; cases this
  · refine e1.fr bb hbb (fun o q e hb => ?_)
    have hn := hall o q e hb
    exact hnown o (fun e => by subst e; have := hn _ hom; cases this) (fun e => by subst e; have := hn _ hoi; cases this)
  · obtain ⟨y, hy, hob, hlt⟩ := hs.obj o q e
    have hlt' : q.blk < W'.heap.size := Nat.lt_of_lt_of_le hlt e1.sz
    by_cases h2 : o = m
    · subst h2
      rw [hqm] at e; cases e
      obtain ⟨y2, hy2, hob2, _⟩ := s1.obj o qm (e1.le _ _ hqm)
      rw [hmF] at hy2; cases hy2
      obtain ⟨es2, hes2, hE2⟩ := hob2
      exact ⟨_, gOm, ⟨es2, hes2, bare_back hbare hE2⟩, hlt'⟩
    · by_cases h3 : o = it
      · subst h3; exact ⟨_, gOi, trivial, hlt'⟩
      · refine ⟨y, (gO o h2 h3).trans hy, ?_, hlt'⟩
        by_cases hd : y = .dead
        · subst hd; trivial
        · exact hob.mono (fun _ _ h => h) (hblk o q y e h2 h3 hy hd)
  · have hox : ∃ y, T.get o h.objs = some y ∧ y.own = true := by
      by_cases h2 : o = m
      · subst h2; exact ⟨_, hom, rfl⟩
      · by_cases h3 : o = it
        · subst h3; rw [gOi] at hx; cases hx; cases how
        · rw [gO o h2 h3] at hx; exact ⟨_, hx, how⟩
    have hox' : ∃ y, T.get o' h.objs = some y ∧ y ≠ .dead := by
      by_cases h2 : o' = m
      · subst h2; exact ⟨_, hom, by simp⟩
      · by_cases h3 : o' = it
        · subst h3; rw [gOi] at hx'; cases hx'; exact absurd rfl hd
        · rw [gO o' h2 h3] at hx'; exact ⟨_, hx', hd⟩
    obtain ⟨y, hy, hyo⟩ := hox
    obtain ⟨y', hy', hyd⟩ := hox'
    exact hs.sep o o' q q' y y' e e' hoo hy hy' hyo hyd
  · obtain ⟨hq, vs, hv⟩ := hs.glob bb hbb
    refine ⟨hq, vs, ?_⟩
    rw [gO _ (fun e => by rw [e, hom] at hv; cases hv) (fun e => by rw [e, hoi] at hv; cases hv)]
    exact hv
  · obtain ⟨v1, v2⟩ := hf p v hv
    exact (hT.2 _ _ v1).back e1.le v2
  · obtain ⟨Ds, e, hn, hD⟩ := m1
    exact ⟨Ds, e, hn, fun D hd => ⟨(hD D hd).1, (hD D hd).2.1, fun o q hq => (hD D hd).2.2 o q (e1.le _ _ hq)⟩⟩
end
end Go.Am
namespace Go.Am
open Go Classical
/-! ### what a run in the checked order tells -/
theorem restr_get : ∀ (l : List P) (f : T V) (p : P), T.get p (restr f l) = if p ∈ l then T.get p f else none
  | [], f, p => by simp [restr, get_e]
  | q :: l, f, p => by
    simp only [restr]
    cases hq : T.get q f with
    | none =>
      dsimp only
      rw [restr_get l f p]
      by_cases hp : p = q
      · subst hp
        rw [hq]
        by_cases hl : p ∈ l <;> simp [hl]
      · simp [hp]
    | some v =>
      dsimp only
      by_cases hp : p = q
      · subst hp
        rw [get_set]
        simp [hq]
      · rw [get_set_ne _ _ _ _ hp, restr_get l f p]
        simp [hp]
def StepD (cf : CF) (o : O) (F : T V) (h : H) (r : V) (F' : T V) (h' : H) : Prop :=
  F' = put F o.dst r ∧ ((wanted (restr F o.sl) o.gd = some false ∧ r = .t [] ∧ h' = h) ∨ (wanted (restr F o.sl) o.gd = some true ∧ evO cf (restr F o.sl) h o.op = some (r, h')))
/-- what holds of a later heap -/
def Later (o : O) (F : T V) (h : H) (r : V) (h2 : H) : Prop :=
  (∀ q, o.op = .r q → evR (restr F o.sl) h2 q = some r) ∧ (∀ q x v, o.op = .a q → evA (restr F o.sl) h.next q = some (x, v) → T.get h.next h2.objs = some x)
def isStop (os : List O) (b : Nat) : Prop := b = os.length ∨ ∃ o, os[b]? = some o ∧ o.op.loud = true
structure Tr (cf : CF) (os : List O) (F : Nat → T V) (Hh : Nat → H) (r : Nat → V) : Prop where
  step : ∀ c o, os[c]? = some o → StepD cf o (F c) (Hh c) (r c) (F (c + 1)) (Hh (c + 1))
  later : ∀ c o, os[c]? = some o → wanted (restr (F c) o.sl) o.gd = some true → ∀ b, c < b → b ≤ o.hi → isStop os b → Later o (F c) (Hh c) (r c) (Hh b)
theorem obeq_eq {x y : Obj} (h : obeq x y = true) : x = y := by
  unfold obeq at h
  split at h
  · simp only [Bool.and_eq_true, beq_iff_eq] at h
    rw [all2_eq (fun _ _ => vbeq1_eq) h.1, h.2]
  · rw [beq_iff_eq] at h; rw [h]
  · cases h
theorem chkAll_mem {h : H} : ∀ {l : List (PK × Nat)} {x : PK × Nat}, chkAll h l = true → x ∈ l → chkK h x.1 = true
  | [], _, _, hm => by cases hm
  | y :: l, x, hc, hm => by
    simp only [chkAll, Bool.and_eq_true] at hc
    cases hm with
    | head => exact hc.1
    | tail _ hm => exact chkAll_mem hc.2 hm
theorem mem_keep {c : Nat} : ∀ {l : List (PK × Nat)} {x : PK × Nat}, x ∈ l → c < x.2 → x ∈ keep c l
  | [], _, hm, _ => by cases hm
  | y :: l, x, hm, hc => by
    simp only [keep]
    cases hm with
    | head => rw [if_pos (by rw [Nat.blt_eq]; exact hc)]; exact List.mem_cons_self
    | tail _ hm =>
      have := mem_keep hm hc
      split
      · exact List.mem_cons_of_mem _ this
      · exact this
theorem runD_tr {cf : CF} : ∀ (os : List O) (c0 : Nat) (f : T V) (h : H) (pend : List (PK × Nat)) (f' : T V) (h' : H), runD cf os c0 f h pend = some (f', h') →
    ∃ (F : Nat → T V) (Hh : Nat → H) (r : Nat → V), F 0 = f ∧ Hh 0 = h ∧ F os.length = f' ∧ Hh os.length = h' ∧ (∀ c o, os[c]? = some o → StepD cf o (F c) (Hh c) (r c) (F (c + 1)) (Hh (c + 1))) ∧
      (∀ x ∈ pend, ∀ b, c0 + b ≤ x.2 → isStop os b → chkK (Hh b) x.1 = true) ∧
      (∀ c o, os[c]? = some o → wanted (restr (F c) o.sl) o.gd = some true → ∀ b, c < b → c0 + b ≤ o.hi → isStop os b → Later o (F c) (Hh c) (r c) (Hh b))
  | [], c0, f, h, pend, f', h', hr => by
    simp only [runD] at hr
    split at hr
    · rename_i hc
      cases hr
      refine ⟨fun _ => f, fun _ => h, fun _ => .u, rfl, rfl, rfl, rfl, fun c o e => by simp at e, fun x hx b _ _ => chkAll_mem hc hx, fun c o e => by simp at e⟩
    · cases hr
  | o :: os, c0, f, h, pend, f', h', hr => by
    simp only [runD] at hr
    split at hr
    · rename_i hck
      have hck' : o.op.loud = true → chkAll h pend = true := fun hl => by rw [hl] at hck; simpa using hck
      -- the rest, once the step is known
      have key : ∀ (v : V) (h1 : H) (pend1 : List (PK × Nat)), StepD cf o f h v (put f o.dst v) h1 → runD cf os (c0 + 1) (put f o.dst v) h1 pend1 = some (f', h') →
          (∀ x ∈ pend, (o.op.loud = true → c0 < x.2) → x ∈ pend1) →
          (wanted (restr f o.sl) o.gd = some true → (∀ q, o.op = .r q → (.r q (restr f o.sl) v, o.hi) ∈ pend1) ∧ (∀ q x w, o.op = .a q → evA (restr f o.sl) h.next q = some (x, w) → (.a h.next x, o.hi) ∈ pend1)) →
          ∃ (F : Nat → T V) (Hh : Nat → H) (r : Nat → V), F 0 = f ∧ Hh 0 = h ∧ F (o :: os).length = f' ∧ Hh (o :: os).length = h' ∧ (∀ c o', (o :: os)[c]? = some o' → StepD cf o' (F c) (Hh c) (r c) (F (c + 1)) (Hh (c + 1))) ∧
            (∀ x ∈ pend, ∀ b, c0 + b ≤ x.2 → isStop (o :: os) b → chkK (Hh b) x.1 = true) ∧
            (∀ c o', (o :: os)[c]? = some o' → wanted (restr (F c) o'.sl) o'.gd = some true → ∀ b, c < b → c0 + b ≤ o'.hi → isStop (o :: os) b → Later o' (F c) (Hh c) (r c) (Hh b)) := by
        intro v h1 pend1 hst hr1 hp hn
        obtain ⟨F, Hh, r, e1, e2, e3, e4, hs, hpd, hl⟩ := runD_tr os (c0 + 1) _ h1 pend1 f' h' hr1
        have stop' : ∀ b, isStop (o :: os) (b + 1) → isStop os b := fun b hb => by
          rcases hb with hb | ⟨o', ho', hl'⟩
          · exact .inl (by simpa using hb)
          · exact .inr ⟨o', by simpa using ho', hl'⟩
        refine ⟨fun | 0 => f | n + 1 => F n, fun | 0 => h | n + 1 => Hh n, fun | 0 => v | n + 1 => r n, rfl, rfl, e3, e4, fun c o' ho' => ?_, fun x hx b hb hsb => ?_, fun c o' ho' hw b hcb hb hsb => ?_⟩
        · cases c with
          | zero =>
            simp only [List.getElem?_cons_zero, Option.some.injEq] at ho'
            subst ho'
            show StepD cf o f h v (F 0) (Hh 0)
            rw [e1, e2]; exact hst
          | succ c => exact hs c o' (by simpa using ho')
        · cases b with
          | zero =>
            rcases hsb with hb0 | ⟨o', ho', hl'⟩
            · simp at hb0
            · simp only [List.getElem?_cons_zero, Option.some.injEq] at ho'
              subst ho'
              exact chkAll_mem (hck' hl') hx
          | succ b =>
            exact hpd x (hp x hx (fun _ => by omega)) b (by omega) (stop' b hsb)
        · cases c with
          | zero =>
            simp only [List.getElem?_cons_zero, Option.some.injEq] at ho'
            subst ho'
            cases b with
            | zero => omega
            | succ b =>
              obtain ⟨n1, n2⟩ := hn hw
              refine ⟨fun q hq => ?_, fun q x w hq hx => ?_⟩
              · have := hpd _ (n1 q hq) b (by dsimp only; omega) (stop' b hsb)
                simp only [chkK] at this
                split at this
                · rename_i w hw'
                  rw [vbeq_eq this] at hw'
                  exact hw'
                · cases this
              · have := hpd _ (n2 q x w hq hx) b (by dsimp only; omega) (stop' b hsb)
                simp only [chkK] at this
                split at this
                · rename_i y hy
                  rw [obeq_eq this] at hy
                  exact hy
                · cases this
          | succ c =>
            cases b with
            | zero => omega
            | succ b => exact hl c o' (by simpa using ho') hw b (by omega) (by omega) (stop' b hsb)
      split at hr
      · rename_i hw
        split at hr
        · rename_i v h1 hv
          refine key v h1 _ ⟨rfl, .inr ⟨hw, hv⟩⟩ hr (fun x hx hlt => ?_) (fun _ => ⟨fun q hq => ?_, fun q x w hq hx => ?_⟩)
          · unfold pkOf
            split
            · exact List.mem_cons_of_mem _ hx
            · split
              · exact List.mem_cons_of_mem _ hx
              · exact hx
            · rename_i q hq
              exact mem_keep hx (hlt (by rw [hq]; rfl))
            · exact hx
          · unfold pkOf
            rw [hq]
            exact List.mem_cons_self
          · unfold pkOf
            rw [hq]
            dsimp only
            rw [hx]
            exact List.mem_cons_self
        · cases hr
      · rename_i hw
        refine key (.t []) h _ ⟨rfl, .inl ⟨hw, rfl, rfl⟩⟩ hr (fun x hx hlt => ?_) (fun hw' => by rw [hw] at hw'; cases hw')
        split
        · rename_i hl; exact mem_keep hx (hlt hl)
        · exact hx
      · cases hr
    · cases hr
/-! ### what the check of an order tells -/
structure DOk (ops : Array Oper) (ord : List Nat) (os : List O) (bef : Nat → Nat → Bool) : Prop where
  len : ord.length = os.length
  sz : ord.length = ops.size
  all : ∀ i : Nat, i < ops.size → i ∈ ord
  inj : ∀ c c' i : Nat, ord[c]? = some i → ord[c']? = some i → c < os.length → c' < os.length → c = c'
  has : ∀ c i : Nat, ord[c]? = some i → ∃ o, ops[i]? = some o
  dep : ∀ (c i : Nat) (op : Oper), ord[c]? = some i → ops[i]? = some op → ∀ e ∈ op.after, Region.binds .any e = true → ∃ p, p < c ∧ ord[p]? = some e.on
  bit : ∀ (c i : Nat) (op : Oper) (c' : Nat), ord[c]? = some i → ops[i]? = some op → c' < os.length → bef c c' = true → ∃ e ∈ op.after, Region.binds .any e = true ∧ ∃ p, p < os.length ∧ ord[p]? = some e.on ∧ (p = c' ∨ bef p c' = true)
  hi : ∀ (c : Nat) (o : O), os[c]? = some o → o.hi = os.length ∨ ∃ o', os[o.hi]? = some o' ∧ o'.op.loud = true ∧ bef o.hi c = true
  loud : ∀ (c' c : Nat) (o' : O), os[c']? = some o' → c' < c → c < os.length → o'.op.loud = true → bef c c' = true
  sl1 : ∀ (c' c : Nat) (o' o : O) (p : P), os[c']? = some o' → os[c]? = some o → c' < c → o'.dst = some p → p ∈ o.sl → bef c c' = true
  sl2 : ∀ (c' c : Nat) (o' o : O) (p : P), os[c']? = some o' → os[c]? = some o → c' < c → o.dst = some p → p ∈ o'.sl → bef c c' = true
  ds : ∀ (c' c : Nat) (o' o : O) (p : P), os[c']? = some o' → os[c]? = some o → c' < c → o'.dst = some p → o.dst ≠ some p
theorem P.beq_refl : ∀ p : P, p.beq p = true
  | .z => rfl
  | .l p => P.beq_refl p
  | .r p => P.beq_refl p
theorem chkD_ok {ops : Array Oper} {ord bf : List Nat} {os : List O} (h : chkD ops ord bf os = true) : DOk ops ord os (fun c c' => (bf.getD c 0).testBit c') := by
  simp only [chkD, Bool.and_eq_true, beq_iff_eq, List.all_eq_true, List.mem_range, List.contains_iff_mem] at h
  obtain ⟨⟨⟨hlen, hsz⟩, hall⟩, hat⟩ := h
  have at_ : ∀ c, c < os.length → ∃ i o op, ord[c]? = some i ∧ os[c]? = some o ∧ ops[i]? = some op ∧ (∀ e ∈ op.after, depAt ord c e = true) ∧
      (∀ c', c' < os.length → (bf.getD c 0).testBit c' = true → ∃ e ∈ op.after, bitAt ord bf os.length c' e = true) ∧
      (o.hi = os.length ∨ ∃ o', os[o.hi]? = some o' ∧ o'.op.loud = true ∧ (bf.getD o.hi 0).testBit c = true) ∧
      ∀ c', c' < c → ∃ i' o', ord[c']? = some i' ∧ os[c']? = some o' ∧ i' ≠ i ∧ pairOk o' o ((bf.getD c 0).testBit c') = true := by
    intro c hc
    have hh := hat c hc
    unfold chkAt at hh
    split at hh
    · rename_i i o hi ho
      split at hh
      · rename_i op hop
        simp only [Bool.and_eq_true, List.all_eq_true, List.mem_range, Bool.or_eq_true, Bool.not_eq_true', List.any_eq_true, beq_iff_eq, Array.mem_toList_iff] at hh
        obtain ⟨⟨⟨h1, h2⟩, h3⟩, h4⟩ := hh
        refine ⟨i, o, op, hi, ho, hop, h1, fun c' hc' hb => ?_, ?_, fun c' hc' => ?_⟩
        · rcases h2 c' hc' with h5 | h5
          · rw [hb] at h5; cases h5
          · exact h5
        · rcases h3 with h5 | h5
          · exact .inl h5
          · split at h5
            · rename_i o' ho'
              simp only [Bool.and_eq_true] at h5
              exact .inr ⟨o', ho', h5.1, h5.2⟩
            · cases h5
        · have h5 := h4 c' hc'
          split at h5
          · rename_i i' o' hi' ho'
            simp only [Bool.and_eq_true, bne_iff_ne] at h5
            exact ⟨i', o', hi', ho', h5.1, h5.2⟩
          · cases h5
      · cases hh
    · cases hh
  have lt_ : ∀ {c : Nat} {i : Nat}, ord[c]? = some i → c < os.length := fun hi => hlen ▸ (List.getElem?_eq_some_iff.1 hi).1
  have lto : ∀ {c : Nat} {o : O}, os[c]? = some o → c < os.length := fun hi => (List.getElem?_eq_some_iff.1 hi).1
  have pr : ∀ c' c o' o, os[c']? = some o' → os[c]? = some o → c' < c → pairOk o' o ((bf.getD c 0).testBit c') = true := fun c' c o' o ho' ho hlt => by
    obtain ⟨i, o2, op, e1, e2, e3, _, _, _, h4⟩ := at_ c (lto ho)
    obtain ⟨i', o2', e1', e2', _, h5⟩ := h4 c' hlt
    rw [ho] at e2; cases e2
    rw [ho'] at e2'; cases e2'
    exact h5
  have inPm : ∀ {d : Option P} {l : List P} {p : P}, d = some p → p ∈ l → inP d l = true := fun hd hm => by
    subst hd
    simp only [inP, List.any_eq_true]
    exact ⟨_, hm, P.beq_refl _⟩
  refine ⟨hlen, hsz, hall, fun c c' i hc hc' hl hl' => ?_, fun c i hi => ?_, fun c i op hi hop e he hb => ?_, fun c i op c' hi hop hc' hb => ?_, fun c o ho => ?_, fun c' c o' ho' hlt hc hl => ?_, fun c' c o' o p ho' ho hlt hd hm => ?_, fun c' c o' o p ho' ho hlt hd hm => ?_, fun c' c o' o p ho' ho hlt hd hd' => ?_⟩
  · have aux : ∀ a b, a < b → b < os.length → ord[a]? = some i → ord[b]? = some i → False := fun a b hab hb ha hb' => by
      obtain ⟨i2, o2, op, e1, e2, e3, _, _, _, h4⟩ := at_ b hb
      obtain ⟨i', o2', e1', e2', hne, h5⟩ := h4 a hab
      rw [ha] at e1'; cases e1'
      rw [hb'] at e1; cases e1
      exact hne rfl
    rcases Nat.lt_trichotomy c c' with hlt | heq | hlt
    · exact (aux c c' hlt hl' hc hc').elim
    · exact heq
    · exact (aux c' c hlt hl hc' hc).elim
  · obtain ⟨i2, o, op, e1, e2, e3, _⟩ := at_ c (lt_ hi)
    rw [hi] at e1; cases e1
    exact ⟨op, e3⟩
  · obtain ⟨i2, o, op2, e1, e2, e3, h1, _⟩ := at_ c (lt_ hi)
    rw [hi] at e1; cases e1
    rw [hop] at e3; cases e3
    have := h1 e he
    simp only [depAt, hb, Bool.not_true, Bool.false_or, List.any_eq_true, List.mem_range, beq_iff_eq] at this
    obtain ⟨p, hp, hq⟩ := this
    exact ⟨p, hp, hq⟩
  · obtain ⟨i2, o, op2, e1, e2, e3, h1, h2, _⟩ := at_ c (lt_ hi)
    rw [hi] at e1; cases e1
    rw [hop] at e3; cases e3
    obtain ⟨e, he, hbt⟩ := h2 c' hc' hb
    simp only [bitAt, Bool.and_eq_true, List.any_eq_true, List.mem_range, beq_iff_eq, Bool.or_eq_true] at hbt
    obtain ⟨hb1, p, hp, hq, hr⟩ := hbt
    exact ⟨e, he, hb1, p, hp, hq, hr⟩
  · obtain ⟨i2, o2, op2, e1, e2, e3, h1, h2, h3, _⟩ := at_ c (lto ho)
    rw [ho] at e2; cases e2
    exact h3
  · obtain ⟨i2, o2, op2, e1, e2, e3, _⟩ := at_ c hc
    have := pr c' c o' o2 ho' e2 hlt
    simp only [pairOk, hl, Bool.not_true, Bool.false_and, Bool.or_false, Bool.and_eq_true] at this
    exact this.1
  · have := pr c' c o' o ho' ho hlt
    simp only [pairOk, inPm hd hm, Bool.not_true, Bool.and_false, Bool.false_and, Bool.or_false, Bool.and_eq_true] at this
    exact this.1
  · have := pr c' c o' o ho' ho hlt
    simp only [pairOk, inPm hd hm, Bool.not_true, Bool.and_false, Bool.false_and, Bool.or_false, Bool.and_eq_true] at this
    exact this.1
  · have := pr c' c o' o ho' ho hlt
    simp only [pairOk, hd, hd', sameD, P.beq_refl, Bool.not_true, Bool.and_false] at this
    cases this
end Go.Am
namespace Go.Am
open Go Classical
section
variable {PR : Program} {E : Env} {κ κ0 : K} {nt : Nat} {h h0 : H} {W W0 : World}
/-- other objects come to be -/
theorem SR.over (hs : SR PR κ h W) {h' : H} (ho : ∀ o, κ o ≠ none → T.get o h'.objs = T.get o h.objs) (hn : h.next.num ≤ h'.next.num) : SR PR κ h' W := by
  have hk : ∀ {o q}, κ o = some q → κ o ≠ none := fun e => by rw [e]; simp
  refine ⟨fun o q e => ?_, fun o q e => Nat.lt_of_lt_of_le (hs.low o q e) hn, fun o o' q q' x x' e e' hne hx hx' => ?_, fun b hb => ?_⟩
  · obtain ⟨x, hx, hr⟩ := hs.obj o q e
    exact ⟨x, (ho o (hk e)).trans hx, hr⟩
  · exact hs.sep o o' q q' x x' e e' hne ((ho o (hk e)).symm.trans hx) ((ho o' (hk e')).symm.trans hx')
  · obtain ⟨⟨q, e, h1⟩, vs, hv⟩ := hs.glob b hb
    exact ⟨⟨q, e, h1⟩, vs, (ho _ (hk e)).trans hv⟩
theorem SR.ins (hs : SR PR κ h W) (x : Obj) : SR PR κ (h.new x) W :=
  hs.over (fun o hk => by
    cases e : κ o with
    | none => exact absurd e hk
    | some q => exact get_set_ne _ _ _ _ (of_ne_next hs e)) (by show _ ≤ h.next.succ.num; rw [num_succ]; omega)
theorem Ex.ins (hE : Ex κ0 h0 W0 κ h W) (hs : SR PR κ h W) (x : Obj) : Ex κ0 h0 W0 κ (h.new x) W :=
  ⟨hE.le, hE.nw, hE.fresh, fun o hk hn => by
    cases e : κ0 o with
    | none => exact absurd e hk
    | some q => exact (get_set_ne _ _ _ _ (of_ne_next hs (hE.le _ _ e))).trans (hE.ro o hk hn), hE.fr, hE.sz, by show _ ≤ h.next.succ.num; rw [num_succ]; have := hE.nx; omega, hE.os, hE.tape, hE.output, hE.lp, hE.fz⟩
theorem le_upd_none {n : P} (hn : κ n = none) (q : Pl) : K.le κ (κ.upd n q) := by
  intro o q' e
  by_cases ho : o = n
  · subst ho; rw [hn] at e; cases e
  · rw [K.upd_ne _ _ ho]; exact e
/-- an object that the heap had ahead of the world -/
theorem SR.born (hs : SR PR κ h W) {n : P} {x : Obj} (hn : κ n = none) (hx : T.get n h.objs = some x) (hlow : n.num < h.next.num) (ob : Go.Obj) (tot : Nat) {W' : World} (hW' : W' = { W with heap := W.heap.push ob })
    (hob : ObR PR (κ.upd n ⟨W.heap.size, 0, tot⟩) W' ⟨W.heap.size, 0, tot⟩ x) : SR PR (κ.upd n ⟨W.heap.size, 0, tot⟩) h W' := by
  subst hW'
  have hle := le_upd_none hn ⟨W.heap.size, 0, tot⟩
  have hold : ∀ b, b < W.heap.size → ({ W with heap := W.heap.push ob } : World).heap[b]? = W.heap[b]? := by
    intro b hb
    simp only [Array.getElem?_push]
    rw [if_neg (by omega)]
  refine ⟨fun o q e => ?_, fun o q e => ?_, fun o o' q q' y y' e e' hne hy hy' hown hd => ?_, fun b hb => ?_⟩
  · by_cases ho : o = n
    · subst ho
      rw [K.upd_same] at e; cases e
      exact ⟨x, hx, hob, by simp⟩
    · rw [K.upd_ne _ _ ho] at e
      obtain ⟨y, hy, hoy, hlt⟩ := hs.obj o q e
      exact ⟨y, hy, hoy.mono hle (hold _ hlt), by simp; omega⟩
  · by_cases ho : o = n
    · subst ho; exact hlow
    · rw [K.upd_ne _ _ ho] at e
      exact hs.low o q e
  · by_cases ho : o = n
    · subst ho
      rw [K.upd_same] at e; cases e
      rw [K.upd_ne _ _ (fun h => hne h.symm)] at e'
      obtain ⟨_, _, _, hlt⟩ := hs.obj o' q' e'
      exact fun h => by dsimp only at h; omega
    · rw [K.upd_ne _ _ ho] at e
      by_cases ho' : o' = n
      · subst ho'
        rw [K.upd_same] at e'; cases e'
        obtain ⟨_, _, _, hlt⟩ := hs.obj o q e
        exact fun h => by dsimp only at h; omega
      · rw [K.upd_ne _ _ ho'] at e'
        exact hs.sep o o' q q' y y' e e' hne hy hy' hown hd
  · obtain ⟨⟨q, e, h1⟩, hv⟩ := hs.glob b hb
    exact ⟨⟨q, hle _ _ e, h1⟩, hv⟩
theorem Ex.born (hE : Ex κ0 h0 W0 κ h W) {n : P} (hn : κ n = none) (hlow : h0.next.num ≤ n.num) (ob : Go.Obj) (hz : NF ob) (tot : Nat) {W' : World} (hW' : W' = { W with heap := W.heap.push ob }) : Ex κ0 h0 W0 (κ.upd n ⟨W.heap.size, 0, tot⟩) h W' := by
  subst hW'
  have hold : ∀ b, b < W.heap.size → ({ W with heap := W.heap.push ob } : World).heap[b]? = W.heap[b]? := by
    intro b hb
    simp only [Array.getElem?_push]
    rw [if_neg (by omega)]
  refine ⟨fun o q e => le_upd_none hn _ _ _ (hE.le _ _ e), fun o q e => ?_, fun o q e => ?_, hE.ro, fun b hb hall => (hold b (Nat.lt_of_lt_of_le hb hE.sz)).trans (hE.fr b hb hall), ?_, hE.nx, hE.os, hE.tape, hE.output, fun b (L : Go.Loop) e => ?_, fun x => (frozen_push hz x).trans (hE.fz x)⟩
  · by_cases ho : o = n
    · subst ho
      rw [K.upd_same] at e; cases e
      exact .inr (.inl hE.sz)
    · rw [K.upd_ne _ _ ho] at e
      exact hE.nw o q e
  · by_cases ho : o = n
    · subst ho; exact .inr hlow
    · rw [K.upd_ne _ _ ho] at e
      exact hE.fresh o q e
  · simp only [Array.size_push]; have := hE.sz; omega
  · obtain ⟨L', e'⟩ := hE.lp b L e
    exact ⟨L', (hold b (Array.getElem?_eq_some_iff.1 e').1).trans e'⟩
end
/-! ### a region underway -/
section
variable {PR : Program} {E : Env} {κ0 : K} {nt : Nat} {W0 : World} {os : List O} {F : Nat → T V} {Hh : Nat → H} {r : Nat → V} {bef : Nat → Nat → Bool} {f : T V}
/-- an operation that makes something, carried out in the checked order -/
def Makes (os : List O) (F : Nat → T V) (c : Nat) : Prop := ∃ o q, os[c]? = some o ∧ o.op = .a q ∧ wanted (restr (F c) o.sl) o.gd = some true
structure Inv (PR : Program) (κ0 : K) (W0 : World) (nt : Nat) (os : List O) (F : Nat → T V) (Hh : Nat → H) (r : Nat → V) (bef : Nat → Nat → Bool) (S : Nat → Prop) (b : Nat) (κ : K) (W : World) (fS : T V) (tm : Array Value) : Prop where
  sub : ∀ c, S c → c < os.length
  cl : ∀ c c', S c → c' < os.length → bef c c' = true → S c'
  stop : b ≤ os.length ∧ isStop os b
  ld : ∀ c o, os[c]? = some o → o.op.loud = true → (S c ↔ c < b)
  ex : Ex κ0 (Hh 0) W0 κ (Hh b) W
  sr : SR PR κ (Hh b) W
  un : ∀ c, c < b → Makes os F c → ¬ S c → κ (Hh c).next = none
  mono : ∀ a a', a ≤ a' → a' ≤ b → (Hh a).next.num ≤ (Hh a').next.num
  tr : TR κ nt fS tm
  t1 : ∀ c o p, S c → os[c]? = some o → o.dst = some p → T.get p fS = some (r c)
  t0 : ∀ p, (∀ c o, S c → os[c]? = some o → o.dst ≠ some p) → T.get p fS = T.get p (F 0)
variable {ops : Array Oper} {ord : List Nat}
theorem F_get {cf : CF} (hD : DOk ops ord os bef) (hst : ∀ c o, os[c]? = some o → StepD cf o (F c) (Hh c) (r c) (F (c + 1)) (Hh (c + 1))) : ∀ c, c ≤ os.length →
    (∀ k o p, k < c → os[k]? = some o → o.dst = some p → T.get p (F c) = some (r k)) ∧ (∀ p, (∀ k o, k < c → os[k]? = some o → o.dst ≠ some p) → T.get p (F c) = T.get p (F 0)) := by
  intro c
  induction c with
  | zero => exact fun _ => ⟨fun k o p hk => by omega, fun p _ => rfl⟩
  | succ c ih =>
    intro hc
    obtain ⟨i1, i2⟩ := ih (by omega)
    obtain ⟨o, ho⟩ : ∃ o, os[c]? = some o := ⟨_, List.getElem?_eq_getElem (by omega)⟩
    obtain ⟨hF, _⟩ := hst c o ho
    rw [hF]
    refine ⟨fun k o' p hk ho' hd => ?_, fun p hno => ?_⟩
    · by_cases hkc : k = c
      · subst hkc
        rw [ho] at ho'; cases ho'
        rw [hd]
        exact get_set _ _ _
      · have hne := hD.ds k c o' o p ho' ho (by omega) hd
        have : T.get p (put (F c) o.dst (r c)) = T.get p (F c) := by
          cases hdo : o.dst with
          | none => rfl
          | some d => exact get_set_ne _ _ _ _ (fun e => hne (by rw [hdo, e]))
        rw [this]
        exact i1 k o' p (by omega) ho' hd
    · have hne := hno c o (by omega) ho
      have : T.get p (put (F c) o.dst (r c)) = T.get p (F c) := by
        cases hdo : o.dst with
        | none => rfl
        | some d => exact get_set_ne _ _ _ _ (fun e => hne (by rw [hdo, e]))
      rw [this]
      exact i2 p (fun k o' hk ho' => hno k o' (by omega) ho')
/-- what an operation looks at is as in the checked order -/
theorem inv_frame {cf : CF} (hD : DOk ops ord os bef) (hst : ∀ c o, os[c]? = some o → StepD cf o (F c) (Hh c) (r c) (F (c + 1)) (Hh (c + 1))) {S : Nat → Prop} {b : Nat} {κ : K} {W : World} {fS : T V} {tm : Array Value}
    (hI : Inv PR κ0 W0 nt os F Hh r bef S b κ W fS tm) {c : Nat} {o : O} (ho : os[c]? = some o) (hnS : ¬ S c) (hrd : ∀ c', c' < os.length → bef c c' = true → S c') : TR κ nt (restr (F c) o.sl) tm := by
  have hc : c < os.length := (List.getElem?_eq_some_iff.1 ho).1
  refine ⟨hI.tr.1, fun p v hv => hI.tr.2 p v ?_⟩
  rw [restr_get] at hv
  split at hv
  · rename_i hm
    obtain ⟨g1, g2⟩ := F_get hD hst c (by omega)
    by_cases hex : ∃ k o', S k ∧ os[k]? = some o' ∧ o'.dst = some p
    · obtain ⟨k, o', hk, ho', hd⟩ := hex
      rw [hI.t1 k o' p hk ho' hd]
      rcases Nat.lt_trichotomy k c with hlt | heq | hlt
      · rw [← hv, g1 k o' p hlt ho' hd]
      · exact absurd (heq ▸ hk) hnS
      · have := hD.sl2 c k o o' p ho ho' hlt hd hm
        exact absurd (hI.cl k c hk hc this) hnS
    · have hno : ∀ k o', S k → os[k]? = some o' → o'.dst ≠ some p := fun k o' hk ho' hd => hex ⟨k, o', hk, ho', hd⟩
      rw [hI.t0 p hno, ← hv]
      refine (g2 p fun k o' hk ho' hd => ?_).symm
      have := hD.sl1 k c o' o p ho' ho hk hd hm
      exact hno k o' (hrd k (by omega) this) ho' hd
  · cases hv
theorem evO_quiet {cf : CF} {g : T V} {h h' : H} {op : Op} {v : V} (hq : op.loud = false) (hv : evO cf g h op = some (v, h')) : h' = h ∨ ∃ x, h' = h.new x := by
  cases op with
  | p q => simp only [evO] at hv; split at hv <;> cases hv; exact .inl rfl
  | r q => simp only [evO] at hv; split at hv <;> cases hv; exact .inl rfl
  | a q =>
    simp only [evO] at hv
    split at hv
    · cases hv; exact .inr ⟨_, rfl⟩
    · cases hv
  | l q => cases hq
theorem step_quiet {cf : CF} {o : O} {F F' : T V} {h h' : H} {v : V} (hs : StepD cf o F h v F' h') (hq : o.op.loud = false) : h' = h ∨ ∃ x, h' = h.new x := by
  rcases hs.2 with ⟨_, _, h1⟩ | ⟨_, h1⟩
  · exact .inl h1
  · exact evO_quiet hq h1
/-- up to the next loud one -/
theorem quiet_on {cf : CF} (hst : ∀ c o, os[c]? = some o → StepD cf o (F c) (Hh c) (r c) (F (c + 1)) (Hh (c + 1))) {κ : K} {W : World} {a : Nat} : ∀ (n : Nat), a + n ≤ os.length → (∀ k o, a ≤ k → k < a + n → os[k]? = some o → o.op.loud = false) →
    Ex κ0 (Hh 0) W0 κ (Hh a) W → SR PR κ (Hh a) W → Ex κ0 (Hh 0) W0 κ (Hh (a + n)) W ∧ SR PR κ (Hh (a + n)) W ∧ ∀ k k', a ≤ k → k ≤ k' → k' ≤ a + n → (Hh k).next.num ≤ (Hh k').next.num := by
  intro n
  induction n with
  | zero => exact fun _ _ hE hS => ⟨hE, hS, fun k k' h1 h2 h3 => by have : k = k' := by omega
                                                                    subst this; exact Nat.le_refl _⟩
  | succ n ih =>
    intro hn hq hE hS
    obtain ⟨e1, s1, m1⟩ := ih (by omega) (fun k o h1 h2 ho => hq k o h1 (by omega) ho) hE hS
    obtain ⟨o, ho⟩ : ∃ o, os[a + n]? = some o := ⟨_, List.getElem?_eq_getElem (by omega)⟩
    have hcase := step_quiet (hst (a + n) o ho) (hq _ o (by omega) (by omega) ho)
    have hmn : (Hh (a + n)).next.num ≤ (Hh (a + n + 1)).next.num := by
      rcases hcase with e | ⟨x, e⟩ <;> rw [e]
      · exact Nat.le_refl _
      · show _ ≤ (Hh (a + n)).next.succ.num; rw [num_succ]; omega
    have hES : Ex κ0 (Hh 0) W0 κ (Hh (a + n + 1)) W ∧ SR PR κ (Hh (a + n + 1)) W := by
      rcases hcase with e | ⟨x, e⟩ <;> rw [e]
      · exact ⟨e1, s1⟩
      · exact ⟨e1.ins s1 x, s1.ins x⟩
    refine ⟨hES.1, hES.2, fun k k' h1 h2 h3 => ?_⟩
    by_cases hk' : k' = a + (n + 1)
    · subst hk'
      by_cases hk : k = a + (n + 1)
      · subst hk; exact Nat.le_refl _
      · exact Nat.le_trans (m1 k (a + n) h1 (by omega) (by omega)) hmn
    · exact m1 k k' h1 h2 (by omega)
theorem next_stop (os : List O) : ∀ (n a : Nat), a + n = os.length → ∃ m, m ≤ n ∧ isStop os (a + m) ∧ ∀ k o, a ≤ k → k < a + m → os[k]? = some o → o.op.loud = false
  | 0, a, h => ⟨0, Nat.le_refl _, .inl (by omega), fun k o h1 h2 => by omega⟩
  | n + 1, a, h => by
    obtain ⟨o, ho⟩ : ∃ o, os[a]? = some o := ⟨_, List.getElem?_eq_getElem (by omega)⟩
    cases hl : o.op.loud with
    | true => exact ⟨0, by omega, .inr ⟨o, ho, hl⟩, fun k o h1 h2 => by omega⟩
    | false =>
      obtain ⟨m, hm, hs, hq⟩ := next_stop os n (a + 1) (by omega)
      refine ⟨m + 1, by omega, by rw [show a + (m + 1) = a + 1 + m by omega]; exact hs, fun k o' h1 h2 ho' => ?_⟩
      by_cases hk : k = a
      · subst hk; rw [ho] at ho'; cases ho'; exact hl
      · exact hq k o' (by omega) (by omega) ho'
end
end Go.Am
namespace Go.Am
open Go Classical
section
variable {PR : Program} {E : Env} {κ0 : K} {nt : Nat} {W0 : World} {os : List O} {F : Nat → T V} {Hh : Nat → H} {r : Nat → V} {bef : Nat → Nat → Bool} {ops : Array Oper} {ord : List Nat}
/-- the compiled operations are those of the region -/
def Cmp (PR : Program) (nt : Nat) (ops : Array Oper) (ord : List Nat) (os : List O) : Prop := ∀ (c i : Nat) (op : Oper), ord[c]? = some i → ops[i]? = some op →
  ∃ o, os[c]? = some o ∧ o.dst = op.dst.map P.of ∧ compGd ops op.guard = some o.gd ∧ dstOk nt op.dst = true ∧ o.op = compOr PR op
theorem inv_put (hD : DOk ops ord os bef) {S : Nat → Prop} {b b' : Nat} {κ κ' : K} {W W' : World} {fS : T V} {tm : Array Value} (hI : Inv PR κ0 W0 nt os F Hh r bef S b κ W fS tm) {c : Nat} {o : O} {op : Oper}
    (ho : os[c]? = some o) (hd : o.dst = op.dst.map P.of) (hdk : dstOk nt op.dst = true) (hnS : ¬ S c) (hrd : ∀ c', c' < os.length → bef c c' = true → S c') {w : Value} (hle : K.le κ κ') (hv : VR κ' (r c) w)
    (hstop : b' ≤ os.length ∧ isStop os b') (hld : ∀ k o, os[k]? = some o → o.op.loud = true → ((S k ∨ k = c) ↔ k < b')) (hex : Ex κ0 (Hh 0) W0 κ' (Hh b') W') (hsr : SR PR κ' (Hh b') W')
    (hun : ∀ k, k < b' → Makes os F k → ¬ S k → k ≠ c → κ' (Hh k).next = none) (hmono : ∀ a a', a ≤ a' → a' ≤ b' → (Hh a).next.num ≤ (Hh a').next.num) :
    Inv PR κ0 W0 nt os F Hh r bef (fun k => S k ∨ k = c) b' κ' W' (put fS o.dst (r c)) (putA tm op.dst w) := by
  have hc : c < os.length := (List.getElem?_eq_some_iff.1 ho).1
  refine ⟨fun k hk => ?_, fun k k' hk hk' hb => ?_, hstop, hld, hex, hsr, fun k hk hm hn => hun k hk hm (fun h => hn (.inl h)) (fun h => hn (.inr h)), hmono, ?_, fun k o' p hk ho' hp => ?_, fun p hno => ?_⟩
  · rcases hk with hk | rfl
    · exact hI.sub k hk
    · exact hc
  · rcases hk with hk | rfl
    · exact .inl (hI.cl k k' hk hk' hb)
    · exact .inl (hrd k' hk' hb)
  · rw [hd]
    exact TR.put (W := W) (hI.tr.mono hle) hdk hv
  · by_cases hkc : k = c
    · subst hkc
      rw [ho] at ho'; cases ho'
      rw [hp]
      exact get_set _ _ _
    · have hk' : S k := hk.resolve_right hkc
      have hne : o.dst ≠ some p := by
        rcases Nat.lt_or_ge k c with hlt | hge
        · exact hD.ds k c o' o p ho' ho hlt hp
        · exact fun e => hD.ds c k o o' p ho ho' (by omega) e hp
      have : T.get p (put fS o.dst (r c)) = T.get p fS := by
        cases hdo : o.dst with
        | none => rfl
        | some d => exact get_set_ne _ _ _ _ (fun e => hne (by rw [hdo, e]))
      rw [this]
      exact hI.t1 k o' p hk' ho' hp
  · have hne : o.dst ≠ some p := hno c o (.inr rfl) ho
    have : T.get p (put fS o.dst (r c)) = T.get p fS := by
      cases hdo : o.dst with
      | none => rfl
      | some d => exact get_set_ne _ _ _ _ (fun e => hne (by rw [hdo, e]))
    rw [this]
    exact hI.t0 p (fun k o' hk ho' => hno k o' (.inl hk) ho')
theorem inv_step {n : Nat} (hcall : CallS PR E n) (hD : DOk ops ord os bef) (hC : Cmp PR nt ops ord os) (hT : Am.Tr (callV E n) os F Hh r) {S : Nat → Prop} {b : Nat} {κ : K} {W : World} {fS : T V} {tm : Array Value}
    (hI : Inv PR κ0 W0 nt os F Hh r bef S b κ W fS tm) {c i : Nat} {op : Oper} (hi : ord[c]? = some i) (hop : ops[i]? = some op) (hnS : ¬ S c) (hrd : ∀ c', c' < os.length → bef c c' = true → S c') :
    ∃ b' κ' W' fS' tm', Inv PR κ0 W0 nt os F Hh r bef (fun k => S k ∨ k = c) b' κ' W' fS' tm' ∧ ∀ fr ds k cs rest, Steps PR (lone (fat fr tm ds (.inRegion ops (i :: rest) :: k)) cs W) (lone (fat fr tm' ds (.inRegion ops rest :: k)) cs W') := by
  obtain ⟨o, ho, hd, hgd, hdk, hoop⟩ := hC c i op hi hop
  have hc : c < os.length := (List.getElem?_eq_some_iff.1 ho).1
  have hfr := inv_frame hD hT.step hI ho hnS hrd
  obtain ⟨hF, hs2⟩ := hT.step c o ho
  -- the loud one that is next
  have hcb : c ≤ b := by
    rcases Nat.lt_or_ge b c with hlt | hge
    · rcases hI.stop.2 with h1 | ⟨o', ho', hl⟩
      · omega
      · have := hrd b (by omega) (hD.loud b c o' ho' hlt hc hl)
        have := (hI.ld b o' ho' hl).1 this
        omega
    · exact hge
  cases hl : o.op.loud with
  | false =>
    have hcb' : c < b := by
      rcases Nat.lt_or_ge c b with h1 | h1
      · exact h1
      · have : c = b := by omega
        subst this
        rcases hI.stop.2 with h1 | ⟨o', ho', hl'⟩
        · omega
        · rw [ho] at ho'; cases ho'; rw [hl] at hl'; cases hl'
    have hbhi : b ≤ o.hi := by
      rcases hD.hi c o ho with h1 | ⟨o', ho', hl', hb'⟩
      · rw [h1]; exact hI.stop.1
      · rcases Nat.lt_or_ge o.hi b with h2 | h2
        · exact absurd (hI.cl _ c ((hI.ld _ o' ho' hl').2 h2) hc hb') hnS
        · exact h2
    have hld' : ∀ k o, os[k]? = some o → o.op.loud = true → ((S k ∨ k = c) ↔ k < b) := fun k o' ho' hl' => by
      have hkc : k ≠ c := fun e => by subst e; rw [ho] at ho'; cases ho'; rw [hl] at hl'; cases hl'
      rw [← hI.ld k o' ho' hl']
      exact ⟨fun h => h.resolve_right hkc, .inl⟩
    rcases hs2 with ⟨hw, hr, hH⟩ | ⟨hw, hv⟩
    · have hw' := wanted_sound hgd hfr hw
      refine ⟨b, κ, W, _, putA tm op.dst undef, inv_put hD hI ho hd hdk hnS hrd (fun _ _ h => h) (by rw [hr]; exact VR.tup_mk (.nil κ)) hI.stop hld' hI.ex hI.sr (fun k hk hm hn _ => hI.un k hk hm hn) hI.mono, fun fr ds k cs rest => ?_⟩
      have := st_op_skip (PR := PR) (b := fr) (tm := tm) (ds := ds) (k := k) (cs := cs) (W := W) (ops := ops) (i := i) (rest := rest) (by rw [hop]; simp [hw'])
      rw [hop] at this
      exact .one this
    · have hw' := wanted_sound hgd hfr hw
      cases hco : compOp PR op with
      | none => rw [hoop, compOr, hco] at hl; cases hl
      | some x =>
        have hx : o.op = x := by rw [hoop, compOr, hco]
        have hnd := comp_nodefer hco
        have hlat := hT.later c o ho hw b hcb' hbhi hI.stop.2
        rw [hx] at hv hl
        cases x with
        | p q =>
          simp only [evO] at hv
          split at hv
          · rename_i u hu
            have hv1 := (Option.some.inj hv); injection hv1 with hv1 hv2; subst hv1
            obtain ⟨w, hr, hvr⟩ := evP_sound hI.sr.gl hfr hco hu W
            exact ⟨b, κ, W, _, putA tm op.dst w, inv_put hD hI ho hd hdk hnS hrd (fun _ _ h => h) hvr hI.stop hld' hI.ex hI.sr (fun k hk hm hn _ => hI.un k hk hm hn) hI.mono, fun fr ds k cs rest => .one (st_op_value hop hw' hnd hr (.inl rfl))⟩
          · cases hv
        | r q =>
          obtain ⟨w, hr, hvr⟩ := evR_sound hfr hco (hlat.1 q hx) W hI.sr
          exact ⟨b, κ, W, _, putA tm op.dst w, inv_put hD hI ho hd hdk hnS hrd (fun _ _ h => h) hvr hI.stop hld' hI.ex hI.sr (fun k hk hm hn _ => hI.un k hk hm hn) hI.mono, fun fr ds k cs rest => .one (st_op_value hop hw' hnd hr (.inl rfl))⟩
        | a q =>
          simp only [evO] at hv
          split at hv
          · rename_i y u hu
            have hv1 := (Option.some.inj hv); injection hv1 with hv1 hv2; subst hv1
            have hmk : Makes os F c := ⟨o, q, ho, hx, hw⟩
            have hnone := hI.un c hcb' hmk hnS
            have hget := hlat.2 q y _ hx hu
            obtain ⟨ob, tot, w, hr, hnl, hm⟩ := evA_sound hI.sr.gl hfr hco hu W
            obtain ⟨hob, hvr⟩ := hm _ (le_upd_none hnone ⟨W.heap.size, 0, tot⟩) (K.upd_same _ _ _)
            have hnx : (Hh (c + 1)).next = (Hh c).next.succ := by rw [← hv2]; rfl
            have hlow : (Hh c).next.num < (Hh b).next.num := by
              have := hI.mono (c + 1) b hcb' (Nat.le_refl _)
              rw [hnx, num_succ] at this
              omega
            have hs' := hI.sr.born hnone hget hlow ob tot rfl (hob { W with heap := W.heap.push ob } (by simp))
            have he' := hI.ex.born hnone (hI.mono 0 c (by omega) (by omega)) ob hnl tot rfl
            refine ⟨b, _, _, _, putA tm op.dst w, inv_put hD hI ho hd hdk hnS hrd (le_upd_none hnone ⟨W.heap.size, 0, tot⟩) hvr hI.stop hld' he' hs' (fun k hk hm hn hkc => ?_) hI.mono, fun fr ds k cs rest => .one (st_op_value hop hw' hnd hr (.inl rfl))⟩
            rw [K.upd_ne]
            · exact hI.un k hk hm hn
            · intro e
              have e' : (Hh k).next.num = (Hh c).next.num := by rw [e]
              rcases Nat.lt_or_ge k c with hlt | hge
              · obtain ⟨o2, q2, ho2, hq2, hw2⟩ := hm
                obtain ⟨_, h3⟩ := hT.step k o2 ho2
                rcases h3 with ⟨h3, _⟩ | ⟨_, h3⟩
                · rw [hw2] at h3; cases h3
                · rw [hq2] at h3
                  simp only [evO] at h3
                  split at h3
                  · have h4 := (Option.some.inj h3); injection h4 with h4 h5
                    have h6 : (Hh (k + 1)).next = (Hh k).next.succ := by rw [← h5]; rfl
                    have := hI.mono (k + 1) c (by omega) (by omega)
                    rw [h6, num_succ] at this
                    omega
                  · cases h3
              · have := hI.mono (c + 1) k (by omega) (by omega)
                rw [hnx, num_succ] at this
                omega
          · cases hv
        | l q => cases hl
  | true =>
    have hcb' : c = b := by
      rcases Nat.lt_or_ge c b with h1 | h1
      · exact absurd ((hI.ld c o ho hl).2 h1) hnS
      · omega
    subst hcb'
    obtain ⟨m, hm, hstop, hq⟩ := next_stop os (os.length - (c + 1)) (c + 1) (by omega)
    have hld' : ∀ k o, os[k]? = some o → o.op.loud = true → ((S k ∨ k = c) ↔ k < c + 1 + m) := fun k o' ho' hl' => by
      rw [hI.ld k o' ho' hl']
      constructor
      · intro h; omega
      · intro h
        rcases Nat.lt_trichotomy k c with h1 | h1 | h1
        · exact .inl h1
        · exact .inr h1
        · have := hq k o' (by omega) h ho'
          rw [hl'] at this; cases this
    -- the state behind it
    have fin : ∀ (κ' : K) (W' : World) (w : Value), Ex κ (Hh c) W κ' (Hh (c + 1)) W' → SR PR κ' (Hh (c + 1)) W' → VR κ' (r c) w → Inv PR κ0 W0 nt os F Hh r bef (fun k => S k ∨ k = c) (c + 1 + m) κ' W' (put fS o.dst (r c)) (putA tm op.dst w) := by
      intro κ' W' w hE hS hV
      obtain ⟨e1, s1, m1⟩ := quiet_on hT.step m (by omega) (fun k o' h1 h2 ho' => hq k o' h1 h2 ho') (hI.ex.trans hE) hS
      have mono' : ∀ a a', a ≤ a' → a' ≤ c + 1 + m → (Hh a).next.num ≤ (Hh a').next.num := fun a a' h1 h2 => by
        by_cases h3 : a' ≤ c
        · exact hI.mono a a' h1 h3
        · by_cases h4 : c + 1 ≤ a
          · exact m1 a a' h4 h1 h2
          · exact Nat.le_trans (hI.mono a c (by omega) (Nat.le_refl _)) (Nat.le_trans hE.nx (m1 (c + 1) a' (Nat.le_refl _) (by omega) h2))
      refine inv_put hD hI ho hd hdk hnS hrd hE.le hV ⟨by omega, hstop⟩ hld' e1 s1 (fun k hk hmk hn hkc => ?_) mono'
      cases hκ : κ' (Hh k).next with
      | none => rfl
      | some q =>
        rcases Nat.lt_or_ge k c with hlt | hge
        · rcases hE.fresh _ q hκ with h1 | h1
          · rw [hI.un k hlt hmk hn] at h1; cases h1
          · obtain ⟨o2, q2, ho2, hq2, hw2⟩ := hmk
            obtain ⟨_, h3⟩ := hT.step k o2 ho2
            rcases h3 with ⟨h3, _⟩ | ⟨_, h3⟩
            · rw [hw2] at h3; cases h3
            · rw [hq2] at h3
              simp only [evO] at h3
              split at h3
              · have h4 := (Option.some.inj h3); injection h4 with h4 h5
                have h6 : (Hh (k + 1)).next = (Hh k).next.succ := by rw [← h5]; rfl
                have := hI.mono (k + 1) c (by omega) (by omega)
                rw [h6, num_succ] at this
                omega
              · cases h3
        · have h1 := hS.low _ q hκ
          have := mono' (c + 1) k (by omega) (by omega)
          omega
    rcases hs2 with ⟨hw, hr, hH⟩ | ⟨hw, hv⟩
    · have hw' := wanted_sound hgd hfr hw
      refine ⟨_, κ, W, _, putA tm op.dst undef, fin κ W undef ?_ ?_ (by rw [hr]; exact VR.tup_mk (.nil κ)), fun fr ds k cs rest => ?_⟩
      · rw [hH]; exact Ex.refl _ _ _
      · rw [hH]; exact hI.sr
      · have := st_op_skip (PR := PR) (b := fr) (tm := tm) (ds := ds) (k := k) (cs := cs) (W := W) (ops := ops) (i := i) (rest := rest) (by rw [hop]; simp [hw'])
        rw [hop] at this
        exact .one this
    · have hw' := wanted_sound hgd hfr hw
      cases hco : compOp PR op with
      | none => rw [hoop, compOr, hco] at hv; simp [evO, evL] at hv
      | some x =>
        have hx : o.op = x := by rw [hoop, compOr, hco]
        rw [hx] at hv
        obtain ⟨κ', W', w, hE, hS, hV, hst⟩ := opS hcall hfr hI.sr hco hv
        exact ⟨_, κ', W', _, putA tm op.dst w, fin κ' W' w hE hS hV, fun fr ds k cs rest => hst fr ds k cs ops i rest hop hw'⟩
end
end Go.Am
namespace Go.Am
open Go Classical
section
variable {PR : Program} {E : Env} {κ0 : K} {nt : Nat} {W0 : World} {os : List O} {F : Nat → T V} {Hh : Nat → H} {r : Nat → V} {bef : Nat → Nat → Bool} {ops : Array Oper} {ord : List Nat}
theorem compDL_at : ∀ {ord : List Nat} {os : List O}, compDL PR nt ops ord = some os → ∀ (c i : Nat) (op : Oper), ord[c]? = some i → ops[i]? = some op → ∃ o, os[c]? = some o ∧ compD1 PR nt ops op = some o
  | [], os, h, c, i, op, hi, hop => by simp at hi
  | j :: ord, os, h, c, i, op, hi, hop => by
    simp only [compDL] at h
    split at h
    · rename_i o' ho'
      split at h
      · rename_i x l hx hl
        cases h
        cases c with
        | zero =>
          simp only [List.getElem?_cons_zero, Option.some.injEq] at hi
          subst hi
          rw [hop] at ho'; cases ho'
          exact ⟨x, rfl, hx⟩
        | succ c =>
          obtain ⟨o, h1, h2⟩ := compDL_at hl c i op (by simpa using hi) hop
          exact ⟨o, by simpa using h1, h2⟩
      · cases h
    · cases h
theorem setHi_at (os : List O) (bf : List Nat) : ∀ (l : List O) (c0 c : Nat) (o : O), l[c]? = some o → ∃ n, (setHi os bf l c0)[c]? = some { o with hi := n }
  | [], c0, c, o, h => by simp at h
  | x :: l, c0, c, o, h => by
    cases c with
    | zero =>
      simp only [List.getElem?_cons_zero, Option.some.injEq] at h
      subst h
      exact ⟨_, rfl⟩
    | succ c =>
      obtain ⟨n, hn⟩ := setHi_at os bf l (c0 + 1) c o (by simpa using h)
      exact ⟨n, by simpa [setHi] using hn⟩
theorem compOps_draw (h : compOps PR nt ops true = some os) : ∃ (ord : List Nat) (bf : List Nat), DOk ops ord os (fun c c' => (bf.getD c 0 : Nat).testBit c') ∧ Cmp PR nt ops ord os := by
  simp only [compOps, if_true] at h
  split at h
  · rename_i ord bf os' hd
    split at h
    · rename_i hk
      cases h
      refine ⟨ord, bf, chkD_ok hk, fun c i op hi hop => ?_⟩
      simp only [compD] at hd
      split at hd
      · rename_i os0 h0
        have hd1 := (Option.some.inj hd)
        injection hd1 with hd1 hd2
        injection hd2 with hd2 hd3
        rw [← hd1] at hi
        obtain ⟨o, h1, h2⟩ := compDL_at h0 c i op hi hop
        obtain ⟨n, h3⟩ := setHi_at os0 (befOf ops (ordOf (ops.toList.map fun o => (o, (compOr PR o).loud)) ops.size 0) (ordOf (ops.toList.map fun o => (o, (compOr PR o).loud)) ops.size 0) []) os0 0 c o h1
        simp only [compD1] at h2
        split at h2
        · rename_i gd hg hk
          cases h2
          rw [← hd3]
          exact ⟨_, h3, rfl, hg, hk, rfl⟩
        · cases h2
      · cases hd
    · cases h
  · cases h
/-- carried out -/
def Sof (ord : List Nat) (listed : Array Bool) (c : Nat) : Prop := ∃ i, ord[c]? = some i ∧ listed.getD i false = true
def unl (ord : List Nat) (listed : Array Bool) : Nat := ord.countP fun i => !listed.getD i false
theorem countP_lt {p q : Nat → Bool} : ∀ {l : List Nat}, (∀ x ∈ l, q x = true → p x = true) → ∀ a, a ∈ l → p a = true → q a = false → l.countP q < l.countP p
  | [], _, a, ha, _, _ => by cases ha
  | x :: l, h, a, ha, hp, hq => by
    have hle : l.countP q ≤ l.countP p := List.countP_mono_left fun y hy => h y (List.mem_cons_of_mem _ hy)
    rw [List.countP_cons, List.countP_cons]
    cases ha with
    | head =>
      rw [hp, hq]
      simp
      omega
    | tail _ ha =>
      have := countP_lt (fun y hy => h y (List.mem_cons_of_mem _ hy)) a ha hp hq
      have h1 := h x List.mem_cons_self
      cases hx : q x with
      | true => rw [h1 hx]; simp; omega
      | false => cases p x <;> simp <;> omega
theorem go_sound {n : Nat} (hcall : CallS PR E n) (hD : DOk ops ord os bef) (hC : Cmp PR nt ops ord os) (hT : Am.Tr (callV E n) os F Hh r) : ∀ (fuel t : Nat) (listed : Array Bool) (b : Nat) (κ : K) (W : World) (fS : T V) (tm : Array Value),
    listed.size = ops.size → unl ord listed ≤ fuel → Inv PR κ0 W0 nt os F Hh r bef (Sof ord listed) b κ W fS tm →
    ∃ b' κ' W' fS' tm' S', (∀ c, c < os.length → S' c) ∧ Inv PR κ0 W0 nt os F Hh r bef S' b' κ' W' fS' tm' ∧ ∀ fr ds k cs, Steps PR (lone (fat fr tm ds (.inRegion ops (Region.linearise.go .any ops fuel t listed []) :: k)) cs W) (lone (fat fr tm' ds (.inRegion ops [] :: k)) cs W') := by
  intro fuel
  induction fuel with
  | zero =>
    intro t listed b κ W fS tm hsz hun hI
    refine ⟨b, κ, W, fS, tm, _, fun c hc => ?_, hI, fun fr ds k cs => Steps.refl _ _⟩
    obtain ⟨i, hi⟩ : ∃ i, ord[c]? = some i := ⟨_, List.getElem?_eq_getElem (hD.len ▸ hc)⟩
    have h0 : ord.countP (fun i => !listed.getD i false) = 0 := by unfold unl at hun; omega
    have := (List.countP_eq_zero.1 h0) i (List.mem_of_getElem? hi)
    exact ⟨i, hi, by simpa using this⟩
  | succ fuel ih =>
    intro t listed b κ W fS tm hsz hun hI
    have hgo : Region.linearise.go .any ops (fuel + 1) t listed [] = match (Region.ready .any ops listed)[t % (Region.ready .any ops listed).length]? with
      | some i => Region.linearise.go .any ops fuel (t / (Region.ready .any ops listed).length) (listed.setIfInBounds i true) [i]
      | none => [].reverse := rfl
    cases hi : (Region.ready .any ops listed)[t % (Region.ready .any ops listed).length]? with
    | none =>
      have hnil : Region.ready .any ops listed = [] := by
        cases hr : Region.ready .any ops listed with
        | nil => rfl
        | cons x xs =>
          rw [hr] at hi
          have hlt : t % (x :: xs).length < (x :: xs).length := Nat.mod_lt _ (by simp)
          simp at hi
          simp at hlt
          omega
      rw [hgo, hi]
      refine ⟨b, κ, W, fS, tm, _, ?_, hI, fun fr ds k cs => Steps.refl _ _⟩
      -- else the first one left would be ready
      intro c
      induction c using Nat.strongRecOn with
      | _ c ihc =>
        intro hc
        obtain ⟨i, hi⟩ : ∃ i, ord[c]? = some i := ⟨_, List.getElem?_eq_getElem (hD.len ▸ hc)⟩
        obtain ⟨op, hop⟩ := hD.has c i hi
        refine ⟨i, hi, ?_⟩
        cases hl : listed.getD i false with
        | true => rfl
        | false =>
          have hlt : i < listed.size := hsz ▸ (Array.getElem?_eq_some_iff.1 hop).1
          have hmem : i ∈ Region.ready .any ops listed := mem_ready.2 ⟨by simpa [hlt] using hl, op, hop, fun e he hb => by
            obtain ⟨p, hp, hpe⟩ := hD.dep c i op hi hop e he hb
            obtain ⟨j, hj, hjl⟩ := ihc p hp (by omega)
            rw [hpe] at hj; cases hj
            exact hjl⟩
          rw [hnil] at hmem; cases hmem
    | some i =>
      have hmem := List.mem_of_getElem? hi
      obtain ⟨hnl, op, hop, hdep⟩ := mem_ready.1 hmem
      have hlt : i < ops.size := (Array.getElem?_eq_some_iff.1 hop).1
      obtain ⟨c, hc⟩ := List.mem_iff_getElem?.1 (hD.all i hlt)
      have hcl : c < os.length := hD.len ▸ (List.getElem?_eq_some_iff.1 hc).1
      have hnl' : listed.getD i false = false := by
        have : i < listed.size := hsz.symm ▸ hlt
        simpa [this] using hnl
      have hnS : ¬ Sof ord listed c := fun ⟨j, hj, hjl⟩ => by rw [hc] at hj; cases hj; rw [hnl'] at hjl; cases hjl
      have hrd : ∀ c', c' < os.length → bef c c' = true → Sof ord listed c' := fun c' hc' hb => by
        obtain ⟨e, he, hbi, p, hp, hpe, hor⟩ := hD.bit c i op c' hc hop hc' hb
        have hSp : Sof ord listed p := ⟨e.on, hpe, hdep e he hbi⟩
        rcases hor with rfl | hor
        · exact hSp
        · exact hI.cl p c' hSp hc' hor
      obtain ⟨b1, κ1, W1, fS1, tm1, hI1, hst⟩ := inv_step hcall hD hC hT hI hc hop hnS hrd
      have hset : (fun k => Sof ord listed k ∨ k = c) = Sof ord (listed.setIfInBounds i true) := by
        funext k
        apply propext
        constructor
        · rintro (⟨j, hj, hjl⟩ | rfl)
          · exact ⟨j, hj, getD_set_true hjl⟩
          · exact ⟨i, hc, by have : i < listed.size := hsz.symm ▸ hlt
                             simp [this]⟩
        · rintro ⟨j, hj, hjl⟩
          by_cases hji : j = i
          · subst hji
            exact .inr (hD.inj k c j hj hc (hD.len ▸ (List.getElem?_eq_some_iff.1 hj).1) hcl)
          · rw [getD_set_ne false (fun e => hji e.symm)] at hjl
            exact .inl ⟨j, hj, hjl⟩
      rw [hset] at hI1
      have hlt' : unl ord (listed.setIfInBounds i true) < unl ord listed := by
        refine countP_lt (fun x hx hq => ?_) i (List.mem_of_getElem? hc) (by simp [hnl']) ?_
        · cases hx2 : listed.getD x false with
          | false => rfl
          | true => rw [getD_set_true hx2] at hq; cases hq
        · have : i < listed.size := hsz.symm ▸ hlt
          simp [this]
      obtain ⟨b2, κ2, W2, fS2, tm2, S2, hall, hI2, hst2⟩ := ih (t / (Region.ready .any ops listed).length) (listed.setIfInBounds i true) b1 κ1 W1 fS1 tm1 (by simpa using hsz) (by omega) hI1
      refine ⟨b2, κ2, W2, fS2, tm2, S2, hall, hI2, fun fr ds k cs => ?_⟩
      rw [hgo, hi]
      dsimp only
      rw [linearise_go_acc, List.reverse_singleton, List.singleton_append]
      exact (hst fr ds k cs _).trans (hst2 fr ds k cs)
theorem drawS (hmix : PR.follows .mixedOrders = true) {n : Nat} (hcall : CallS PR E n) : DrawS PR E n := by
  intro nt id ops os f h f' h' hc hr κ W tm b hT hs
  obtain ⟨ord, bf, hD, hC⟩ := compOps_draw hc
  obtain ⟨F, Hh, r, e1, e2, e3, e4, hst, _, hlat⟩ := runD_tr os 0 f h [] f' h' hr
  have hTr : Am.Tr (callV E n) os F Hh r := ⟨hst, fun c o ho hw b hcb hb hs => hlat c o ho hw b hcb (by omega) hs⟩
  obtain ⟨s1, x1⟩ := hs.draw (W.drawn + 1)
  obtain ⟨m, hm, hstop, hq⟩ := next_stop os os.length 0 (by omega)
  rw [Nat.zero_add] at hstop hq
  subst e1 e2
  have hS0 : ∀ c, ¬ Sof ord (Array.replicate ops.size false) c := fun c ⟨i, hi, hl⟩ => by
    rw [Array.getD_eq_getD_getElem?, Array.getElem?_replicate] at hl
    split at hl <;> cases hl
  obtain ⟨q1, q2, q3⟩ := quiet_on (κ0 := κ) (W0 := W) hst (a := 0) m (by omega) (fun k o h1 h2 ho => hq k o h1 (by omega) ho) x1 s1
  rw [Nat.zero_add] at q1 q2 q3
  have hI0 : Inv PR κ W nt os F Hh r (fun c c' => (bf.getD c 0 : Nat).testBit c') (Sof ord (Array.replicate ops.size false)) m κ { W with drawn := W.drawn + 1 } (F 0) tm := by
    refine ⟨fun c h => absurd h (hS0 c), fun c c' h => absurd h (hS0 c), ⟨hm, hstop⟩, fun c o ho hl => ⟨fun h => absurd h (hS0 c), fun h => ?_⟩, q1, q2, fun c hc hmk _ => ?_, fun a a' h1 h2 => q3 a a' (by omega) h1 h2, hT, fun c o p h => absurd h (hS0 c), fun p _ => rfl⟩
    · have := hq c o (by omega) h ho
      rw [hl] at this; cases this
    · cases hκ : κ (Hh c).next with
      | none => rfl
      | some q =>
        have h1 := hs.low _ q hκ
        have h2 := q3 0 c (by omega) (by omega) (by omega)
        omega
  obtain ⟨b', κ', W', fS', tm', S', hall, hI, hsteps⟩ := go_sound hcall hD hC hTr ops.size (W.tape W.drawn (.order b.fn id)) (Array.replicate ops.size false) m κ _ (F 0) tm (by simp)
    (by refine Nat.le_trans List.countP_le_length ?_
        rw [hD.sz]
        exact Nat.le_refl _) hI0
  have hb' : b' = os.length := by
    rcases hI.stop.2 with h1 | ⟨o, ho, hl⟩
    · exact h1
    · have hlt := (List.getElem?_eq_some_iff.1 ho).1
      have := (hI.ld b' o ho hl).1 (hall b' hlt)
      omega
  subst hb'
  subst e4
  obtain ⟨g1, g2⟩ := F_get hD hst os.length (Nat.le_refl _)
  refine ⟨κ', W', tm', hI.ex, hI.sr, ⟨hI.tr.1, fun p v hv => hI.tr.2 p v ?_⟩, fun ds k cs => ?_⟩
  · rw [← e3] at hv
    by_cases hex : ∃ (c : Nat) (o : O), os[c]? = some o ∧ o.dst = some p
    · obtain ⟨c, o, ho, hd⟩ := hex
      have hlt := (List.getElem?_eq_some_iff.1 ho).1
      rw [hI.t1 c o p (hall c hlt) ho hd, ← hv, g1 c o p hlt ho hd]
    · rw [hI.t0 p (fun c o _ ho hd => hex ⟨c, o, ho, hd⟩), ← hv]
      exact (g2 p (fun c o _ ho hd => hex ⟨c, o, ho, hd⟩)).symm
  · refine .head st_region_draw ?_
    rw [hmix]
    have hsch : Region.schedule true ops (W.tape W.drawn (.order b.fn id)) = Region.linearise.go .any ops ops.size (W.tape W.drawn (.order b.fn id)) (Array.replicate ops.size false) [] := by
      simp only [Region.schedule, Bool.true_or, if_true]
      rfl
    rw [hsch]
    exact (hsteps b ds k cs).trans (.one st_region_end)
end
end Go.Am
namespace Go.Am
open Go Classical
section
variable {PR : Program} {E : Env}
theorem sound (hmix : PR.follows .mixedOrders = true) (hfn : ∀ g F, E.fn g = some F → fnOf PR g = some F) (hm : MemoOk PR E) : ∀ n, ExecS PR E n ∧ CallS PR E n := by
  intro n
  induction n using Nat.strongRecOn with
  | _ n ih =>
    cases n with
    | zero => exact ⟨execS_zero, callS_zero⟩
    | succ n =>
      have hex : ∀ m, m < n + 1 → ExecS PR E m := fun m h => (ih m h).1
      have hcall : CallS PR E n := (ih n (by omega)).2
      exact ⟨execS_succ (fun m h => hex m (by omega)) hcall (drawS hmix hcall) (rmapS hex), callS_succ hfn hm (hex n (by omega))⟩
end
end Go.Am
