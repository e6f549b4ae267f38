/- The abstract machine: regions in the order of the text, loops, calls. -/
import Derived.Test.YtgbeenpchkneiaaGreatDoorA3
import Derived.Calls
set_option linter.unusedVariables false
set_option linter.unusedSimpArgs false
set_option linter.constructorNameAsVariable false
set_option linter.unusedSectionVars false
namespace Go.Am
open Go Classical
/-! ### frames at work, also those of a round -/
def fat (b : Frame) (tm : Array Value) (ds : List Deferred) (todo : List Item) : Frame := { b with tmps := tm, defers := ds, todo := todo, mode := .run }
theorem fat_eval (b : Frame) (tm : Array Value) (ds : List Deferred) (todo : List Item) : (fat b tm ds todo).eval = evl tm := by
  funext x; cases x <;> rfl
def putA (tm : Array Value) (d : Option Tmp) (v : Value) : Array Value := match d with | some t => tm.setIfInBounds t v | none => tm
section
variable {PR : Program} {b : Frame} {tm : Array Value} {ds : List Deferred} {k : List Item} {cs : List Frame} {W : World}
theorem st_skip : step PR (lone (fat b tm ds (.code .skip :: k)) cs W) = .next (lone (fat b tm ds k) cs W) := step_lone_go (by simp [stepG, stepG.exec, fat])
theorem st_label {l : Nat} : step PR (lone (fat b tm ds (.code (.label l) :: k)) cs W) = .next (lone (fat b tm ds k) cs W) := step_lone_go (by simp [stepG, stepG.exec, fat])
theorem st_inBlock {id : Nat} : step PR (lone (fat b tm ds (.inBlock id :: k)) cs W) = .next (lone (fat b tm ds k) cs W) := step_lone_go (by simp [stepG, stepG.exec, fat])
theorem st_inScope {c : Code} : step PR (lone (fat b tm ds (.inScope c :: k)) cs W) = .next (lone (fat b tm ds k) cs W) := step_lone_go (by simp [stepG, stepG.exec, fat])
theorem st_seq {x y : Code} : step PR (lone (fat b tm ds (.code (.seq x y) :: k)) cs W) = .next (lone (fat b tm ds (.code x :: .code y :: k)) cs W) := step_lone_go (by simp [stepG, stepG.exec, fat])
theorem st_cond {c : Operand} {x y : Code} {t : Bool} (h : evl tm c = .bool t) : step PR (lone (fat b tm ds (.code (.cond c x y) :: k)) cs W) = .next (lone (fat b tm ds (.code (if t then x else y) :: k)) cs W) :=
  step_lone_go (by
    have he := congrFun (fat_eval b tm ds (.code (.cond c x y) :: k)) c
    simp only [fat] at he
    simp [stepG, stepG.exec, fat, he, h])
theorem st_block {id : Nat} {c : Code} : step PR (lone (fat b tm ds (.code (.block id c) :: k)) cs W) = .next (lone (fat b tm ds (.code c :: .inBlock id :: k)) cs W) := step_lone_go (by simp [stepG, stepG.exec, fat])
theorem st_scope {c : Code} : step PR (lone (fat b tm ds (.code (.scope c) :: k)) cs W) = .next (lone (fat b tm ds (.code c :: .inScope c :: k)) cs W) := step_lone_go (by simp [stepG, stepG.exec, fat])
theorem st_loop {c : Code} : step PR (lone (fat b tm ds (.code (.loop c) :: k)) cs W) = .next (lone (fat b tm ds (.code c :: .inLoop c :: k)) cs W) := step_lone_go (by simp [stepG, stepG.exec, fat])
theorem st_inLoop {c : Code} : step PR (lone (fat b tm ds (.inLoop c :: k)) cs W) = .next (lone (fat b tm ds (.code c :: .inLoop c :: k)) cs W) := step_lone_go (by simp [stepG, stepG.exec, fat])
theorem st_exit {id : Nat} {k' : List Item} (h : exitTo id k = some k') : step PR (lone (fat b tm ds (.code (.exit id) :: k)) cs W) = .next (lone (fat b tm ds k') cs W) := step_lone_go (by simp [stepG, stepG.exec, fat, h])
theorem st_region {id : Nat} {ops : Array Oper} : step PR (lone (fat b tm ds (.code (.region id ops false) :: k)) cs W) = .next (lone (fat b tm ds (.inRegion ops (List.range ops.size) :: k)) cs W) := step_lone_go (by simp [stepG, stepG.exec, fat])
theorem st_region_draw {id : Nat} {ops : Array Oper} : step PR (lone (fat b tm ds (.code (.region id ops true) :: k)) cs W) = .next (lone (fat b tm ds (.inRegion ops (Region.schedule (PR.follows .mixedOrders) ops (W.tape W.drawn (.order b.fn id))) :: k)) cs { W with drawn := W.drawn + 1 }) :=
  step_lone_go (by simp [stepG, stepG.exec, fat, choose, Sem.run, Question.forced, Question.cut])
theorem st_region_end {ops : Array Oper} : step PR (lone (fat b tm ds (.inRegion ops [] :: k)) cs W) = .next (lone (fat b tm ds k) cs W) := step_lone_go (by simp [stepG, stepG.exec, fat])
theorem fat_finish {ops : Array Oper} {i : Nat} {rest : List Nat} (v : Value) : (fat b tm ds (.inRegion ops (i :: rest) :: k)).finish v = fat b (putA tm ((ops[i]?).bind (·.dst)) v) ds (.inRegion ops rest :: k) := by
  cases h : (ops[i]?).bind (·.dst) <;> simp [Frame.finish, fat, putA, h]
theorem st_op_skip {ops : Array Oper} {i : Nat} {rest : List Nat} (h : ((ops[i]?).map (Region.wanted · (yielded ops tm))).getD false = false) : step PR (lone (fat b tm ds (.inRegion ops (i :: rest) :: k)) cs W) = .next (lone (fat b (putA tm ((ops[i]?).bind (·.dst)) undef) ds (.inRegion ops rest :: k)) cs W) := by
  rw [← fat_finish]
  exact step_lone_go (by
    have h' := h
    simp only [fat] at *
    simp [stepG, stepG.exec, h'])
theorem stepG_op {ops : Array Oper} {i : Nat} {rest : List Nat} {o : Oper} (ho : ops[i]? = some o) (hw : Region.wanted o (yielded ops tm) = true) (hd : ∀ c, o.op ≠ .defer c) :
    stepG PR true { frame := fat b tm ds (.inRegion ops (i :: rest) :: k), callers := cs, status := .running, dying := none } W =
      stepG.apply PR true (fat b tm ds (.inRegion ops (i :: rest) :: k)) cs none (execOp (evl tm) o) W := by
  have h1 : (fat b tm ds (.inRegion ops (i :: rest) :: k)).mode = .run := rfl
  have h2 : (fat b tm ds (.inRegion ops (i :: rest) :: k)).todo = .inRegion ops (i :: rest) :: k := rfl
  have h3 := fat_eval b tm ds (.inRegion ops (i :: rest) :: k)
  have h4 : (fat b tm ds (.inRegion ops (i :: rest) :: k)).tmps = tm := rfl
  generalize fat b tm ds (.inRegion ops (i :: rest) :: k) = fr at *
  have ho' : fr.oper? = some o := by simp [Frame.oper?, h2, ho]
  have hop : stepG.oper PR true fr cs none W = stepG.apply PR true fr cs none (execOp (evl tm) o) W := by
    simp only [stepG.oper, ho', h3]
    split
    · rename_i l c hr hc; exact absurd hc (hd c)
    · rfl
  rw [← hop]
  simp [stepG, h1, stepG.exec, h2, h4, ho, hw]
theorem st_op_value {ops : Array Oper} {i : Nat} {rest : List Nat} {o : Oper} (ho : ops[i]? = some o) (hw : Region.wanted o (yielded ops tm) = true) (hd : ∀ c, o.op ≠ .defer c) {n : Next} {w : Value} {W' : World} (hr : (execOp (evl tm) o).run PR W = .ok n W') (hn : n = .value w ∨ (n = .skip ∧ w = undef)) :
    step PR (lone (fat b tm ds (.inRegion ops (i :: rest) :: k)) cs W) = .next (lone (fat b (putA tm o.dst w) ds (.inRegion ops rest :: k)) cs W') := by
  have hf : (fat b tm ds (.inRegion ops (i :: rest) :: k)).finish w = fat b (putA tm o.dst w) ds (.inRegion ops rest :: k) := by rw [fat_finish, ho]; rfl
  rw [← hf]
  refine step_lone_go ?_
  rw [stepG_op ho hw hd]
  rcases hn with rfl | ⟨rfl, rfl⟩ <;> simp [stepG.apply, hr]
/-- the frame that a call enters -/
def Ent (PR : Program) : Next → Option Frame
  | .enter f args => some (Frame.enter PR f args .normal)
  | .round l f tmps assign body => some (Frame.round l f tmps assign body .normal)
  | _ => none
theorem st_op_enter {ops : Array Oper} {i : Nat} {rest : List Nat} {o : Oper} (ho : ops[i]? = some o) (hw : Region.wanted o (yielded ops tm) = true) (hd : ∀ c, o.op ≠ .defer c) {n : Next} {fr0 : Frame} {W' : World} (hr : (execOp (evl tm) o).run PR W = .ok n W') (hn : Ent PR n = some fr0) :
    step PR (lone (fat b tm ds (.inRegion ops (i :: rest) :: k)) cs W) = .next (lone fr0 (fat b tm ds (.inRegion ops (i :: rest) :: k) :: cs) W') := by
  refine step_lone_go ?_
  rw [stepG_op ho hw hd]
  cases n <;> simp only [Ent, reduceCtorEq, Option.some.injEq] at hn <;> subst hn <;> simp [stepG.apply, hr, fat]
theorem st_beginRound {l : Nat} {L : Loop} (hb : b.roundOf = some l) (hL : W.heap[l]? = some (.loop L)) (hst : L.state = .ready) : step PR (lone (fat b tm ds (.beginRound :: k)) cs W) = .next (lone (fat b tm ds k) cs (putObj W l (.loop { L with state := .busy }))) := by
  have hg := getObj_run (PR := PR) hL (by simp)
  have hs := setObj_run (PR := PR) (x := .loop { L with state := .busy }) hL (by simp)
  refine step_lone_go ?_
  simp [stepG, stepG.exec, fat, hb, stepG.apply, Instr.beginRound, Instr.getLoop, hg, hs, hst, Result.andThen, Frame.finish]
/-- leaving a round -/
theorem st_leave_round {l : Nat} {L : Loop} {todo : List Item} {jump : Option Code} (htodo : (todo = [] ∧ jump = none) ∨ (∃ k', todo = .code .ret :: k' ∧ jump = some .ret) ∨ (∃ id k', todo = .code (.exit id) :: k' ∧ exitTo id k' = none ∧ jump = some (.exit id))) (hb : b.roundOf = some l) (hk : b.kind = .normal) (hL : W.heap[l]? = some (.loop L)) {c : Frame} :
    step PR (lone (fat b tm ds todo) (c :: cs) W) = .next (lone (c.finish (.bool jump.isNone)) cs (putObj W l (.loop { L with state := if jump.isNone then .ready else .done, pending := jump }))) := by
  have hg := getObj_run (PR := PR) hL (by simp)
  have hs := setObj_run (PR := PR) (x := .loop { L with state := if jump.isNone then .ready else .done, pending := jump }) hL (by simp)
  have he : (Instr.endRound l jump).run PR W = .ok (.bool jump.isNone) (putObj W l (.loop { L with state := if jump.isNone then .ready else .done, pending := jump })) := by
    simp only [Instr.endRound, Instr.getLoop, Sem.run_bind, hg, Result.andThen_ok, Sem.run_pure, hs]
  refine step_lone_go ?_
  rcases htodo with ⟨rfl, rfl⟩ | ⟨k', rfl, rfl⟩ | ⟨id, k', rfl, hex, rfl⟩
  · simp [stepG, stepG.exec, fat, hb, he, doReturn, hk]
  · simp [stepG, stepG.exec, fat, hb, he, doReturn, hk]
  · simp [stepG, stepG.exec, fat, hb, hex, he, doReturn, hk]
theorem st_leave {todo : List Item} (htodo : todo = [] ∨ ∃ k', todo = .code .ret :: k') (hb : b.roundOf = none) : step PR (lone (fat b tm ds todo) cs W) = .next (lone { fat b tm ds todo with mode := .returning } cs W) := by
  refine step_lone_go ?_
  rcases htodo with rfl | ⟨k', rfl⟩ <;> simp [stepG, stepG.exec, fat, hb]
theorem st_unwind_mark {fr : Frame} {D : Nat} {dl : List Deferred} (hm : fr.mode = .returning) (hd : fr.defers = { target := .collected D, args := #[] } :: dl) (hD : W.heap[D]? = some (.deferred (some []))) : step PR (lone fr cs W) = .next (lone { fr with defers := dl } cs (putObj W D (.deferred none))) := by
  have hg := getObj_run (PR := PR) hD (by simp)
  have hs := setObj_run (PR := PR) (x := .deferred none) hD (by simp)
  refine step_lone_go ?_
  simp [stepG, unwind, hm, hd, Instr.takeDeferred, hg, hs, Result.andThen]
theorem st_unwind_end {fr c : Frame} {fn : Func} {v : Value} (hm : fr.mode = .returning) (hd : fr.defers = []) (hk : fr.kind = .normal) (hf : PR.funcs[fr.fn]? = some fn) (hr : (results fn fr.tmps).run PR W = .ok v W) : step PR (lone fr (c :: cs) W) = .next (lone (c.finish v) cs W) := by
  refine step_lone_go ?_
  simp [stepG, unwind, hm, hd, hf, hr, doReturn, hk]
theorem st_rangeFunc {g : Operand} {ps : Array Tmp} {asg body : Code} {l : Nat} {mark : List Deferred} {W1 W2 : World} {n : Next} {fr0 : Frame} (he : (Instr.enterLoop b.fn tm ps asg body b.roundOf).run PR W = .ok (l, mark) W1)
    (hr : (do let d ← Deferred.ofValue (evl tm g) #[.func (.yield l) #[] #[]]; invoke d.target d.args : Sem Next).run PR W1 = .ok n W2) (hn : Ent PR n = some fr0) :
    step PR (lone (fat b tm ds (.code (.rangeFunc g ps asg body) :: k)) cs W) = .next (lone fr0 (fat b tm (mark ++ ds) (.inRangeFunc l :: k) :: cs) W2) := by
  have hres : resolve (evl tm) { callee := .value g, args := #[.const (.func (.yield l) #[] #[])], argTypes := #[] } 0 = Deferred.ofValue (evl tm g) #[.func (.yield l) #[] #[]] := by
    simp only [resolve]
    congr 1
    simp [evl]
  have h1 : (fat b tm ds (.code (.rangeFunc g ps asg body) :: k)).mode = .run := rfl
  have h2 : (fat b tm ds (.code (.rangeFunc g ps asg body) :: k)).todo = .code (.rangeFunc g ps asg body) :: k := rfl
  have h4 : (fat b tm ds (.code (.rangeFunc g ps asg body) :: k)).tmps = tm := rfl
  have h5 : (fat b tm ds (.code (.rangeFunc g ps asg body) :: k)).fn = b.fn := rfl
  have h6 : (fat b tm ds (.code (.rangeFunc g ps asg body) :: k)).roundOf = b.roundOf := rfl
  have h3 : ∀ (x1 : FuncId) (x2 : List Item) (x3 : List Deferred) (x4 : CallKind) (x5 : Option Nat), Frame.eval { fn := x1, tmps := tm, todo := x2, defers := x3, mode := .run, kind := x4, roundOf := x5 } = evl tm := by intros; funext x; cases x <;> rfl
  have h7 : ({ fat b tm ds (.code (.rangeFunc g ps asg body) :: k) with todo := .inRangeFunc l :: k, defers := mark ++ (fat b tm ds (.code (.rangeFunc g ps asg body) :: k)).defers } : Frame) = fat b tm (mark ++ ds) (.inRangeFunc l :: k) := rfl
  refine step_lone_go ?_
  rw [← h7]
  generalize hfr : fat b tm ds (.code (.rangeFunc g ps asg body) :: k) = fr at *
  simp only [Sem.run_bind] at hr
  cases n <;> simp only [Ent, reduceCtorEq, Option.some.injEq] at hn <;> subst hn <;> simp [stepG, h1, stepG.exec, h2, h4, h5, h6, he, stepG.apply, h3, hres, hr]
theorem st_endRangeFunc {l : Nat} {L : Loop} (hL : W.heap[l]? = some (.loop L)) (hst : L.state ≠ .busy) : step PR (lone (fat b tm ds (.endRangeFunc l :: k)) cs W) = .next (lone (fat b tm ds ((L.pending.map Item.code).toList ++ k)) cs (putObj W l (.loop { L with state := .exhausted }))) := by
  have hg := getObj_run (PR := PR) hL (by simp)
  have hs := setObj_run (PR := PR) (x := .loop { L with state := .exhausted }) hL (by simp)
  have hb : (L.state == .busy) = false := by cases h : L.state <;> simp_all
  have he : (Instr.endLoop l).run PR W = .ok L.pending (putObj W l (.loop { L with state := .exhausted })) := by
    simp [Instr.endLoop, Instr.getLoop, hg, hs, hst, Result.andThen]
  refine step_lone_go ?_
  simp [stepG, stepG.exec, fat, he]
end
end Go.Am
namespace Go.Am
open Go Classical
/-- a call comes to its end, and its frame is left -/
def Leaves (PR : Program) (g : Nat) (avs : List Value) (W : World) (w : Value) (W' : World) : Prop :=
  ∀ cs, ∃ fr0, Steps PR (lone (Frame.enter PR g avs.toArray .normal) cs W) (lone fr0 cs W') ∧ fr0.fn = g ∧ fr0.leaving PR W' (.returned w)
theorem Leaves.steps {PR : Program} {g : Nat} {avs : List Value} {W W' : World} {w : Value} (h : Leaves PR g avs W w W') (fr : Frame) (cs : List Frame) : Steps PR (lone (Frame.enter PR g avs.toArray .normal) (fr :: cs) W) (lone (fr.finish w) cs W') := by
  obtain ⟨fr0, h1, _, h3⟩ := h (fr :: cs)
  exact h1.trans (.one (step_leave_returned h3))
/-- what a function does, as far as the machine tells -/
def FnC (PR : Program) (κ : K) (h : H) (W : World) (g : Nat) (avs : List Value) (v : V) (h' : H) : Prop :=
  (∃ fn, PR.funcs[g]? = some fn ∧ fn.body.isSome = true ∧ (fn.name == "runtime.NumGoroutine") = false) ∧
  ∃ κ' W' w, Ex κ h W κ' h' W' ∧ SR PR κ' h' W' ∧ VR κ' v w ∧ Leaves PR g avs W w W'
/-- what is known ahead is true -/
def MemoOk (PR : Program) (E : Env) : Prop := ∀ g args h v h', E.memo g args h = some (some (v, h')) → ∀ κ W avs, SR PR κ h W → VRs κ args avs → FnC PR κ h W g avs v h'
def CallS (PR : Program) (E : Env) (n : Nat) : Prop := ∀ g args h v h', callV E n g args h = some (v, h') → ∀ κ W gv avs, SR PR κ h W → VR κ g gv → VRs κ args avs →
  ∃ nx fr0, (do let d ← Deferred.ofValue gv avs.toArray; invoke d.target d.args : Sem Next).run PR W = .ok nx W ∧ Ent PR nx = some fr0 ∧
    ∃ κ' W' w, Ex κ h W κ' h' W' ∧ SR PR κ' h' W' ∧ VR κ' v w ∧ ∀ fr cs, Steps PR (lone fr0 (fr :: cs) W) (lone (fr.finish w) cs W')
def Goes (PR : Program) (m : Machine) (b : Frame) (k : List Item) (cs : List Frame) (tm : Array Value) (ds : List Deferred) (W : World) : X → Prop
  | .normal => Steps PR m (lone (fat b tm ds k) cs W)
  | .exit id => ∃ k', exitTo id k' = exitTo id k ∧ Steps PR m (lone (fat b tm ds (.code (.exit id) :: k')) cs W)
  | .ret => ∃ k', Steps PR m (lone (fat b tm ds (.code .ret :: k')) cs W)
def Mk (B : Nat) (κ : K) (W : World) (ds : List Deferred) : Prop := ∃ Ds : List Nat, ds = Ds.map (fun D => { target := .collected D, args := #[] }) ∧ Ds.Nodup ∧ ∀ D ∈ Ds, B ≤ D ∧ W.heap[D]? = some (.deferred (some [])) ∧ ∀ o q, κ o = some q → q.blk ≠ D
def RO (W : World) (b : Frame) : Prop := ∀ l, b.roundOf = some l → ∃ L, W.heap[l]? = some (Go.Obj.loop L)
def ExecS (PR : Program) (E : Env) (n : Nat) : Prop := ∀ c f h x f' h', exec E n c f h = some (x, f', h') → ∀ (κ : K) (W : World) (code : Code) (nt : Nat) (b : Frame) (tm : Array Value) (ds : List Deferred) (B : Nat),
  comp PR nt code = c → TR κ nt f tm → SR PR κ h W → RO W b → Mk B κ W ds → B ≤ W.heap.size →
  ∃ κ' W' tm' ds', Ex κ h W κ' h' W' ∧ SR PR κ' h' W' ∧ TR κ' nt f' tm' ∧ Mk B κ' W' ds' ∧ ∀ k cs, Goes PR (lone (fat b tm ds (.code code :: k)) cs W) b k cs tm' ds' W' x
theorem Mk.nil (B : Nat) (κ : K) (W : World) : Mk B κ W [] := ⟨[], rfl, List.nodup_nil, by simp⟩
theorem Mk.step {B : Nat} {κ κ' : K} {h h' : H} {W W' : World} {ds : List Deferred} (hE : Ex κ h W κ' h' W') (hm : Mk B κ W ds) : Mk B κ' W' ds := by
  obtain ⟨Ds, e, hn, hD⟩ := hm
  refine ⟨Ds, e, hn, fun D hd => ?_⟩
  obtain ⟨h1, h2, h3⟩ := hD D hd
  have hlt := (Array.getElem?_eq_some_iff.1 h2).1
  refine ⟨h1, ?_, fun o q hq hb => ?_⟩
  · rw [hE.fr D hlt (fun o q hq hb => absurd hb (h3 o q hq))]; exact h2
  · rcases hE.nw o q hq with h4 | h4 | ⟨o0, q0, h5, h6, _⟩
    · exact h3 o q h4 hb
    · omega
    · exact h3 o0 q0 h5 (h6.trans hb)
theorem RO.step {κ κ' : K} {h h' : H} {W W' : World} {b : Frame} (hE : Ex κ h W κ' h' W') (hr : RO W b) : RO W' b := fun l hl => by
  obtain ⟨L, hL⟩ := hr l hl
  exact hE.lp l L hL
theorem Goes.head {PR : Program} {m m1 : Machine} {b : Frame} {k : List Item} {cs : List Frame} {tm : Array Value} {ds : List Deferred} {W : World} {x : X} (h : Steps PR m m1) (hg : Goes PR m1 b k cs tm ds W x) : Goes PR m b k cs tm ds W x := by
  cases x with
  | normal => exact h.trans hg
  | exit id => obtain ⟨k', e, s⟩ := hg; exact ⟨k', e, h.trans s⟩
  | ret => obtain ⟨k', s⟩ := hg; exact ⟨k', h.trans s⟩
section
variable {PR : Program} {E : Env} {κ : K} {nt : Nat} {f : T V} {tm : Array Value} {h : H}
theorem comp_nodefer {o : Oper} {x : Op} (h : compOp PR o = some x) : ∀ c, o.op ≠ .defer c := by
  intro c e
  obtain ⟨dst, ox, ty, pos, after, guard⟩ := o
  dsimp only at e
  subst e
  simp only [compOp, reduceCtorEq] at h
theorem call_run (ρ : Operand → Value) (dst : Option Tmp) (g : Operand) (xs : Array Operand) (ts : Array TypeId) (ty : TypeId) (pos : String) (after : Array Edge) (guard : Option (Nat × Bool)) : execOp ρ ⟨dst, .call ⟨.value g, xs, ts⟩, ty, pos, after, guard⟩ = (do let d ← Deferred.ofValue (ρ g) (xs.map ρ); invoke d.target d.args) := rfl
theorem opS {n : Nat} (hcall : CallS PR E n) (hT : TR κ nt f tm) {W : World} (hs : SR PR κ h W) {o : Oper} {op : Op} (hc : compOp PR o = some op) {v : V} {h1 : H} (hv : evO (callV E n) f h op = some (v, h1)) :
    ∃ κ' W' w, Ex κ h W κ' h1 W' ∧ SR PR κ' h1 W' ∧ VR κ' v w ∧ ∀ b ds k cs ops i rest, ops[i]? = some o → Region.wanted o (yielded ops tm) = true → Steps PR (lone (fat b tm ds (.inRegion ops (i :: rest) :: k)) cs W) (lone (fat b (putA tm o.dst w) ds (.inRegion ops rest :: k)) cs W') := by
  have hnd := comp_nodefer hc
  cases op with
  | p q =>
    simp only [evO] at hv
    split at hv
    · rename_i u hu
      cases hv
      obtain ⟨w, hr, hvr⟩ := evP_sound hs.gl hT hc hu W
      exact ⟨κ, W, w, Ex.refl _ _ _, hs, hvr, fun b ds k cs ops i rest hi hw => .one (st_op_value hi hw hnd hr (.inl rfl))⟩
    · cases hv
  | r q =>
    simp only [evO] at hv
    split at hv
    · rename_i u hu
      cases hv
      obtain ⟨w, hr, hvr⟩ := evR_sound hT hc hu W hs
      exact ⟨κ, W, w, Ex.refl _ _ _, hs, hvr, fun b ds k cs ops i rest hi hw => .one (st_op_value hi hw hnd hr (.inl rfl))⟩
    · cases hv
  | a q =>
    simp only [evO] at hv
    split at hv
    · rename_i x u hu
      cases hv
      obtain ⟨ob, tot, w, hr, hz, hm⟩ := evA_sound hs.gl hT hc hu W
      obtain ⟨ho, hvr⟩ := hm _ (hs.le_upd ⟨W.heap.size, 0, tot⟩) (K.upd_same _ _ _)
      obtain ⟨s1, e1⟩ := SR.new hs ob x tot (W' := { W with heap := W.heap.push ob }) rfl (ho _ (by simp)) hz
      exact ⟨_, _, w, e1, s1, hvr, fun b ds k cs ops i rest hi hw => .one (st_op_value hi hw hnd hr (.inl rfl))⟩
    · cases hv
  | l q =>
    by_cases hcl : ∃ g as, q = .call g as
    · obtain ⟨g, as, rfl⟩ := hcl
      simp only [evO, evL] at hv
      obtain ⟨g', xs, ts, ho, hg, has⟩ := comp_call hc
      have hgv := co_sound hs.gl hT hg
      have hav := cos_sound hs.gl hT has
      obtain ⟨nx, fr0, hr, hent, κ', W', w, hE, hS, hV, hst⟩ := hcall _ _ _ _ _ hv κ W _ _ hs hgv hav
      refine ⟨κ', W', w, hE, hS, hV, fun b ds k cs ops i rest hi hw => ?_⟩
      have hr' : (execOp (evl tm) o).run PR W = .ok nx W := by
        obtain ⟨dst, ox, ty, pos, after, guard⟩ := o
        dsimp only at ho
        subst ho
        rw [call_run]
        rw [Array.toArray_toList] at hr
        exact hr
      have h1 := st_op_enter (b := b) (ds := ds) (k := k) (cs := cs) (rest := rest) hi hw hnd hr' hent
      have h2 := hst (fat b tm ds (.inRegion ops (i :: rest) :: k)) cs
      rw [fat_finish, hi] at h2
      exact .head h1 h2
    · simp only [evO] at hv
      obtain ⟨nx, w, W', κ', hr, hn, hE, hS, hV⟩ := evL_sound hT hs hc (fun g as e => hcl ⟨g, as, e⟩) hv
      exact ⟨κ', W', w, hE, hS, hV, fun b ds k cs ops i rest hi hw => .one (st_op_value hi hw hnd hr hn)⟩
theorem TR.put {W : World} {d : Option Tmp} (hT : TR κ nt f tm) (hd : dstOk nt d = true) {v : V} {w : Value} (hv : VR κ v w) : TR κ nt (put f (d.map P.of) v) (putA tm d w) := by
  cases d with
  | none => exact hT
  | some t =>
    have ht : t < nt := by
      have h1 : Nat.blt t nt = true := hd
      rw [Nat.blt_eq] at h1
      exact h1
    refine ⟨by simp only [putA, Array.size_setIfInBounds]; exact hT.1, fun p u hp => ?_⟩
    simp only [Am.put, Option.map_some, putA] at hp ⊢
    by_cases hpt : p = P.of t
    · subst hpt
      rw [get_set] at hp; cases hp
      rw [num_of]
      simp [Array.getD_eq_getD_getElem?, Array.getElem?_setIfInBounds, hT.1, ht]
      exact hv
    · rw [get_set_ne _ _ _ _ hpt] at hp
      have hne : p.num ≠ t := fun e => hpt (num_inj (e.trans (num_of t).symm))
      have := hT.2 p u hp
      simp only [Array.getD_eq_getD_getElem?, Array.getElem?_setIfInBounds] at this ⊢
      rw [if_neg (fun e => hne e.symm)]
      exact this
theorem wanted_sound {ops : Array Oper} {o : Oper} {gd : Option (P × Bool)} (hg : compGd ops o.guard = some gd) (hT : TR κ nt f tm) {r : Bool} (hw : wanted f gd = some r) : Region.wanted o (yielded ops tm) = r := by
  unfold compGd at hg
  unfold Region.wanted
  split at hg
  · rename_i hn
    cases hg
    simp only [wanted] at hw
    cases hw
    rw [hn]
  · rename_i j bb hn
    rw [hn]
    split at hg
    · rename_i t ht
      cases hg
      simp only [wanted] at hw
      have hy : yielded ops tm j = (match tm[t]? with | some (.bool b) => some b | _ => none) := by
        simp only [yielded, ht, Option.bind_some]
        rfl
      have hgd : ∀ v, T.get (P.of t) f = some v → VR κ v (tm.getD t undef) := fun v hv => by have := hT.2 _ _ hv; rwa [num_of] at this
      split at hw
      · rename_i b0 hb0
        cases hw
        have h1 := (hgd _ hb0).bool
        have h2 : tm[t]? = some (.bool b0) := by
          rw [Array.getD_eq_getD_getElem?] at h1
          cases h3 : tm[t]? with
          | none => rw [h3] at h1; cases h1
          | some w => rw [h3] at h1; simp only [Option.getD_some] at h1; rw [h1]
        simp only [hy, h2]
        cases b0 <;> cases bb <;> rfl
      · rename_i l hl
        cases hw
        obtain ⟨ys, h1, _⟩ := (hgd _ hl).tup
        have h2 : (match tm[t]? with | some (.bool b) => some b | _ => none) = none := by
          rw [Array.getD_eq_getD_getElem?] at h1
          cases h3 : tm[t]? with
          | none => rfl
          | some w => rw [h3] at h1; simp only [Option.getD_some] at h1; rw [h1]
        simp only [hy, h2]
        rfl
      · cases hw
    · cases hg
theorem runO_sound {n : Nat} (hcall : CallS PR E n) {ops : Array Oper} : ∀ (r : List Oper) (i : Nat) (os : List O) (f : T V) (h : H) (f' : T V) (h' : H), compL PR nt ops r i = some os → (∀ j, ops[i + j]? = r[j]?) → runO (callV E n) os f h = some (f', h') →
    ∀ (κ : K) (W : World) (tm : Array Value), TR κ nt f tm → SR PR κ h W → ∃ κ' W' tm', Ex κ h W κ' h' W' ∧ SR PR κ' h' W' ∧ TR κ' nt f' tm' ∧ ∀ b ds k cs, Steps PR (lone (fat b tm ds (.inRegion ops (List.range' i r.length) :: k)) cs W) (lone (fat b tm' ds (.inRegion ops [] :: k)) cs W')
  | [], i, os, f, h, f', h', hc, _, hr, κ, W, tm, hT, hs => by
    simp only [compL] at hc; cases hc
    simp only [runO] at hr; cases hr
    exact ⟨κ, W, tm, Ex.refl _ _ _, hs, hT, fun b ds k cs => Steps.refl _ _⟩
  | o :: r, i, os, f, h, f', h', hc, hi, hr, κ, W, tm, hT, hs => by
    simp only [compL] at hc
    split at hc
    · rename_i gd l hgd hdst hl
      cases hc
      simp only [runO] at hr
      have hi0 : ops[i]? = some o := by simpa using hi 0
      have hi' : ∀ j, ops[i + 1 + j]? = r[j]? := fun j => by have := hi (j + 1); simpa [Nat.add_assoc, Nat.add_comm 1 j] using this
      split at hr
      · rename_i hw
        have hw' := wanted_sound hgd hT hw
        split at hr
        · rename_i v h1 hv
          unfold compOr at hv
          cases hco : compOp PR o with
          | none => rw [hco] at hv; simp [evO, evL] at hv
          | some op =>
            rw [hco] at hv
            obtain ⟨κ1, W1, w, hE, hS, hV, hst⟩ := opS hcall hT hs hco hv
            have hT1 : TR κ1 nt (put f (o.dst.map P.of) v) (putA tm o.dst w) := TR.put (W := W) (hT.mono hE.le) hdst hV
            obtain ⟨κ2, W2, tm2, hE2, hS2, hT2, hst2⟩ := runO_sound hcall r (i + 1) l _ h1 f' h' hl hi' hr κ1 W1 _ hT1 hS
            exact ⟨κ2, W2, tm2, hE.trans hE2, hS2, hT2, fun b ds k cs => (hst b ds k cs ops i _ hi0 hw').trans (hst2 b ds k cs)⟩
        · cases hr
      · rename_i hw
        have hw' := wanted_sound hgd hT hw
        have hT1 : TR κ nt (put f (o.dst.map P.of) (.t [])) (putA tm o.dst undef) := TR.put (W := W) hT hdst (VR.tup_mk (.nil κ))
        obtain ⟨κ2, W2, tm2, hE2, hS2, hT2, hst2⟩ := runO_sound hcall r (i + 1) l _ h f' h' hl hi' hr κ W _ hT1 hs
        refine ⟨κ2, W2, tm2, hE2, hS2, hT2, fun b ds k cs => .head ?_ (hst2 b ds k cs)⟩
        have := st_op_skip (PR := PR) (b := b) (tm := tm) (ds := ds) (k := k) (cs := cs) (W := W) (ops := ops) (i := i) (rest := List.range' (i + 1) r.length) (by simp [hi0, hw'])
        rw [hi0] at this
        exact this
      · cases hr
    · cases hc
end
end Go.Am
namespace Go.Am
open Go Classical
section
variable {PR : Program} {E : Env} {κ : K} {nt : Nat} {f : T V} {tm : Array Value} {h : H}
def DrawS (PR : Program) (E : Env) (n : Nat) : Prop := ∀ (nt : Nat) (id : Nat) (ops : Array Oper) (os : List O) (f : T V) (h : H) (f' : T V) (h' : H), compOps PR nt ops true = some os → runD (callV E n) os 0 f h [] = some (f', h') → ∀ (κ : K) (W : World) (tm : Array Value) (b : Frame), TR κ nt f tm → SR PR κ h W →
  ∃ κ' W' tm', Ex κ h W κ' h' W' ∧ SR PR κ' h' W' ∧ TR κ' nt f' tm' ∧ ∀ ds k cs, Steps PR (lone (fat b tm ds (.code (.region id ops true) :: k)) cs W) (lone (fat b tm' ds k) cs W')
/-- the outcome of a piece of code -/
def Done (PR : Program) (κ : K) (h : H) (W : World) (nt B : Nat) (b : Frame) (m : List Item → List Frame → Machine) (x : X) (f' : T V) (h' : H) : Prop :=
  ∃ κ' W' tm' ds', Ex κ h W κ' h' W' ∧ SR PR κ' h' W' ∧ TR κ' nt f' tm' ∧ Mk B κ' W' ds' ∧ ∀ k cs, Goes PR (m k cs) b k cs tm' ds' W' x
theorem Done.head {W : World} {B : Nat} {b : Frame} {m m1 : List Item → List Frame → Machine} {x : X} {f' : T V} {h' : H} (hst : ∀ k cs, Steps PR (m k cs) (m1 k cs)) (hd : Done PR κ h W nt B b m1 x f' h') : Done PR κ h W nt B b m x f' h' := by
  obtain ⟨κ', W', tm', ds', e, s, t, mk, g⟩ := hd
  exact ⟨κ', W', tm', ds', e, s, t, mk, fun k cs => Goes.head (hst k cs) (g k cs)⟩
/-- behind a first piece -/
theorem Done.after {W W1 : World} {κ1 : K} {h1 : H} {B : Nat} {b : Frame} {m : List Item → List Frame → Machine} {x : X} {f' : T V} {h' : H} (hE : Ex κ h W κ1 h1 W1) (hd : Done PR κ1 h1 W1 nt B b m x f' h') : Done PR κ h W nt B b m x f' h' := by
  obtain ⟨κ', W', tm', ds', e, s, t, mk, g⟩ := hd
  exact ⟨κ', W', tm', ds', hE.trans e, s, t, mk, g⟩
def plainItem : Item → Bool | .inBlock _ => false | _ => true
theorem Goes.pass {m : Machine} {b : Frame} {y : Item} {k : List Item} {cs : List Frame} {tm : Array Value} {ds : List Deferred} {W : World} {x : X} (hy : plainItem y = true) (hx : x ≠ .normal) (hg : Goes PR m b (y :: k) cs tm ds W x) : Goes PR m b k cs tm ds W x := by
  cases x with
  | normal => exact absurd rfl hx
  | exit id =>
    obtain ⟨k', e, s⟩ := hg
    refine ⟨k', e.trans ?_, s⟩
    cases y <;> first | rfl | (simp [plainItem] at hy)
  | ret => exact hg
def RmapS (PR : Program) (E : Env) (n : Nat) : Prop := ∀ (c : Code) (it : A) (nx ok : P) (rest : C) (f : T V) (h : H) (x : X) (f' : T V) (h' : H), exec E (n + 1) (.rmap it nx ok rest) f h = some (x, f', h') → ∀ (κ : K) (W : World) (nt : Nat) (b : Frame) (tm : Array Value) (ds : List Deferred) (B : Nat),
  compLoop PR nt c (comp PR nt c) = .rmap it nx ok rest → TR κ nt f tm → SR PR κ h W → RO W b → Mk B κ W ds → B ≤ W.heap.size → Done PR κ h W nt B b (fun k cs => lone (fat b tm ds (.code c :: .inLoop c :: k)) cs W) x f' h'
theorem compLoop_cases (p : Program) (nt : Nat) (c : Code) (cc : C) : compLoop p nt c cc = .loop cc ∨ (∃ w, compLoop p nt c cc = .bad w) ∨ ∃ it nx ok rest, compLoop p nt c cc = .rmap it nx ok rest := by
  unfold compLoop
  repeat' split
  all_goals first | exact .inl rfl | exact .inr (.inl ⟨_, rfl⟩) | exact .inr (.inr ⟨_, _, _, _, rfl⟩)
theorem loop_sound {N : Nat} (hex : ∀ m, m < N → ExecS PR E m) {c : Code} : ∀ (n : Nat), n ≤ N → ∀ (f : T V) (h : H) (x : X) (f' : T V) (h' : H), exec E n (.loop (comp PR nt c)) f h = some (x, f', h') → ∀ (κ : K) (W : World) (b : Frame) (tm : Array Value) (ds : List Deferred) (B : Nat), TR κ nt f tm → SR PR κ h W → RO W b → Mk B κ W ds → B ≤ W.heap.size →
    Done PR κ h W nt B b (fun k cs => lone (fat b tm ds (.code c :: .inLoop c :: k)) cs W) x f' h' := by
  intro n
  induction n with
  | zero => intro _ f h x f' h' he; simp [exec] at he
  | succ n ih =>
    intro hn f h x f' h' he κ W b tm ds B hT hs hro hmk hB
    simp only [exec] at he
    cases hq : exec E n (comp PR nt c) f h with
    | none => rw [hq] at he; cases he
    | some r =>
      obtain ⟨x1, f1, h1⟩ := r
      rw [hq] at he
      obtain ⟨κ1, W1, tm1, ds1, e1, s1, t1, m1, g1⟩ := hex n (by omega) _ _ _ _ _ _ hq κ W c nt b tm ds B rfl hT hs hro hmk hB
      cases x1 with
      | normal =>
        dsimp only at he
        have := ih (by omega) f1 h1 x f' h' he κ1 W1 b tm1 ds1 B t1 s1 (hro.step e1) m1 (Nat.le_trans hB e1.sz)
        exact .head (fun k cs => (g1 (.inLoop c :: k) cs).trans (.one st_inLoop)) (.after e1 this)
      | exit id =>
        dsimp only at he; cases he
        exact ⟨κ1, W1, tm1, ds1, e1, s1, t1, m1, fun k cs => Goes.pass (y := .inLoop c) rfl (by simp) (g1 _ cs)⟩
      | ret =>
        dsimp only at he; cases he
        exact ⟨κ1, W1, tm1, ds1, e1, s1, t1, m1, fun k cs => Goes.pass (y := .inLoop c) rfl (by simp) (g1 _ cs)⟩
/-! ### calls -/
theorem initT_get : ∀ (l : List V) (p0 p : P), T.get p (initT p0 l) = if p0.num ≤ p.num then l[p.num - p0.num]? else none
  | [], p0, p => by simp [initT, get_e]
  | v :: l, p0, p => by
    simp only [initT]
    by_cases hp : p = p0
    · subst hp; rw [get_set]; simp
    · have hne : p.num ≠ p0.num := fun e => hp (num_inj e)
      rw [get_set_ne _ _ _ _ hp, initT_get l p0.succ p, num_succ]
      by_cases hle : p0.num ≤ p.num
      · rw [if_pos (by omega), if_pos hle, show p.num - p0.num = (p.num - (p0.num + 1)) + 1 by omega]
        simp
      · rw [if_neg (by omega), if_neg hle]
theorem init_TR {avs : List Value} {args : List V} (hv : VRs κ args avs) (hl : args.length ≤ nt) : TR κ nt (initT .z args) (avs.toArray ++ Array.replicate (nt - avs.toArray.size) undef) := by
  have hlen := hv.1
  refine ⟨by simp; omega, fun p v hp => ?_⟩
  rw [initT_get] at hp
  simp only [P.num, Nat.zero_le, if_true, Nat.sub_zero] at hp
  have hi := (List.getElem?_eq_some_iff.1 hp).1
  have : (avs.toArray ++ Array.replicate (nt - avs.toArray.size) undef).getD p.num undef = avs[p.num]'(by omega) := by
    rw [Array.getD_eq_getD_getElem?, Array.getElem?_append_left (by simp; omega)]
    simp [show p.num < avs.length by omega]
  rw [this]
  exact hv.2 _ _ _ hp (List.getElem?_eq_getElem (by omega))
theorem setAll_sound : ∀ {ps : List Tmp} {args : List V} {avs : List Value} {f f1 : T V} {tm : Array Value}, (ps.all fun t => Nat.blt t nt) = true → setAll f (ps.map P.of) args = some f1 → VRs κ args avs → TR κ nt f tm → TR κ nt f1 ((ps.zip avs).foldl (fun tmps x => tmps.setIfInBounds x.1 x.2) tm) ∧ ps.length = avs.length
  | [], [], avs, f, f1, tm, _, h, hv, hT => by
    simp only [List.map_nil, setAll] at h; cases h
    rw [List.length_eq_zero_iff.1 hv.1.symm]
    exact ⟨hT, rfl⟩
  | [], _ :: _, _, _, _, _, _, h, _, _ => by simp [setAll] at h
  | _ :: _, [], _, _, _, _, _, h, _, _ => by simp [setAll] at h
  | t :: ps, v :: args, [], f, f1, tm, _, h, hv, hT => by cases hv.1
  | t :: ps, v :: args, w :: avs, f, f1, tm, ha, h, hv, hT => by
    simp only [List.all_cons, Bool.and_eq_true] at ha
    simp only [List.map_cons, setAll] at h
    have hd : dstOk nt (some t) = true := ha.1
    have hT1 : TR κ nt (T.set v (P.of t) f) (tm.setIfInBounds t w) := TR.put (W := default) (d := some t) hT hd (hv.2 0 _ _ rfl rfl)
    obtain ⟨h1, h2⟩ := setAll_sound ha.2 h (by have := hv.drop 1; simpa using this) hT1
    exact ⟨h1, by simp [h2]⟩
theorem resV_sound {W : World} (hs : SR PR κ h W) (hT : TR κ nt f tm) : ∀ {rs : List ResultVar} {l : List RV} {vs : List V}, cRes PR rs = some l → resV f h l = some vs →
    ∃ ws : List Value, (rs.mapM (fun x : ResultVar => match x with | .tmp t => (pure (tm.getD t undef) : Sem Value) | .cell a t => do loadVar t (← asAddr (tm.getD a undef)))).run PR W = .ok ws W ∧ VRs κ vs ws
  | [], l, vs, hc, hr => by
    simp only [cRes] at hc; cases hc
    simp only [resV] at hr; cases hr
    exact ⟨[], by simp, .nil κ⟩
  | .tmp t :: rs, l, vs, hc, hr => by
    simp only [cRes] at hc
    split at hc
    · rename_i l' hl
      cases hc
      simp only [resV] at hr
      split at hr
      · rename_i vs' hv
        cases hr
        obtain ⟨ws, h1, h2⟩ := resV_sound hs hT hl hv
        refine ⟨tm.getD t undef :: ws, ?_, .cons ?_ h2⟩
        · rw [List.mapM_cons]
          simp only [Sem.run_bind, Sem.run_pure, Result.andThen_ok, h1]
        · cases hg : T.get (P.of t) f with
          | none => exact .u _
          | some v => have := hT.2 _ _ hg; rwa [num_of] at this
      · cases hr
    · cases hc
  | .cell a t :: rs, l, vs, hc, hr => by
    simp only [cRes] at hc
    split at hc
    · rename_i g l' hg hl
      cases hc
      simp only [resV] at hr
      split at hr
      · rename_i v0 hv0
        split at hr
        · rename_i vs' hv
          cases hr
          obtain ⟨ws, h1, h2⟩ := resV_sound hs hT hl hv
          simp only [evR, A.ev] at hv0
          split at hv0
          · rename_i o off e
            have hp : VR κ (.p o off) (tm.getD a undef) := by
              cases hg2 : T.get (P.of a) f with
              | none => rw [hg2] at e; cases e
              | some v => rw [hg2] at e; dsimp only at e; subst e; have := hT.2 _ _ hg2; rwa [num_of] at this
            obtain ⟨q, hq, hw⟩ := hp.ptr
            obtain ⟨w, hr2, hvr⟩ := loadVar_run hs hg hq (by cases g <;> exact hv0)
            refine ⟨w :: ws, ?_, .cons hvr h2⟩
            rw [List.mapM_cons]
            have ha : (asAddr (tm.getD a undef)).run PR W = .ok (q.ad off) W := by rw [hw]; rfl
            simp only [Sem.run_bind, ha, Sem.run_pure, Result.andThen_ok, hr2, h1]
          · cases hv0
        · cases hr
      · cases hr
    · cases hc
theorem results_run {W : World} (hs : SR PR κ h W) (hT : TR κ nt f tm) {fn : Func} {l : List RV} {vs : List V} (hc : cRes PR fn.results.toList = some l) (hr : resV f h l = some vs) : ∃ w, (results fn tm).run PR W = .ok w W ∧ VR κ (oneV vs) w := by
  obtain ⟨ws, h1, h2⟩ := resV_sound hs hT hc hr
  refine ⟨if hh : ws.toArray.size = 1 then ws.toArray[0] else .tuple ws.toArray, ?_, ?_⟩
  · unfold results
    rw [Array.mapM_eq_mapM_toList]
    simp only [Sem.run_bind, Sem.run_map]
    exact (congrArg (fun r => (Result.andThen r fun (a : List Value) w' => Result.ok a.toArray w').andThen fun a w' => Sem.run PR (pure (if h : a.size = 1 then a[0] else Value.tuple a)) w') h1).trans rfl
  · have hl := h2.1
    match vs, ws, h2, hl with
    | [v], [w], h2, _ => exact h2.2 0 _ _ rfl rfl
    | [], [], h2, _ => exact VR.tup_mk h2
    | v :: v' :: vs, w :: w' :: ws, h2, _ => exact VR.tup_mk h2
end
end Go.Am
namespace Go.Am
open Go Classical
section
variable {PR : Program} {E : Env} {κ : K} {nt : Nat} {f : T V} {tm : Array Value} {h : H}
theorem SR.other {W : World} (hs : SR PR κ h W) {D : Nat} {ob : Go.Obj} (hn : ∀ o q, κ o = some q → q.blk ≠ D) : SR PR κ h (putObj W D ob) :=
  ⟨fun o q e => by
    obtain ⟨x, h1, h2, h3⟩ := hs.obj o q e
    exact ⟨x, h1, h2.mono (fun _ _ h => h) (putObj_other (hn o q e)), by simp [putObj]; exact h3⟩, hs.low, hs.sep, hs.glob⟩
theorem Ex.touch {κ' : K} {h' : H} {W W' : World} (hE : Ex κ h W κ' h' W') {D : Nat} {ob : Go.Obj} (hD : W.heap.size ≤ D) (hz : ∀ a, (putObj W' D ob).frozen? a = W'.frozen? a) : Ex κ h W κ' h' (putObj W' D ob) :=
  ⟨hE.le, hE.nw, hE.fresh, hE.ro, fun b hb ha => (putObj_other (by omega)).trans (hE.fr b hb ha), by simp [putObj]; exact hE.sz, hE.nx, hE.os, hE.tape, hE.output, fun b L hL => by
    have hlt := (Array.getElem?_eq_some_iff.1 hL).1
    obtain ⟨L', hL'⟩ := hE.lp b L hL
    exact ⟨L', (putObj_other (by omega)).trans hL'⟩, fun a => (hz a).trans (hE.fz a)⟩
theorem unwind_marks {h' : H} {κ' : K} {W : World} : ∀ {ds : List Deferred} {W' : World}, Ex κ h W κ' h' W' → SR PR κ' h' W' → Mk W.heap.size κ' W' ds →
    ∃ W'', Ex κ h W κ' h' W'' ∧ SR PR κ' h' W'' ∧ ∀ (fr : Frame) (cs : List Frame), fr.mode = .returning → fr.defers = ds → Steps PR (lone fr cs W') (lone { fr with defers := [] } cs W'')
  | [], W', hE, hS, _ => ⟨W', hE, hS, fun fr cs hm hd => by
      have : ({ fr with defers := [] } : Frame) = fr := by rw [← hd]
      rw [this]; exact Steps.refl _ _⟩
  | d :: ds, W', hE, hS, hk => by
    obtain ⟨Ds, e, hn, hD⟩ := hk
    cases Ds with
    | nil => cases e
    | cons D Ds =>
      simp only [List.map_cons, List.cons.injEq] at e
      obtain ⟨rfl, rfl⟩ := e
      obtain ⟨h1, h2, h3⟩ := hD D List.mem_cons_self
      have hE2 := hE.touch (ob := .deferred none) h1 (frozen_putObj (fun c t fr e => by rw [h2] at e; cases e) (fun c t fr e => by cases e))
      have hS2 := hS.other (ob := .deferred none) h3
      obtain ⟨W'', g1, g2, g3⟩ := unwind_marks (ds := Ds.map fun D => { target := .collected D, args := #[] }) hE2 hS2 ⟨Ds, rfl, (List.nodup_cons.1 hn).2, fun D' hD' => by
        obtain ⟨k1, k2, k3⟩ := hD D' (List.mem_cons_of_mem _ hD')
        exact ⟨k1, (putObj_other (fun e => (List.nodup_cons.1 hn).1 (by subst e; exact hD'))).trans k2, k3⟩⟩
      exact ⟨W'', g1, g2, fun fr cs hm hd => .head (st_unwind_mark (PR := PR) (cs := cs) hm hd h2) (g3 { fr with defers := Ds.map fun D => { target := .collected D, args := #[] } } cs hm rfl)⟩
/-- a function, by its body -/
theorem fn_sound {n : Nat} (hex : ExecS PR E n) {g : Nat} {F : F} (hF : fnOf PR g = some F) {args : List V} (hl : args.length ≤ F.nt) {x : X} {f' : T V} {h' : H} (he : exec E n F.body (initT .z args) h = some (x, f', h')) (hx : ∀ id, x ≠ .exit id) {l : List V} (hr : resV f' h' F.res = some l) {W : World} (hs : SR PR κ h W) {avs : List Value} (hv : VRs κ args avs) :
    FnC PR κ h W g avs (oneV l) h' := by
  unfold fnOf at hF
  split at hF
  case h_2 => cases hF
  rename_i fn hfn
  unfold compF at hF
  split at hF
  · cases hF
  rename_i hname
  split at hF
  case h_2 => cases hF
  rename_i code rs hbody hres
  cases hF
  dsimp only at hl he hr
  refine ⟨⟨fn, hfn, by rw [hbody]; rfl, by simpa using hname⟩, ?_⟩
  have henter : Frame.enter PR g avs.toArray .normal = fat { (default : Frame) with fn := g, kind := .normal } (avs.toArray ++ Array.replicate (fn.ntmps - avs.toArray.size) undef) [] [.code code] := by
    simp [Frame.enter, hfn, hbody, fat]
    rfl
  have hT := init_TR (nt := fn.ntmps) hv hl
  have hro : RO W { (default : Frame) with fn := g, kind := .normal } := fun l hl => by cases hl
  obtain ⟨κ', W', tm', ds', hE, hS, hT', hmk, hg⟩ := hex _ _ _ _ _ _ he κ W code fn.ntmps { (default : Frame) with fn := g, kind := .normal } _ [] W.heap.size rfl hT hs hro (Mk.nil _ _ _) (Nat.le_refl _)
  -- the frame is left
  have hleave : ∀ cs, ∃ todo, Steps PR (lone (Frame.enter PR g avs.toArray .normal) cs W) (lone { fat { (default : Frame) with fn := g, kind := .normal } tm' ds' todo with mode := .returning } cs W') := by
    intro cs
    rw [henter]
    cases x with
    | normal => exact ⟨[], (hg [] cs).trans (.one (st_leave (.inl rfl) rfl))⟩
    | exit id => exact absurd rfl (hx id)
    | ret =>
      obtain ⟨k', hk⟩ := hg [] cs
      exact ⟨_, hk.trans (.one (st_leave (.inr ⟨k', rfl⟩) rfl))⟩
  obtain ⟨W'', hE2, hS2, hst⟩ := unwind_marks hE hS hmk
  obtain ⟨w, hw, hvr⟩ := results_run hS2 hT' hres hr
  refine ⟨κ', W'', w, hE2, hS2, hvr, fun cs => ?_⟩
  obtain ⟨todo, h1⟩ := hleave cs
  have h2 := hst { fat { (default : Frame) with fn := g, kind := .normal } tm' ds' todo with mode := .returning } cs rfl rfl
  exact ⟨_, h1.trans h2, rfl, rfl, rfl, rfl, fn, hfn, hw⟩
/-- a round -/
theorem round_sound {n : Nat} (hex : ExecS PR E n) {l : P} {args : List V} {v : V} {h' : H} (he : callV E (n + 1) (.y l) args h = some (v, h')) {W : World} (hs : SR PR κ h W) {q : Pl} (hq : κ l = some q) {avs : List Value} (hv : VRs κ args avs) :
    ∃ nx fr0, (Instr.yield q.blk avs.toArray).run PR W = .ok nx W ∧ Ent PR nx = some fr0 ∧
    ∃ κ' W' w, Ex κ h W κ' h' W' ∧ SR PR κ' h' W' ∧ VR κ' v w ∧ ∀ fr cs, Steps PR (lone fr0 (fr :: cs) W) (lone (fr.finish w) cs W') := by
  simp only [callV] at he
  split at he
  case h_2 => cases he
  rename_i fl psl asg body st pend hob
  split at he
  case h_2 => cases he
  split at he
  case h_2 => cases he
  rename_i f1 hset
  split at he
  case h_2 => cases he
  rename_i f2 h2 hasg
  split at he
  case h_2 => cases he
  rename_i g2 ps2 a2 b2 pd2 hob2
  split at he
  case h_2 => cases he
  rename_i x f4 h4 hbody
  split at he
  case h_2 => cases he
  rename_i g4 ps4 a4 b4 st4 pd4 hob4
  cases he
  obtain ⟨y, hy, hL0, hlt⟩ := hs.obj l q hq
  rw [hob] at hy; cases hy
  obtain ⟨L, hL, hLT, hLps, hLall, hLasg, hLbody, hLst, _⟩ := hL0
  have hgo := getObj_run (PR := PR) hL (by simp)
  subst hLps
  obtain ⟨hT1, hlen⟩ := setAll_sound hLall hset hv hLT
  have hsz : avs.toArray.size = L.params.size := by simpa using hlen.symm
  refine ⟨.round q.blk L.fn ((L.params.zip avs.toArray).foldl (fun tmps (t, a) => tmps.setIfInBounds t a) L.tmps) L.assign L.body, _, ?_, rfl, ?_⟩
  · simp [Instr.yield, Instr.getLoop, hgo, hsz, Result.andThen]
  have htm : (L.params.zip avs.toArray).foldl (fun tmps (t, a) => tmps.setIfInBounds t a) L.tmps = (L.params.toList.zip avs).foldl (fun tmps x => tmps.setIfInBounds x.1 x.2) L.tmps := by
    rw [← Array.foldl_toList, Array.toList_zip]
  rw [htm]
  let b0 : Frame := { (default : Frame) with fn := L.fn, kind := .normal, roundOf := some q.blk }
  have hround : Frame.round q.blk L.fn ((L.params.toList.zip avs).foldl (fun tmps x => tmps.setIfInBounds x.1 x.2) L.tmps) L.assign L.body .normal = fat b0 ((L.params.toList.zip avs).foldl (fun tmps x => tmps.setIfInBounds x.1 x.2) L.tmps) [] [.code L.assign, .beginRound, .code L.body] := rfl
  rw [hround]
  have hro : RO W b0 := fun l hl => by cases hl; exact ⟨L, hL⟩
  obtain ⟨κ1, W1, tm1, ds1, e1, s1, t1, m1, g1⟩ := hex _ _ _ _ _ _ hasg κ W L.assign L.tmps.size b0 _ [] W.heap.size hLasg.symm hT1 hs hro (Mk.nil _ _ _) (Nat.le_refl _)
  -- the round begins
  have hq1 := e1.le _ _ hq
  obtain ⟨y, hy, hL1, hlt1⟩ := s1.obj l q hq1
  rw [hob2] at hy; cases hy
  obtain ⟨L1, hL1h, hL1T, hL1ps, hL1all, hL1asg, hL1body, hL1st, hL1pd⟩ := hL1
  have hst1 : L1.state = .ready := by cases h : L1.state <;> rw [h] at hL1st <;> first | rfl | exact hL1st.elim
  obtain ⟨s2, e2⟩ := SR.put s1 (x := .lp g2 ps2 a2 b2 .busy pd2) hq1 hob2 rfl (W' := putObj W1 q.blk (.loop { L1 with state := .busy })) (fun b hb => putObj_other hb) (by simp [putObj]) rfl rfl rfl (fun L' _ => ⟨_, putObj_same hlt1⟩) ⟨{ L1 with state := .busy }, putObj_same hlt1, hL1T, hL1ps, hL1all, hL1asg, hL1body, trivial, hL1pd⟩ (fun vs e => by cases e) (frozen_putObj (fun c t fr e => by rw [hL1h] at e; cases e) (fun c t fr e => by cases e))
  have hro2 : RO (putObj W1 q.blk (.loop { L1 with state := .busy })) b0 := fun l hl => by cases hl; exact ⟨_, putObj_same hlt1⟩
  obtain ⟨κ3, W3, tm3, ds3, e3, s3, t3, m3, g3⟩ := hex _ _ _ _ _ _ hbody κ1 _ L.body L.tmps.size b0 tm1 ds1 W.heap.size hLbody.symm t1 s2 hro2 (m1.step e2) (Nat.le_trans e1.sz e2.sz)
  have hq3 := e3.le _ _ hq1
  obtain ⟨y, hy, hL3, hlt3⟩ := s3.obj l q hq3
  rw [hob4] at hy; cases hy
  obtain ⟨L3, hL3h, hL3T, hL3ps, hL3all, hL3asg, hL3body, hL3st, hL3pd⟩ := hL3
  -- the round ends
  let jump : Option Code := match x with | .normal => none | .ret => some .ret | .exit id => some (.exit id)
  obtain ⟨s4, e4⟩ := SR.put s3 (x := .lp g4 ps4 a4 b4 (if isNorm x then .ready else .done) (pendOf x)) hq3 hob4 rfl (W' := putObj W3 q.blk (.loop { L3 with state := if jump.isNone then .ready else .done, pending := jump })) (fun b hb => putObj_other hb) (by simp [putObj]) rfl rfl rfl (fun L' _ => ⟨_, putObj_same hlt3⟩) ⟨{ L3 with state := if jump.isNone then .ready else .done, pending := jump }, putObj_same hlt3, hL3T, hL3ps, hL3all, hL3asg, hL3body, by cases x <;> trivial, by cases x <;> first | trivial | rfl⟩ (fun vs e => by cases e) (frozen_putObj (fun c t fr e => by rw [hL3h] at e; cases e) (fun c t fr e => by cases e))
  refine ⟨κ3, _, .bool jump.isNone, (e1.trans e2).trans (e3.trans e4), s4, ?_, fun fr cs => ?_⟩
  · cases x <;> exact .b _
  · have h1 := g1 [.beginRound, .code L.body] (fr :: cs)
    have h2 := st_beginRound (PR := PR) (b := b0) (tm := tm1) (ds := ds1) (k := [.code L.body]) (cs := fr :: cs) rfl hL1h hst1
    have h3 := g3 [] (fr :: cs)
    have h12 : Steps PR (lone (fat b0 ((L.params.toList.zip avs).foldl (fun tmps x => tmps.setIfInBounds x.1 x.2) L.tmps) [] [.code L.assign, .beginRound, .code L.body]) (fr :: cs) W) (lone (fat b0 tm1 ds1 [.code L.body]) (fr :: cs) (putObj W1 q.blk (.loop { L1 with state := .busy }))) := h1.trans (.one h2)
    cases x with
    | normal => exact (h12.trans h3).trans (.one (st_leave_round (jump := none) (.inl ⟨rfl, rfl⟩) rfl rfl hL3h))
    | exit id =>
      obtain ⟨k', hk, h3⟩ := h3
      exact (h12.trans h3).trans (.one (st_leave_round (jump := some (.exit id)) (.inr (.inr ⟨id, k', rfl, hk, rfl⟩)) rfl rfl hL3h))
    | ret =>
      obtain ⟨k', h3⟩ := h3
      exact (h12.trans h3).trans (.one (st_leave_round (jump := some .ret) (.inr (.inl ⟨k', rfl, rfl⟩)) rfl rfl hL3h))
end
end Go.Am
namespace Go.Am
open Go Classical
section
variable {PR : Program} {E : Env} {κ : K} {nt : Nat} {f : T V} {tm : Array Value} {h : H}
theorem callFunc_run {g : Nat} {fn : Func} (h1 : PR.funcs[g]? = some fn) (h2 : fn.body.isSome = true) (h3 : (fn.name == "runtime.NumGoroutine") = false) (args : Array Value) (W : World) : (callFunc g args).run PR W = .ok (.enter g args) W := by
  have h2' : fn.body ≠ none := by intro e; rw [e] at h2; cases h2
  have h3' : fn.name ≠ "runtime.NumGoroutine" := by simpa using h3
  simp [callFunc, h1, h2', h3', program, Sem.run, Result.andThen]
theorem callS_succ {n : Nat} (hfn : ∀ g F, E.fn g = some F → fnOf PR g = some F) (hmemo : MemoOk PR E) (hex : ExecS PR E n) : CallS PR E (n + 1) := by
  intro g args h v h' he κ W gv avs hs hg hv
  cases g with
  | f g first cap =>
    obtain ⟨fs', cs', rfl, hf1, hf2⟩ : ∃ fs' cs' : List Value, gv = .func (.func g) fs'.toArray cs'.toArray ∧ VRs κ first fs' ∧ VRs κ cap cs' := by
      cases hg with | f _ _ _ fs' cs' h1 h2 h3 h4 => exact ⟨fs', cs', rfl, ⟨h1, h3⟩, ⟨h2, h4⟩⟩
    have hall : VRs κ (first ++ args ++ cap) (fs' ++ avs ++ cs') := (hf1.app hv).app hf2
    have key : FnC PR κ h W g (fs' ++ avs ++ cs') v h' := by
      simp only [callV] at he
      split at he
      · rename_i r hr
        subst he
        exact hmemo _ _ _ _ _ hr κ W _ hs hall
      · split at he
        case h_2 => cases he
        rename_i F hF
        replace hF := hfn _ _ hF
        split at he
        case isFalse => cases he
        rename_i hle
        have hle' : (first ++ args ++ cap).length ≤ F.nt := Nat.le_of_ble_eq_true hle
        split at he
        case h_2 => cases he
        rename_i x f' h1 hex'
        cases x with
        | exit id => cases he
        | normal =>
          dsimp only at he
          split at he
          · rename_i l hl
            cases he
            exact fn_sound hex hF hle' hex' (by simp) hl hs hall
          · cases he
        | ret =>
          dsimp only at he
          split at he
          · rename_i l hl
            cases he
            exact fn_sound hex hF hle' hex' (by simp) hl hs hall
          · cases he
    obtain ⟨⟨fn, h1, h2, h3⟩, κ', W', w, hE, hS, hV, hst⟩ := key
    refine ⟨.enter g (fs' ++ avs ++ cs').toArray, Frame.enter PR g (fs' ++ avs ++ cs').toArray .normal, ?_, rfl, κ', W', w, hE, hS, hV, hst.steps⟩
    have := callFunc_run h1 h2 h3 (fs' ++ avs ++ cs').toArray W
    simp only [Deferred.ofValue, Sem.run_bind, Sem.run_pure, Result.andThen_ok, invoke]
    rw [show fs'.toArray ++ avs.toArray ++ cs'.toArray = (fs' ++ avs ++ cs').toArray by simp]
    exact this
  | y l =>
    obtain ⟨q, hq, rfl⟩ : ∃ q, κ l = some q ∧ gv = .func (.yield q.blk) #[] #[] := by
      cases hg with | y _ q h => exact ⟨q, h, rfl⟩
    obtain ⟨nx, fr0, hr, hent, hrest⟩ := round_sound hex he hs hq hv
    refine ⟨nx, fr0, ?_, hent, hrest⟩
    simp only [Deferred.ofValue, Sem.run_bind, Sem.run_pure, Result.andThen_ok, invoke]
    simpa using hr
  | _ => simp [callV] at he
theorem callS_zero : CallS PR E 0 := by
  intro g args h v h' he; simp [callV] at he
theorem execS_zero : ExecS PR E 0 := by
  intro c f h x f' h' he; simp [exec] at he
set_option maxHeartbeats 1000000 in
theorem rf_sound {n : Nat} (hcall : CallS PR E n) {g : Operand} {ga : A} {ps : Array Tmp} {asg body : Code} (hg : co PR g = some ga) (hps : (ps.toList.all fun t => Nat.blt t nt) = true) {x : X} {f' : T V} {h' : H} (he : exec E (n + 1) (.rf ga (ps.toList.map P.of) (comp PR nt asg) (comp PR nt body)) f h = some (x, f', h')) {W : World} {b : Frame} {ds : List Deferred} {B : Nat} (hT : TR κ nt f tm) (hs : SR PR κ h W) (hro : RO W b) (hmk : Mk B κ W ds) (hB : B ≤ W.heap.size) :
    Done PR κ h W nt B b (fun k cs => lone (fat b tm ds (.code (.rangeFunc g ps asg body) :: k)) cs W) x f' h' := by
  simp only [exec] at he
  split at he
  case h_2 => cases he
  rename_i v0 h1 hcv
  split at he
  case h_2 => cases he
  rename_i fl psl al bl st pend hob
  -- the loop is laid
  have hlay : ∃ (W1 : World) (l : Nat) (mark : List Deferred) (κ1 : K), (Instr.enterLoop b.fn tm ps asg body b.roundOf).run PR W = .ok (l, mark) W1 ∧ SR PR κ1 (h.new (.lp f (ps.toList.map P.of) (comp PR nt asg) (comp PR nt body) .ready none)) W1 ∧ Ex κ h W κ1 (h.new (.lp f (ps.toList.map P.of) (comp PR nt asg) (comp PR nt body) .ready none)) W1 ∧ (∃ tot, κ1 h.next = some ⟨l, 0, tot⟩) ∧ Mk B κ1 W1 (mark ++ ds) := by
    have mkL : ∀ (W0 : World) (df : Nat), SR PR κ h W0 → ∃ κ1, SR PR κ1 (h.new (.lp f (ps.toList.map P.of) (comp PR nt asg) (comp PR nt body) .ready none)) { W0 with heap := W0.heap.push (.loop { state := .ready, pending := none, fn := b.fn, tmps := tm, params := ps, assign := asg, body := body, defers := df }) } ∧ Ex κ h W0 κ1 (h.new (.lp f (ps.toList.map P.of) (comp PR nt asg) (comp PR nt body) .ready none)) { W0 with heap := W0.heap.push (.loop { state := .ready, pending := none, fn := b.fn, tmps := tm, params := ps, assign := asg, body := body, defers := df }) } ∧ κ1 h.next = some ⟨W0.heap.size, 0, 0⟩ := by
      intro W0 df hs0
      have hsz := hT.1
      obtain ⟨s1, e1⟩ := SR.new hs0 (.loop { state := .ready, pending := none, fn := b.fn, tmps := tm, params := ps, assign := asg, body := body, defers := df }) (.lp f (ps.toList.map P.of) (comp PR nt asg) (comp PR nt body) .ready none) 0 (W' := { W0 with heap := W0.heap.push (.loop { state := .ready, pending := none, fn := b.fn, tmps := tm, params := ps, assign := asg, body := body, defers := df }) }) rfl
        ⟨{ state := .ready, pending := none, fn := b.fn, tmps := tm, params := ps, assign := asg, body := body, defers := df }, by simp, by dsimp only; rw [hsz]; exact hT.mono (hs0.le_upd _), rfl, by dsimp only; rw [hsz]; exact hps, by dsimp only; rw [hsz], by dsimp only; rw [hsz], trivial, trivial⟩ (by intro _ _ _ e; cases e <;> rfl)
      exact ⟨_, s1, e1, K.upd_same _ _ _⟩
    cases hr : b.roundOf with
    | none =>
      have hpush : SR PR κ h { W with heap := W.heap.push (.deferred (some [])) } ∧ Ex κ h W κ h { W with heap := W.heap.push (.deferred (some [])) } := by
        have hold : ∀ b, b < W.heap.size → ({ W with heap := W.heap.push (.deferred (some [])) } : World).heap[b]? = W.heap[b]? := by
          intro b hb; simp only [Array.getElem?_push]; rw [if_neg (by omega)]
        refine ⟨⟨fun o q e => ?_, hs.low, hs.sep, hs.glob⟩, ⟨fun _ _ h => h, fun _ _ h => .inl h, fun _ _ h => .inl h, fun _ _ _ => rfl, fun b hb _ => hold b hb, by simp, Nat.le_refl _, rfl, rfl, rfl, fun b L hL => ⟨L, ?_⟩, fun x => frozen_push (by intro _ _ _ e; cases e <;> rfl) x⟩⟩
        · obtain ⟨y, a1, a2, a3⟩ := hs.obj o q e
          exact ⟨y, a1, a2.mono (fun _ _ h => h) (hold _ a3), by simp; omega⟩
        · rw [hold b (Array.getElem?_eq_some_iff.1 hL).1]; exact hL
      obtain ⟨s0, e0⟩ := hpush
      obtain ⟨κ1, s1, e1, hk⟩ := mkL _ W.heap.size s0
      have hmk1 := hmk.step (e0.trans e1)
      refine ⟨_, W.heap.size + 1, [{ target := .collected W.heap.size, args := #[] }], κ1, ?_, s1, e0.trans e1, ⟨0, by rw [hk]; simp⟩, ?_⟩
      · simp [Instr.enterLoop, newObj, Sem.run, Result.andThen]
        exact ⟨rfl, rfl, rfl⟩
      · obtain ⟨Ds, e, hn, hD⟩ := hmk1
        have hold : ∀ D ∈ Ds, D < W.heap.size := by
          obtain ⟨Ds0, e0', _, hD0⟩ := hmk
          have : Ds = Ds0 := by
            have h2 : Ds.map (fun D => ({ target := .collected D, args := #[] } : Deferred)) = Ds0.map (fun D => { target := .collected D, args := #[] }) := by rw [← e, ← e0']
            refine List.map_inj_right (fun a b hab => ?_) |>.1 h2
            injection hab with h1 _
            injection h1
          subst this
          intro D hd
          exact (Array.getElem?_eq_some_iff.1 (hD0 D hd).2.1).1
        refine ⟨W.heap.size :: Ds, by rw [e]; rfl, List.nodup_cons.2 ⟨fun hin => absurd (hold _ hin) (Nat.lt_irrefl _), hn⟩, fun D hd => ?_⟩
        rcases List.mem_cons.1 hd with rfl | hd
        · refine ⟨hB, ?_, fun o q hq hb => ?_⟩
          · rw [e1.fr W.heap.size (by simp) (fun o q hq hb => ?_)]
            · simp
            · obtain ⟨_, _, _, hlt⟩ := hs.obj o q hq
              omega
          · rcases e1.nw o q hq with h3 | h3 | ⟨o0, q0, h4, h5, _⟩
            · obtain ⟨_, _, _, hlt⟩ := hs.obj o q h3; omega
            · simp at h3; omega
            · obtain ⟨_, _, _, hlt⟩ := hs.obj o0 q0 h4; omega
        · exact hD D hd
    | some l0 =>
      obtain ⟨L0, hL0⟩ := hro l0 hr
      have hgo := getObj_run (PR := PR) hL0 (by simp)
      obtain ⟨κ1, s1, e1, hk⟩ := mkL W L0.defers hs
      refine ⟨_, W.heap.size, [], κ1, ?_, s1, e1, ⟨0, hk⟩, by simpa using hmk.step e1⟩
      simp [Instr.enterLoop, Instr.getLoop, hgo, newObj, Sem.run, Result.andThen]
  obtain ⟨W1, l, mark, κ1, hent, s1, e1, ⟨tot, hk⟩, mk1⟩ := hlay
  have hgv := (co_sound hs.gl hT hg).mono e1.le
  obtain ⟨nx, fr0, hr, hen, κ2, W2, w, e2, s2, _, hst⟩ := hcall _ _ _ _ _ hcv κ1 W1 _ [.func (.yield l) #[] #[]] s1 hgv (.one (.y _ ⟨l, 0, tot⟩ hk))
  have hk2 := e2.le _ _ hk
  obtain ⟨y, hy, hL, hlt⟩ := s2.obj _ _ hk2
  rw [hob] at hy; cases hy
  obtain ⟨L, hLh, _, _, _, _, _, hLst, hLpd⟩ := hL
  dsimp only at hLh hlt
  have hnb : L.state ≠ .busy := by
    intro e
    rw [e] at hLst
    cases st <;> first | exact hLst.elim | (simp at he)
  obtain ⟨s3, e3⟩ := SR.put s2 (x := .dead) hk2 hob rfl (W' := putObj W2 l (.loop { L with state := .exhausted })) (fun b hb => putObj_other hb) (by simp [putObj]) rfl rfl rfl (fun L' _ => ⟨_, putObj_same hlt⟩) trivial (fun vs e => by cases e) (frozen_putObj (fun c t fr e => by rw [hLh] at e; cases e) (fun c t fr e => by cases e))
  have hsteps : ∀ k cs, Steps PR (lone (fat b tm ds (.code (.rangeFunc g ps asg body) :: k)) cs W) (lone (fat b tm (mark ++ ds) ((L.pending.map Item.code).toList ++ k)) cs (putObj W2 l (.loop { L with state := .exhausted }))) := by
    intro k cs
    have a1 := st_rangeFunc (PR := PR) (b := b) (tm := tm) (ds := ds) (k := k) (cs := cs) hent hr hen
    have a2 := hst (fat b tm (mark ++ ds) (.inRangeFunc l :: k)) cs
    have a3 := st_endRangeFunc (PR := PR) (b := b) (tm := tm) (ds := mark ++ ds) (k := k) (cs := cs) hLh hnb
    exact .head a1 (a2.trans (.one a3))
  have hE := (e1.trans e2).trans e3
  have hfin : ∀ y, pend = pendOf y → x = y → f' = f → h' = h1.set h.next .dead → Done PR κ h W nt B b (fun k cs => lone (fat b tm ds (.code (.rangeFunc g ps asg body) :: k)) cs W) x f' h' := by
    intro y hp hx hf hh
    subst hx hf hh
    refine ⟨κ2, _, tm, mark ++ ds, hE, s3, hT.mono hE.le, (mk1.step e2).step e3, fun k cs => ?_⟩
    have := hsteps k cs
    rw [hp] at hLpd
    cases x with
    | normal =>
      have hpn : L.pending = none := by cases hh : L.pending <;> rw [hh] at hLpd <;> first | rfl | exact hLpd.elim
      rw [show (L.pending.map Item.code).toList ++ k = k by rw [hpn]; rfl] at this
      exact this
    | exit id =>
      have hpn : L.pending = some (.exit id) := by
        cases hh : L.pending with
        | none => rw [hh] at hLpd; exact hLpd.elim
        | some c => rw [hh] at hLpd; cases c <;> first | exact hLpd.elim | (rw [show id = _ from hLpd])
      rw [show (L.pending.map Item.code).toList ++ k = .code (.exit id) :: k by rw [hpn]; rfl] at this
      exact ⟨k, rfl, this⟩
    | ret =>
      have hpn : L.pending = some .ret := by
        cases hh : L.pending with
        | none => rw [hh] at hLpd; exact hLpd.elim
        | some c => rw [hh] at hLpd; cases c <;> first | exact hLpd.elim | rfl
      rw [show (L.pending.map Item.code).toList ++ k = .code .ret :: k by rw [hpn]; rfl] at this
      exact ⟨k, this⟩
  cases st with
  | busy => cases he
  | _ =>
    dsimp only at he
    cases pend with
    | none => cases he; exact hfin .normal rfl rfl rfl rfl
    | some y =>
      cases he
      cases x with
      | normal => exact hLpd.elim
      | exit id => exact hfin (.exit id) rfl rfl rfl rfl
      | ret => exact hfin .ret rfl rfl rfl rfl
end
end Go.Am
namespace Go.Am
open Go Classical
section
variable {PR : Program} {E : Env}
theorem execS_succ {n : Nat} (hex : ∀ m, m ≤ n → ExecS PR E m) (hcall : CallS PR E n) (hdraw : DrawS PR E n) (hrmap : RmapS PR E n) : ExecS PR E (n + 1) := by
  intro c f h x f' h' he κ W code nt b tm ds B hc hT hs hro hmk hB
  have fin : ∀ (y : X), x = y → f' = f → h' = h → (∀ k cs, Goes PR (lone (fat b tm ds (.code code :: k)) cs W) b k cs tm ds W y) → ∃ κ' W' tm' ds', Ex κ h W κ' h' W' ∧ SR PR κ' h' W' ∧ TR κ' nt f' tm' ∧ Mk B κ' W' ds' ∧ ∀ k cs, Goes PR (lone (fat b tm ds (.code code :: k)) cs W) b k cs tm' ds' W' x := by
    intro y h1 h2 h3 hg
    subst h1 h2 h3
    exact ⟨κ, W, tm, ds, Ex.refl _ _ _, hs, hT, hmk, hg⟩
  cases code with
  | skip =>
    simp only [comp] at hc; subst hc
    simp only [exec] at he; cases he
    exact fin .normal rfl rfl rfl (fun k cs => .one st_skip)
  | label l =>
    simp only [comp] at hc; subst hc
    simp only [exec] at he; cases he
    exact fin .normal rfl rfl rfl (fun k cs => .one st_label)
  | goto l =>
    simp only [comp] at hc; subst hc
    simp [exec] at he
  | refuse w =>
    simp only [comp] at hc; subst hc
    simp [exec] at he
  | ret =>
    simp only [comp] at hc; subst hc
    simp only [exec] at he; cases he
    exact fin .ret rfl rfl rfl (fun k cs => ⟨k, Steps.refl _ _⟩)
  | exit id =>
    simp only [comp] at hc; subst hc
    simp only [exec] at he; cases he
    exact fin (.exit id) rfl rfl rfl (fun k cs => ⟨k, rfl, Steps.refl _ _⟩)
  | region id ops d =>
    simp only [comp] at hc
    cases hops : compOps PR nt ops d with
    | none => rw [hops] at hc; subst hc; simp [exec] at he
    | some os =>
      rw [hops] at hc; subst hc
      simp only [exec] at he
      cases d with
      | false =>
        simp only [Bool.false_eq_true, if_false] at he
        cases hr : runO (callV E n) os f h with
        | none => rw [hr] at he; cases he
        | some r =>
          obtain ⟨f1, h1⟩ := r
          rw [hr] at he; cases he
          simp only [compOps, Bool.false_eq_true, if_false] at hops
          obtain ⟨κ', W', tm', e1, s1, t1, g1⟩ := runO_sound hcall ops.toList 0 os f h _ _ hops (fun j => by simp) hr κ W tm hT hs
          refine ⟨κ', W', tm', ds, e1, s1, t1, hmk.step e1, fun k cs => ?_⟩
          have hrange : List.range ops.size = List.range' 0 ops.toList.length := by rw [List.range_eq_range']; simp
          have a1 := st_region (PR := PR) (b := b) (tm := tm) (ds := ds) (k := k) (cs := cs) (W := W) (id := id) (ops := ops)
          rw [hrange] at a1
          exact Steps.head a1 ((g1 b ds k cs).trans (.one st_region_end))
      | true =>
        simp only [if_true] at he
        cases hr : runD (callV E n) os 0 f h [] with
        | none => rw [hr] at he; cases he
        | some r =>
          obtain ⟨f1, h1⟩ := r
          rw [hr] at he; cases he
          obtain ⟨κ', W', tm', e1, s1, t1, g1⟩ := hdraw nt id ops os f h _ _ hops hr κ W tm b hT hs
          exact ⟨κ', W', tm', ds, e1, s1, t1, hmk.step e1, fun k cs => g1 ds k cs⟩
  | seq a c2 =>
    simp only [comp] at hc; subst hc
    simp only [exec] at he
    cases hq : exec E n (comp PR nt a) f h with
    | none => rw [hq] at he; cases he
    | some r =>
      obtain ⟨x1, f1, h1⟩ := r
      rw [hq] at he
      obtain ⟨κ1, W1, tm1, ds1, e1, s1, t1, m1, g1⟩ := hex n (Nat.le_refl _) _ _ _ _ _ _ hq κ W a nt b tm ds B rfl hT hs hro hmk hB
      cases x1 with
      | normal =>
        dsimp only at he
        obtain ⟨κ2, W2, tm2, ds2, e2, s2, t2, m2, g2⟩ := hex n (Nat.le_refl _) _ _ _ _ _ _ he κ1 W1 c2 nt b tm1 ds1 B rfl t1 s1 (hro.step e1) m1 (Nat.le_trans hB e1.sz)
        exact ⟨κ2, W2, tm2, ds2, e1.trans e2, s2, t2, m2, fun k cs => Goes.head (Steps.head st_seq (g1 (.code c2 :: k) cs)) (g2 k cs)⟩
      | exit id =>
        dsimp only at he; cases he
        exact ⟨κ1, W1, tm1, ds1, e1, s1, t1, m1, fun k cs => Goes.head (.one st_seq) (Goes.pass (y := .code c2) rfl (by simp) (g1 _ cs))⟩
      | ret =>
        dsimp only at he; cases he
        exact ⟨κ1, W1, tm1, ds1, e1, s1, t1, m1, fun k cs => Goes.head (.one st_seq) (Goes.pass (y := .code c2) rfl (by simp) (g1 _ cs))⟩
  | cond g a c2 =>
    simp only [comp] at hc
    cases hg : co PR g with
    | none => rw [hg] at hc; subst hc; simp [exec] at he
    | some ga =>
      rw [hg] at hc; subst hc
      have hgv := co_sound hs.gl hT hg
      simp only [exec] at he
      split at he
      · rename_i e
        rw [e] at hgv
        obtain ⟨κ1, W1, tm1, ds1, e1, s1, t1, m1, g1⟩ := hex n (Nat.le_refl _) _ _ _ _ _ _ he κ W a nt b tm ds B rfl hT hs hro hmk hB
        exact ⟨κ1, W1, tm1, ds1, e1, s1, t1, m1, fun k cs => Goes.head (.one (st_cond hgv.bool)) (g1 k cs)⟩
      · rename_i e
        rw [e] at hgv
        obtain ⟨κ1, W1, tm1, ds1, e1, s1, t1, m1, g1⟩ := hex n (Nat.le_refl _) _ _ _ _ _ _ he κ W c2 nt b tm ds B rfl hT hs hro hmk hB
        exact ⟨κ1, W1, tm1, ds1, e1, s1, t1, m1, fun k cs => Goes.head (.one (st_cond hgv.bool)) (g1 k cs)⟩
      · cases he
  | block id a =>
    simp only [comp] at hc; subst hc
    simp only [exec] at he
    cases hq : exec E n (comp PR nt a) f h with
    | none => rw [hq] at he; cases he
    | some r =>
      obtain ⟨x1, f1, h1⟩ := r
      rw [hq] at he
      obtain ⟨κ1, W1, tm1, ds1, e1, s1, t1, m1, g1⟩ := hex n (Nat.le_refl _) _ _ _ _ _ _ hq κ W a nt b tm ds B rfl hT hs hro hmk hB
      cases x1 with
      | normal =>
        dsimp only at he; cases he
        exact ⟨κ1, W1, tm1, ds1, e1, s1, t1, m1, fun k cs => Steps.head st_block ((g1 (.inBlock id :: k) cs).trans (.one st_inBlock))⟩
      | exit j =>
        dsimp only at he
        split at he
        · rename_i hj
          cases he
          subst hj
          refine ⟨κ1, W1, tm1, ds1, e1, s1, t1, m1, fun k cs => ?_⟩
          obtain ⟨k', hk, g⟩ := g1 (.inBlock j :: k) cs
          exact Steps.head st_block (g.trans (.one (st_exit (by rw [hk]; simp [exitTo]))))
        · rename_i hj
          cases he
          refine ⟨κ1, W1, tm1, ds1, e1, s1, t1, m1, fun k cs => ?_⟩
          obtain ⟨k', hk, g⟩ := g1 (.inBlock id :: k) cs
          refine ⟨k', hk.trans ?_, Steps.head st_block g⟩
          have : (id == j) = false := by simpa using fun e => hj e.symm
          simp [exitTo, this]
      | ret =>
        dsimp only at he; cases he
        refine ⟨κ1, W1, tm1, ds1, e1, s1, t1, m1, fun k cs => ?_⟩
        obtain ⟨k', g⟩ := g1 (.inBlock id :: k) cs
        exact ⟨k', Steps.head st_block g⟩
  | scope a =>
    simp only [comp] at hc
    subst hc
    simp only [exec] at he
    obtain ⟨κ1, W1, tm1, ds1, e1, s1, t1, m1, g1⟩ := hex n (Nat.le_refl _) _ _ _ _ _ _ he κ W a nt b tm ds B rfl hT hs hro hmk hB
    refine ⟨κ1, W1, tm1, ds1, e1, s1, t1, m1, fun k cs => ?_⟩
    have := g1 (.inScope a :: k) cs
    cases x with
    | normal => exact Steps.head st_scope (Steps.trans this (.one st_inScope))
    | exit id => exact Goes.head (.one st_scope) (Goes.pass (y := .inScope a) rfl (by simp) this)
    | ret => exact Goes.head (.one st_scope) (Goes.pass (y := .inScope a) rfl (by simp) this)
  | loop a =>
    simp only [comp] at hc
    rcases compLoop_cases PR nt a (comp PR nt a) with h1 | ⟨w, h1⟩ | ⟨it, nx, ok, rest, h1⟩
    · rw [h1] at hc; subst hc
      obtain ⟨κ1, W1, tm1, ds1, e1, s1, t1, m1, g1⟩ := loop_sound (N := n + 1) (fun m hm => hex m (by omega)) (n + 1) (Nat.le_refl _) _ _ _ _ _ he κ W b tm ds B hT hs hro hmk hB
      exact ⟨κ1, W1, tm1, ds1, e1, s1, t1, m1, fun k cs => Goes.head (.one st_loop) (g1 k cs)⟩
    · rw [h1] at hc; subst hc; simp [exec] at he
    · rw [h1] at hc; subst hc
      obtain ⟨κ1, W1, tm1, ds1, e1, s1, t1, m1, g1⟩ := hrmap a it nx ok rest _ _ _ _ _ he κ W nt b tm ds B h1 hT hs hro hmk hB
      exact ⟨κ1, W1, tm1, ds1, e1, s1, t1, m1, fun k cs => Goes.head (.one st_loop) (g1 k cs)⟩
  | rangeFunc g ps asg body =>
    simp only [comp] at hc
    split at hc
    · subst hc; simp [exec] at he
    · rename_i hps
      cases hg : co PR g with
      | none => rw [hg] at hc; subst hc; simp [exec] at he
      | some ga =>
        rw [hg] at hc; subst hc
        exact rf_sound hcall hg (by simpa using hps) he hT hs hro hmk hB
end
end Go.Am
