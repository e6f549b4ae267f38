/- The abstract machine: what reads, makes and changes memory. -/
import Derived.Test.YtgbeenpchkneiaaGreatDoorA2
import Derived.IntWalk
import Derived.Laws.IdiomCopy
set_option linter.unusedVariables false
set_option linter.unusedSimpArgs false
set_option linter.constructorNameAsVariable false
set_option linter.unusedSectionVars false
namespace Go.Am
open Go Classical
section
variable {PR : Program} {κ : K} {nt : Nat} {f : T V} {tm : Array Value} {h : H}
set_option maxHeartbeats 1000000 in
theorem evR_sound (hT : TR κ nt f tm) {o : Oper} {op : OR} (hc : compOp PR o = some (.r op)) {v : V} (hv : evR f h op = some v) : ReadOk PR κ h v (execOp (evl tm) o) := by
  obtain ⟨dst, ox, ty, pos, after, guard⟩ := o
  cases ox
  case load t x =>
    simp only [compOp, Option.bind_eq_bind, Option.bind_eq_some_iff, Option.pure_def, Option.some.injEq, Op.r.injEq] at hc
    obtain ⟨ag, hag, a, ha, rfl⟩ := hc
    exact r_load hT dst ty pos after guard hag ha hv
  case lookup t x k ok =>
    simp only [compOp, Option.bind_eq_bind, Option.bind_eq_some_iff] at hc
    obtain ⟨d, hd, hc⟩ := hc
    split at hc
    · simp only [Option.bind_eq_some_iff, Option.pure_def, Option.some.injEq, Op.r.injEq] at hc
      obtain ⟨i, hi, z, hz, kk, hkk, zero, hzc, a, ha, b, hb, rfl⟩ := hc
      exact r_look hT dst ty pos after guard hd hi hz hzc hkk ha hb hv
    · cases hc
  case convert s t x =>
    simp only [compOp, Option.bind_eq_bind, Option.bind_eq_some_iff] at hc
    obtain ⟨d1, h1, d2, h2, hc⟩ := hc
    split at hc
    · simp only [Option.bind_eq_some_iff, Option.pure_def, Option.some.injEq, reduceCtorEq, and_false, exists_false] at hc
    · split at hc
      · rename_i hu8
        simp only [Option.bind_eq_some_iff, Option.pure_def, Option.some.injEq, Op.r.injEq] at hc
        obtain ⟨a, ha, rfl⟩ := hc
        exact r_bstr hT dst ty pos after guard h1 hu8 h2 ha hv
      · cases hc
    · cases hc
  case entry x =>
    simp only [compOp, Option.bind_eq_bind, Option.bind_eq_some_iff, Option.pure_def, Option.some.injEq, Op.r.injEq] at hc
    obtain ⟨a, ha, rfl⟩ := hc
    exact r_entry hT dst ty pos after guard ha hv
  case call c =>
    obtain ⟨callee, xs, ts⟩ := c
    cases callee
    case value g => simp only [compOp, Option.bind_eq_bind, Option.bind_eq_some_iff, Option.pure_def, Option.some.injEq, reduceCtorEq, and_false, exists_false] at hc
    case invoke r m => simp only [compOp, reduceCtorEq] at hc
    case builtin b =>
      cases b
      case len =>
        simp only [compOp, Option.bind_eq_bind, Option.bind_eq_some_iff] at hc
        obtain ⟨t, ht, d, hd, hc⟩ := hc
        split at hc
        · simp only [Option.bind_eq_some_iff, Option.pure_def, Option.some.injEq, Op.r.injEq] at hc
          obtain ⟨x, hx, a, ha, rfl⟩ := hc
          exact r_mlen hT dst ty pos after guard ht hx hd ha hv
        · simp only [Option.bind_eq_some_iff, Option.pure_def, Option.some.injEq, reduceCtorEq, and_false, exists_false] at hc
        · simp only [Option.bind_eq_some_iff, Option.pure_def, Option.some.injEq, reduceCtorEq, and_false, exists_false] at hc
        · cases hc
      case append =>
        simp only [compOp, Option.bind_eq_bind, Option.bind_eq_some_iff] at hc
        obtain ⟨t, ht, d, hd, hc⟩ := hc
        split at hc
        · simp only [Option.bind_eq_some_iff] at hc
          obtain ⟨t2, ht2, d2, hd2, hc⟩ := hc
          split at hc
          · simp only [Option.bind_eq_some_iff, Option.pure_def, Option.some.injEq, reduceCtorEq, and_false, exists_false] at hc
          · cases hc
        · cases hc
      case max =>
        simp only [compOp, Option.bind_eq_bind, Option.bind_eq_some_iff] at hc
        obtain ⟨l, hl, hc⟩ := hc
        split at hc <;> simp only [Option.pure_def, Option.some.injEq, reduceCtorEq] at hc
      case min =>
        simp only [compOp, Option.bind_eq_bind, Option.bind_eq_some_iff] at hc
        obtain ⟨l, hl, hc⟩ := hc
        split at hc <;> simp only [Option.pure_def, Option.some.injEq, reduceCtorEq] at hc
      all_goals (try (first
        | (simp only [compOp, Option.bind_eq_bind, Option.bind_eq_some_iff, Option.pure_def, Option.some.injEq, reduceCtorEq, and_false, exists_false] at hc; done)
        | (exfalso; simp only [compOp, Option.bind_eq_bind, Option.bind_eq_some_iff] at hc; obtain ⟨d1, h1, hc⟩ := hc; split at hc <;> (first | (cases hc; done) | (simp only [Option.bind_eq_some_iff, Option.pure_def, Option.some.injEq, reduceCtorEq, and_false, exists_false] at hc; done)))
        | (exfalso; simp only [compOp, Option.bind_eq_bind, Option.bind_eq_some_iff] at hc; obtain ⟨d1, h1, hc⟩ := hc; split at hc <;> (first | (cases hc; done) | (simp only [Option.bind_eq_some_iff] at hc; obtain ⟨z, hz, s, hs, hc⟩ := hc; split at hc <;> (first | (cases hc; done) | (simp only [Option.bind_eq_some_iff, Option.pure_def, Option.some.injEq, reduceCtorEq, and_false, exists_false] at hc; done)))))
        | (exfalso; simp only [compOp, Option.bind_eq_bind, Option.bind_eq_some_iff] at hc; obtain ⟨d1, h1, d2, h2, hc⟩ := hc; split at hc <;> (first | (cases hc; done) | (simp only [Option.bind_eq_some_iff, Option.pure_def, Option.some.injEq, reduceCtorEq, and_false, exists_false] at hc; done)))
        | (exfalso; simp only [compOp, Option.bind_eq_bind, Option.bind_eq_some_iff] at hc; obtain ⟨d1, h1, hc⟩ := hc; split at hc <;> (first | (cases hc; done) | (simp only [Option.bind_eq_some_iff] at hc; obtain ⟨z, hz, s, hs, i, hi, hc⟩ := hc; split at hc <;> (first | (cases hc; done) | (simp only [Option.bind_eq_some_iff, Option.pure_def, Option.some.injEq, reduceCtorEq, and_false, exists_false] at hc; done)))))
        | (exfalso; simp only [compOp] at hc; split at hc <;> (first | (cases hc; done) | (simp only [Option.bind_eq_bind, Option.bind_eq_some_iff, Option.pure_def, Option.some.injEq, reduceCtorEq, and_false, exists_false] at hc; done)))))
  all_goals (try (first
    | (simp only [compOp, Option.bind_eq_bind, Option.bind_eq_some_iff, Option.pure_def, Option.some.injEq, reduceCtorEq, and_false, exists_false] at hc; done)
    | (exfalso; simp only [compOp, Option.bind_eq_bind, Option.bind_eq_some_iff] at hc; obtain ⟨d1, h1, hc⟩ := hc; split at hc <;> (first | (cases hc; done) | (simp only [Option.bind_eq_some_iff, Option.pure_def, Option.some.injEq, reduceCtorEq, and_false, exists_false] at hc; done)))
    | (exfalso; simp only [compOp, Option.bind_eq_bind, Option.bind_eq_some_iff] at hc; obtain ⟨d1, h1, hc⟩ := hc; split at hc <;> (first | (cases hc; done) | (simp only [Option.bind_eq_some_iff] at hc; obtain ⟨z, hz, s, hs, hc⟩ := hc; split at hc <;> (first | (cases hc; done) | (simp only [Option.bind_eq_some_iff, Option.pure_def, Option.some.injEq, reduceCtorEq, and_false, exists_false] at hc; done)))))
    | (exfalso; simp only [compOp, Option.bind_eq_bind, Option.bind_eq_some_iff] at hc; obtain ⟨d1, h1, d2, h2, hc⟩ := hc; split at hc <;> (first | (cases hc; done) | (simp only [Option.bind_eq_some_iff, Option.pure_def, Option.some.injEq, reduceCtorEq, and_false, exists_false] at hc; done)))
    | (exfalso; simp only [compOp, Option.bind_eq_bind, Option.bind_eq_some_iff] at hc; obtain ⟨d1, h1, hc⟩ := hc; split at hc <;> (first | (cases hc; done) | (simp only [Option.bind_eq_some_iff] at hc; obtain ⟨z, hz, s, hs, i, hi, hc⟩ := hc; split at hc <;> (first | (cases hc; done) | (simp only [Option.bind_eq_some_iff, Option.pure_def, Option.some.injEq, reduceCtorEq, and_false, exists_false] at hc; done)))))
    | (exfalso; simp only [compOp] at hc; split at hc <;> (first | (cases hc; done) | (simp only [Option.bind_eq_bind, Option.bind_eq_some_iff, Option.pure_def, Option.some.injEq, reduceCtorEq, and_false, exists_false] at hc; done)))))
  case unOp u t x => cases u <;> simp only [compOp, Option.bind_eq_bind, Option.bind_eq_some_iff, Option.pure_def, Option.some.injEq, reduceCtorEq, and_false, exists_false] at hc
  case makeFunc g a b => cases g <;> simp only [compOp, Option.bind_eq_bind, Option.bind_eq_some_iff, Option.pure_def, Option.some.injEq, reduceCtorEq, and_false, exists_false] at hc
  case makeMap t r => cases r <;> simp only [compOp, Option.bind_eq_bind, Option.bind_eq_some_iff, Option.pure_def, Option.some.injEq, reduceCtorEq, and_false, exists_false] at hc
  case next x b => cases b <;> simp only [compOp, Option.bind_eq_bind, Option.bind_eq_some_iff, Option.pure_def, Option.some.injEq, reduceCtorEq, and_false, exists_false] at hc
  case slice t x lo hi mx =>
    cases mx
    case some => simp only [compOp, reduceCtorEq] at hc
    case none =>
      simp only [compOp, Option.bind_eq_bind, Option.bind_eq_some_iff] at hc
      obtain ⟨d, hd, hc⟩ := hc
      split at hc
      · simp only [Option.bind_eq_some_iff, Option.pure_def, Option.some.injEq, reduceCtorEq, and_false, exists_false] at hc
      · cases hc
  case binOp bop t x y yt =>
    exfalso
    simp only [compOp, Option.bind_eq_bind, Option.bind_eq_some_iff] at hc
    obtain ⟨a, ha, b, hb, d, hd, hc⟩ := hc
    repeat' split at hc
    all_goals simp only [Option.pure_def, Option.some.injEq, reduceCtorEq] at hc
/-! ### making objects -/
/-- the operation makes one object, and hands over what leads there -/
def MakeOk (PR : Program) (κ : K) (id : P) (x : Obj) (v : V) (s : Sem Next) : Prop := ∀ W, ∃ ob tot w, s.run PR W = .ok (.value w) { W with heap := W.heap.push ob } ∧ NF ob ∧ ∀ κ', K.le κ κ' → κ' id = some ⟨W.heap.size, 0, tot⟩ → (∀ W', W'.heap[W.heap.size]? = some ob → ObR PR κ' W' ⟨W.heap.size, 0, tot⟩ x) ∧ VR κ' v w
theorem ObR_row {κ : K} {W : World} {n : Nat} {cs : Array Value} {e : TypeId} {vs : List V} (hv : VRs κ vs cs.toList) (hW : W.heap[n]? = some (.cells cs e)) : ObR PR κ W ⟨n, 0, cs.size⟩ (.c vs false) := by
  have hl : vs.length = cs.size := by rw [hv.1]; simp
  have hcell : ∀ i, W.cell? ((⟨n, 0, cs.size⟩ : Pl).ad i) = cs[i]? := fun i => by simp [World.cell?, Pl.ad, hW]
  refine ⟨fun i v hi => ?_, fun _ => ⟨by dsimp only; omega, fun i hi => ⟨by simp [World.frozen?, Pl.ad, hW], ?_⟩⟩⟩
  · obtain ⟨w, hw, hvr⟩ := hv.get hi
    exact ⟨w, by rw [hcell]; simpa using hw, hvr⟩
  · rw [hcell]
    dsimp only at hi
    simp [hi]
theorem m_alloc (dst : Option Tmp) (ty : TypeId) (pos : String) (after : Array Edge) (guard : Option (Nat × Bool)) {v : V} {e : TypeId} {zs : List V} {id : P} {x : Obj} (hz : zeroOf PR e = some zs) (hv : evA f id (.alloc zs) = some (x, v)) : MakeOk PR κ id x v (execOp (evl tm) ⟨dst, .alloc e, ty, pos, after, guard⟩) := by
  intro W
  simp only [evA] at hv; cases hv
  obtain ⟨z, hzr, _⟩ := zeroOf_run (κ := κ) hz W
  refine ⟨.cells z.cells e, z.cells.size, .pointer (some ⟨W.heap.size, 0, none⟩), ?_, (by intro _ _ _ e; cases e <;> rfl), fun κ' hk hid => ⟨fun W' hW' => ?_, .p _ _ 0 hid⟩⟩
  · simp [execOp, Instr.alloc, hzr, newVar, newRow, newObj, Sem.run, Result.andThen]
  · obtain ⟨z', hzr', hzv'⟩ := zeroOf_run (κ := κ') hz W
    have : z' = z := by rw [hzr] at hzr'; cases hzr'; rfl
    subst this
    exact ObR_row hzv' hW'
theorem m_box (hG : GL PR κ) (hT : TR κ nt f tm) (dst : Option Tmp) (ty : TypeId) (pos : String) (after : Array Edge) (guard : Option (Nat × Bool)) {v : V} {e : TypeId} {y : Operand} {a : A} {id : P} {x : Obj} (ha : co PR y = some a) (hv : evA f id (.box a) = some (x, v)) : MakeOk PR κ id x v (execOp (evl tm) ⟨dst, .box e y, ty, pos, after, guard⟩) := by
  intro W
  simp only [evA] at hv
  split at hv
  · rename_i xc hxc
    cases hv
    refine ⟨.cells (evl tm y).cells e, (evl tm y).cells.size, .pointer (some ⟨W.heap.size, 0, none⟩), ?_, (by intro _ _ _ e; cases e <;> rfl), fun κ' hk hid => ⟨fun W' hW' => ?_, .p _ _ 0 hid⟩⟩
    · simp [execOp, Instr.box, newVar, newRow, newObj, Sem.run, Result.andThen]
    · exact ObR_row ((vcells_sound (co_sound hG hT ha) hxc).mono hk) hW'
  · cases hv
theorem m_mkm (dst : Option Tmp) (ty : TypeId) (pos : String) (after : Array Edge) (guard : Option (Nat × Bool)) {v : V} {t : TypeId} {id : P} {x : Obj} (hv : evA f id .mkm = some (x, v)) : MakeOk PR κ id x v (execOp (evl tm) ⟨dst, .makeMap t none, ty, pos, after, guard⟩) := by
  intro W
  simp only [evA] at hv; cases hv
  refine ⟨.map #[] 0, 0, .map (some W.heap.size), ?_, (by intro _ _ _ e; cases e <;> rfl), fun κ' hk hid => ⟨fun W' hW' => ⟨#[], hW', rfl, fun i e e' h => by simp at h⟩, .m _ _ hid⟩⟩
  simp [execOp, Instr.makeMap, newObj, Sem.run, Result.andThen]
theorem rep_get {α : Type} (zs : List α) : ∀ (k i : Nat), i < k * zs.length → (rep k zs)[i]? = zs[i % zs.length]?
  | 0, i, h => by omega
  | k + 1, i, h => by
    simp only [rep]
    by_cases hi : i < zs.length
    · rw [List.getElem?_append_left hi, Nat.mod_eq_of_lt hi]
    · rw [List.getElem?_append_right (by omega), rep_get zs k (i - zs.length) (by rw [Nat.succ_mul] at h; omega), ← Nat.mod_eq_sub_mod (by omega)]
theorem rep_len {α : Type} (zs : List α) : ∀ k, (rep k zs).length = k * zs.length
  | 0 => by simp [rep]
  | k + 1 => by simp [rep, rep_len zs k, Nat.succ_mul, Nat.add_comm]
theorem rep_VRs {κ : K} {zs : List V} {z : Array Value} (hz : VRs κ zs z.toList) (k : Nat) : VRs κ (rep k zs) ((Array.range (k * zs.length)).map (z[· % z.size]!)).toList := by
  have hl : z.size = zs.length := by have := hz.1; simp at this; omega
  refine ⟨by simp [rep_len], fun i x y hx hy => ?_⟩
  have hi : i < k * zs.length := by have := (List.getElem?_eq_some_iff.1 hx).1; rwa [rep_len] at this
  rw [rep_get zs k i hi] at hx
  have hp : 0 < zs.length := by
    rcases Nat.eq_zero_or_pos zs.length with h0 | h0
    · rw [h0] at hi; simp at hi
    · exact h0
  have hm : i % zs.length < z.size := by rw [hl]; exact Nat.mod_lt _ hp
  have : y = z[i % zs.length] := by
    simp [hi] at hy
    rw [← hy, hl, getElem!_pos z _ hm]
  subst this
  exact hz.2 _ _ _ hx (by simp [hm])
theorem m_bslice (hG : GL PR κ) (hT : TR κ nt f tm) (dst : Option Tmp) (ty : TypeId) (pos : String) (after : Array Edge) (guard : Option (Nat × Bool)) {v : V} {t e : TypeId} {n s : Nat} {ps : Array (Nat × Operand)} {l : List (Nat × Nat × A)} {zs : List V} {id : P} {x : Obj} (ht : PR.underlying t = some (.slice e)) (hz : zeroOf PR e = some zs) (hs : szOf PR e = some s) (hl : zs.length = s) (hn : n * s ≤ 2 ^ 24) (hp : cpartsL PR t ps.toList = some l) (hv : evA f id (.bslice n (rep n zs) l) = some (x, v)) : MakeOk PR κ id x v (execOp (evl tm) ⟨dst, .buildSlice t n ps, ty, pos, after, guard⟩) := by
  intro W
  simp only [evA] at hv
  split at hv
  case h_2 => cases hv
  rename_i cs hf
  cases hv
  obtain ⟨z, hzr, hzv⟩ := zeroOf_run (κ := κ) hz W
  subst hl
  have hrv := rep_VRs hzv n
  obtain ⟨c, hc1, hc2⟩ := fill_sound hG hT (fun i => some (i * zs.length, zs.length)) t (fun i p hp => by
    unfold placeOf at hp
    rw [ht] at hp
    dsimp only at hp
    rw [hs] at hp
    exact hp) hp hrv hf
  refine ⟨.cells c e, c.size, .slice (some ⟨W.heap.size, 0, none⟩) n n, ?_, (by intro _ _ _ e; cases e <;> rfl), fun κ' hk hid => ⟨fun W' hW' => ObR_row (hc2.mono hk) hW', ?_⟩⟩
  · have hsz := szOf_run hs W
    have hlim : ¬ (n * zs.length > 2 ^ 24) := by omega
    simp only [execOp, Instr.buildSlice, Sem.run_bind, run_underlying ht, Result.andThen_ok, hsz, hlim, if_false]
    by_cases h0 : n * zs.length = 0
    · have hr0 : ∀ g : Nat → Value, (Array.range 0).map g = #[] := fun _ => by rw [Array.range_zero']; simp
      have hc1' : ∀ g : Nat → Value, Instr.fill (fun i => some (i * zs.length, zs.length)) ((Array.range (n * zs.length)).map g) (ps.map fun (i, x) => (i, evl tm x)).toList = some c := by
        intro g
        rw [← hc1, h0, hr0, hr0]
        simp
      rw [if_pos h0]
      simp only [Sem.run_bind, Sem.run_pure, Result.andThen_ok, hc1', newRow, newObj, Sem.run]
    · have hc1' : Instr.fill (fun i => some (i * zs.length, zs.length)) ((Array.range (n * zs.length)).map (z.cells[· % z.cells.size]!)) (ps.map fun (i, x) => (i, evl tm x)).toList = some c := by
        rw [← hc1]; simp
      rw [if_neg h0]
      simp only [Sem.run_bind, Sem.run_pure, hzr, Result.andThen_ok, hc1', newRow, newObj, Sem.run]
  · exact .slc _ ⟨W.heap.size, 0, c.size⟩ 0 n n hid (Nat.le_refl _)
theorem m_mks (hG : GL PR κ) (hT : TR κ nt f tm) (dst : Option Tmp) (ty : TypeId) (pos : String) (after : Array Edge) (guard : Option (Nat × Bool)) {v : V} {t e : TypeId} {s : Nat} {zs : List V} {l c : Operand} {l' c' : A} {i : TypeInfo} {id : P} {x : Obj} (ht : PR.underlying t = some (.slice e)) (hz : zeroOf PR e = some zs) (hs : szOf PR e = some s) (hi : PR.info? e = some i) (hsl : zs.length = s) (hb : i.bytes ≤ 1000000) (hl : co PR l = some l') (hc : co PR c = some c') (hv : evA f id (.mks s zs l' c') = some (x, v)) : MakeOk PR κ id x v (execOp (evl tm) ⟨dst, .makeSlice t l c, ty, pos, after, guard⟩) := by
  intro W
  have h1 := co_sound hG hT hl
  have h2 := co_sound hG hT hc
  simp only [evA] at hv
  split at hv
  case h_2 => cases hv
  rename_i k1 n1 k2 n2 e1 e2
  rw [e1] at h1; rw [e2] at h2
  have h1 := h1.int; have h2 := h2.int
  split at hv
  case isFalse => cases hv
  rename_i g1
  split at hv
  case isFalse => cases hv
  rename_i g2
  split at hv
  case isFalse => cases hv
  rename_i g3
  cases hv
  obtain ⟨z, hzr, hzv⟩ := zeroOf_run (κ := κ) hz W
  subst hsl
  have hrv := rep_VRs hzv n2.toNat
  have w1 : IntKind.i64.wrap n1 = n1 := IntWalk.i64_in _ (by omega)
  have w2 : IntKind.i64.wrap n2 = n2 := IntWalk.i64_in _ (by omega)
  have hbb : (i.bytes : Int) * n2 ≤ 1000000 * 1000000 := Int.mul_le_mul (by omega) g3 (by omega) (by omega)
  have hti : (typeInfo e).run PR W = .ok i W := by simp [typeInfo, hi, Result.andThen, go_sem]
  have hsz := szOf_run hs W
  have hpow : (2 : Int) ^ 48 = 281474976710656 := by decide
  have hask : ∀ n : Nat, (askRoom n).run PR W = .ok () W := fun n => by unfold askRoom; split <;> simp [mark, Sem.run]
  have hc : ∀ zc : Array Value, (n2.toNat * zs.length = 0 ∨ zc = z.cells) → (Array.range (n2.toNat * zs.length)).map (zc[· % zc.size]!) = (Array.range (n2.toNat * zs.length)).map (z.cells[· % z.cells.size]!) := by
    intro zc hzc
    rcases hzc with h0 | rfl
    · have hr0 : ∀ g : Nat → Value, (Array.range 0).map g = #[] := fun _ => by rw [Array.range_zero']; simp
      rw [h0, hr0, hr0]
    · rfl
  refine ⟨.cells ((Array.range (n2.toNat * zs.length)).map (z.cells[· % z.cells.size]!)) e, _, .slice (some ⟨W.heap.size, 0, none⟩) n1.toNat n2.toNat, ?_, (by intro _ _ _ e; cases e <;> rfl), fun κ' hk hid => ⟨fun W' hW' => ObR_row (hrv.mono hk) hW', .slc _ ⟨W.heap.size, 0, _⟩ 0 _ _ hid (by omega)⟩⟩
  have t1 : (decide (n2 < 0) || decide ((i.bytes : Int) * n2 > 281474976710656)) = false := by
    rw [Bool.or_eq_false_iff, decide_eq_false_iff_not, decide_eq_false_iff_not]; omega
  have t2 : ¬ (n1 < 0) := by omega
  have t3 : ¬ (n1 > n2) := by omega
  simp only [execOp, Instr.makeSlice, Sem.run_bind, run_underlying ht, Result.andThen_ok, h1, h2, asInt, asIntOf, Sem.run_pure, hti, w1, w2, hpow]
  have t4 : (decide (n2 < 0) || decide ((i.bytes : Int) * n2 > 281474976710656) || decide (n1 < 0) || decide (n1 > n2)) = false := by
    rw [t1, Bool.false_or, Bool.or_eq_false_iff, decide_eq_false_iff_not, decide_eq_false_iff_not]; exact ⟨t2, t3⟩
  rw [t4]
  simp only [Bool.false_eq_true, if_false, Sem.run_bind, hask, Result.andThen_ok, hsz]
  by_cases h0 : n2.toNat * zs.length = 0
  · rw [if_pos h0]
    simp only [Sem.run_bind, Sem.run_pure, Result.andThen_ok, newRow, newObj, Sem.run, hc _ (.inl h0)]
  · rw [if_neg h0]
    simp only [Sem.run_bind, Sem.run_pure, hzr, Result.andThen_ok, newRow, newObj, Sem.run]
set_option maxHeartbeats 1000000 in
theorem evA_sound (hG : GL PR κ) (hT : TR κ nt f tm) {o : Oper} {op : OA} (hc : compOp PR o = some (.a op)) {id : P} {x : Obj} {v : V} (hv : evA f id op = some (x, v)) : MakeOk PR κ id x v (execOp (evl tm) o) := by
  obtain ⟨dst, ox, ty, pos, after, guard⟩ := o
  cases ox
  case alloc e =>
    simp only [compOp, Option.bind_eq_bind, Option.bind_eq_some_iff, Option.pure_def, Option.some.injEq, Op.a.injEq] at hc
    obtain ⟨z, hz, rfl⟩ := hc
    exact m_alloc dst ty pos after guard hz hv
  case box e y =>
    simp only [compOp, Option.bind_eq_bind, Option.bind_eq_some_iff, Option.pure_def, Option.some.injEq, Op.a.injEq] at hc
    obtain ⟨a, ha, rfl⟩ := hc
    exact m_box hG hT dst ty pos after guard ha hv
  case buildSlice t n ps =>
    simp only [compOp, Option.bind_eq_bind, Option.bind_eq_some_iff] at hc
    obtain ⟨d, hd, hc⟩ := hc
    split at hc
    · simp only [Option.bind_eq_some_iff] at hc
      obtain ⟨z, hz, s, hs, hc⟩ := hc
      split at hc
      · rename_i hcond
        simp only [Option.bind_eq_some_iff, Option.pure_def, Option.some.injEq, Op.a.injEq] at hc
        obtain ⟨l, hl, rfl⟩ := hc
        exact m_bslice hG hT dst ty pos after guard hd hz hs hcond.1 hcond.2 hl hv
      · cases hc
    · cases hc
  case makeMap t r =>
    cases r
    case none =>
      simp only [compOp, Option.pure_def, Option.some.injEq, Op.a.injEq] at hc
      subst hc
      exact m_mkm dst ty pos after guard hv
    case some => simp only [compOp, reduceCtorEq] at hc
  case makeSlice t l c =>
    simp only [compOp, Option.bind_eq_bind, Option.bind_eq_some_iff] at hc
    obtain ⟨d, hd, hc⟩ := hc
    split at hc
    · simp only [Option.bind_eq_some_iff] at hc
      obtain ⟨z, hz, s, hs, i, hi, hc⟩ := hc
      split at hc
      · rename_i hcond
        simp only [Option.bind_eq_some_iff, Option.pure_def, Option.some.injEq, Op.a.injEq] at hc
        obtain ⟨l', hl, c', hc', rfl⟩ := hc
        exact m_mks hG hT dst ty pos after guard hd hz hs hi hcond.1 hcond.2 hl hc' hv
      · cases hc
    · cases hc
  case convert s t x =>
    simp only [compOp, Option.bind_eq_bind, Option.bind_eq_some_iff] at hc
    obtain ⟨d1, h1, d2, h2, hc⟩ := hc
    split at hc
    · simp only [Option.bind_eq_some_iff, Option.pure_def, Option.some.injEq, reduceCtorEq, and_false, exists_false] at hc
    · split at hc
      · simp only [Option.bind_eq_some_iff, Option.pure_def, Option.some.injEq, reduceCtorEq, and_false, exists_false] at hc
      · cases hc
    · cases hc
  case call c =>
    obtain ⟨callee, xs, ts⟩ := c
    cases callee
    case value g => simp only [compOp, Option.bind_eq_bind, Option.bind_eq_some_iff, Option.pure_def, Option.some.injEq, reduceCtorEq, and_false, exists_false] at hc
    case invoke r m => simp only [compOp, reduceCtorEq] at hc
    case builtin b =>
      cases b
      case len =>
        simp only [compOp, Option.bind_eq_bind, Option.bind_eq_some_iff] at hc
        obtain ⟨t, ht, d, hd, hc⟩ := hc
        split at hc
        · simp only [Option.bind_eq_some_iff, Option.pure_def, Option.some.injEq, reduceCtorEq, and_false, exists_false] at hc
        · simp only [Option.bind_eq_some_iff, Option.pure_def, Option.some.injEq, reduceCtorEq, and_false, exists_false] at hc
        · simp only [Option.bind_eq_some_iff, Option.pure_def, Option.some.injEq, reduceCtorEq, and_false, exists_false] at hc
        · cases hc
      case append =>
        simp only [compOp, Option.bind_eq_bind, Option.bind_eq_some_iff] at hc
        obtain ⟨t, ht, d, hd, hc⟩ := hc
        split at hc
        · simp only [Option.bind_eq_some_iff] at hc
          obtain ⟨t2, ht2, d2, hd2, hc⟩ := hc
          split at hc
          · simp only [Option.bind_eq_some_iff, Option.pure_def, Option.some.injEq, reduceCtorEq, and_false, exists_false] at hc
          · cases hc
        · cases hc
      case max =>
        simp only [compOp, Option.bind_eq_bind, Option.bind_eq_some_iff] at hc
        obtain ⟨l, hl, hc⟩ := hc
        split at hc <;> simp only [Option.pure_def, Option.some.injEq, reduceCtorEq] at hc
      case min =>
        simp only [compOp, Option.bind_eq_bind, Option.bind_eq_some_iff] at hc
        obtain ⟨l, hl, hc⟩ := hc
        split at hc <;> simp only [Option.pure_def, Option.some.injEq, reduceCtorEq] at hc
      all_goals (try (first
        | (simp only [compOp, Option.bind_eq_bind, Option.bind_eq_some_iff, Option.pure_def, Option.some.injEq, reduceCtorEq, and_false, exists_false] at hc; done)
        | (exfalso; simp only [compOp, Option.bind_eq_bind, Option.bind_eq_some_iff] at hc; obtain ⟨d1, h1, hc⟩ := hc; split at hc <;> (first | (cases hc; done) | (simp only [Option.bind_eq_some_iff, Option.pure_def, Option.some.injEq, reduceCtorEq, and_false, exists_false] at hc; done)))
        | (exfalso; simp only [compOp, Option.bind_eq_bind, Option.bind_eq_some_iff] at hc; obtain ⟨d1, h1, hc⟩ := hc; split at hc <;> (first | (cases hc; done) | (simp only [Option.bind_eq_some_iff] at hc; obtain ⟨z, hz, s, hs, hc⟩ := hc; split at hc <;> (first | (cases hc; done) | (simp only [Option.bind_eq_some_iff, Option.pure_def, Option.some.injEq, reduceCtorEq, and_false, exists_false] at hc; done)))))
        | (exfalso; simp only [compOp, Option.bind_eq_bind, Option.bind_eq_some_iff] at hc; obtain ⟨d1, h1, d2, h2, hc⟩ := hc; split at hc <;> (first | (cases hc; done) | (simp only [Option.bind_eq_some_iff, Option.pure_def, Option.some.injEq, reduceCtorEq, and_false, exists_false] at hc; done)))
        | (exfalso; simp only [compOp, Option.bind_eq_bind, Option.bind_eq_some_iff] at hc; obtain ⟨d1, h1, hc⟩ := hc; split at hc <;> (first | (cases hc; done) | (simp only [Option.bind_eq_some_iff] at hc; obtain ⟨z, hz, s, hs, i, hi, hc⟩ := hc; split at hc <;> (first | (cases hc; done) | (simp only [Option.bind_eq_some_iff, Option.pure_def, Option.some.injEq, reduceCtorEq, and_false, exists_false] at hc; done)))))
        | (exfalso; simp only [compOp] at hc; split at hc <;> (first | (cases hc; done) | (simp only [Option.bind_eq_bind, Option.bind_eq_some_iff, Option.pure_def, Option.some.injEq, reduceCtorEq, and_false, exists_false] at hc; done)))))
  all_goals (try (first
    | (simp only [compOp, Option.bind_eq_bind, Option.bind_eq_some_iff, Option.pure_def, Option.some.injEq, reduceCtorEq, and_false, exists_false] at hc; done)
    | (exfalso; simp only [compOp, Option.bind_eq_bind, Option.bind_eq_some_iff] at hc; obtain ⟨d1, h1, hc⟩ := hc; split at hc <;> (first | (cases hc; done) | (simp only [Option.bind_eq_some_iff, Option.pure_def, Option.some.injEq, reduceCtorEq, and_false, exists_false] at hc; done)))
    | (exfalso; simp only [compOp, Option.bind_eq_bind, Option.bind_eq_some_iff] at hc; obtain ⟨d1, h1, hc⟩ := hc; split at hc <;> (first | (cases hc; done) | (simp only [Option.bind_eq_some_iff] at hc; obtain ⟨z, hz, s, hs, hc⟩ := hc; split at hc <;> (first | (cases hc; done) | (simp only [Option.bind_eq_some_iff, Option.pure_def, Option.some.injEq, reduceCtorEq, and_false, exists_false] at hc; done)))))
    | (exfalso; simp only [compOp, Option.bind_eq_bind, Option.bind_eq_some_iff] at hc; obtain ⟨d1, h1, d2, h2, hc⟩ := hc; split at hc <;> (first | (cases hc; done) | (simp only [Option.bind_eq_some_iff, Option.pure_def, Option.some.injEq, reduceCtorEq, and_false, exists_false] at hc; done)))
    | (exfalso; simp only [compOp, Option.bind_eq_bind, Option.bind_eq_some_iff] at hc; obtain ⟨d1, h1, hc⟩ := hc; split at hc <;> (first | (cases hc; done) | (simp only [Option.bind_eq_some_iff] at hc; obtain ⟨z, hz, s, hs, i, hi, hc⟩ := hc; split at hc <;> (first | (cases hc; done) | (simp only [Option.bind_eq_some_iff, Option.pure_def, Option.some.injEq, reduceCtorEq, and_false, exists_false] at hc; done)))))
    | (exfalso; simp only [compOp] at hc; split at hc <;> (first | (cases hc; done) | (simp only [Option.bind_eq_bind, Option.bind_eq_some_iff, Option.pure_def, Option.some.injEq, reduceCtorEq, and_false, exists_false] at hc; done)))))
  case unOp u t x => cases u <;> simp only [compOp, Option.bind_eq_bind, Option.bind_eq_some_iff, Option.pure_def, Option.some.injEq, reduceCtorEq, and_false, exists_false] at hc
  case makeFunc g a b => cases g <;> simp only [compOp, Option.bind_eq_bind, Option.bind_eq_some_iff, Option.pure_def, Option.some.injEq, reduceCtorEq, and_false, exists_false] at hc
  case next x b => cases b <;> simp only [compOp, Option.bind_eq_bind, Option.bind_eq_some_iff, Option.pure_def, Option.some.injEq, reduceCtorEq, and_false, exists_false] at hc
  case slice t x lo hi mx =>
    cases mx
    case some => simp only [compOp, reduceCtorEq] at hc
    case none =>
      simp only [compOp, Option.bind_eq_bind, Option.bind_eq_some_iff] at hc
      obtain ⟨d, hd, hc⟩ := hc
      split at hc
      · simp only [Option.bind_eq_some_iff, Option.pure_def, Option.some.injEq, reduceCtorEq, and_false, exists_false] at hc
      · cases hc
  case binOp bop t x y yt =>
    exfalso
    simp only [compOp, Option.bind_eq_bind, Option.bind_eq_some_iff] at hc
    obtain ⟨a, ha, b, hb, d, hd, hc⟩ := hc
    repeat' split at hc
    all_goals simp only [Option.pure_def, Option.some.injEq, reduceCtorEq] at hc
end
end Go.Am
namespace Go.Am
open Go Classical
section
variable {PR : Program} {κ : K} {nt : Nat} {f : T V} {tm : Array Value} {h : H}
def LoudOk (PR : Program) (κ : K) (h : H) (W : World) (h' : H) (v : V) (s : Sem Next) : Prop :=
  ∃ n w W' κ', s.run PR W = .ok n W' ∧ (n = .value w ∨ (n = .skip ∧ w = undef)) ∧ Ex κ h W κ' h' W' ∧ SR PR κ' h' W' ∧ VR κ' v w
theorem setCells_facts (b : Nat) : ∀ (vs : List Value) (o : Nat) (W : World), (W.setCells b o vs).heap.size = W.heap.size ∧ (∀ k, k ≠ b → (W.setCells b o vs).heap[k]? = W.heap[k]?) ∧ (W.setCells b o vs).os = W.os ∧ (W.setCells b o vs).tape = W.tape ∧ (W.setCells b o vs).output = W.output ∧ (∀ L, W.heap[b]? = some (.loop L) → (W.setCells b o vs).heap[b]? = some (.loop L))
  | [], o, W => ⟨rfl, fun _ _ => rfl, rfl, rfl, rfl, fun _ h => h⟩
  | v :: vs, o, W => by
    obtain ⟨h1, h2, h3, h4, h5, h6⟩ := setCells_facts b vs (o + 1) (W.setCell ⟨b, o, none⟩ v)
    refine ⟨by rw [World.setCells, h1]; simp [World.setCell], fun k hk => ?_, h3, h4, h5, fun L hL => h6 L ?_⟩
    · rw [World.setCells, h2 k hk]
      simp only [World.setCell, Array.getElem?_modify]
      rw [if_neg (fun e => hk e.symm)]
    · simp only [World.setCell, Array.getElem?_modify, if_true, hL, Option.map_some]
theorem allOne_sound : ∀ {l : List V} {ys : List Value}, allOne l = true → VRs κ l ys → ∀ y ∈ ys, y.oneCell' = true
  | [], ys, _, h => by rw [List.length_eq_zero_iff.1 h.1.symm]; simp
  | x :: l, [], _, h => by cases h.1
  | x :: l, y :: ys, ha, h => by
    simp only [allOne, Bool.and_eq_true] at ha
    intro z hz
    rcases List.mem_cons.1 hz with rfl | hz
    · have h0 := h.2 0 _ _ rfl rfl
      have ha1 := ha.1
      cases h0 <;> first | rfl | (simp [vone] at ha1)
    · exact allOne_sound ha.2 (by have := h.drop 1; simpa using this) z hz
theorem store_run {W : World} {q : Pl} {off : Nat} {ys : List Value} (hc : ∀ j, j < ys.length → (W.cell? (q.ad (off + j))).isSome = true ∧ W.frozen? (q.ad (off + j)) = false) (h1 : ∀ y ∈ ys, y.oneCell' = true) :
    (storeCells (q.ad off) ys).run PR W = .ok () (W.setCells q.blk (q.base + off) ys) := by
  have := run_storeCells_cells (P := PR) q.blk (q.base + off) ys 0 W (fun j hj => by have := (hc j hj).1; simpa [Pl.ad, Nat.add_assoc] using this) (fun j hj => by have := (hc j hj).2; simpa [Pl.ad, Nat.add_assoc] using this) h1
  simpa [Pl.ad] using this
/-- the cells behind a write -/
theorem cell_after {W : World} {q : Pl} {off : Nat} {ys : List Value} (hc : ∀ j, j < ys.length → (W.cell? (q.ad (off + j))).isSome = true) (i : Nat) : (W.setCells q.blk (q.base + off) ys).cell? (q.ad i) = if off ≤ i ∧ i < off + ys.length then ys[i - off]? else W.cell? (q.ad i) := by
  split
  · rename_i hi
    have := World.cell?_setCells_in q.blk ys (q.base + off) W (fun j hj => by have := hc j hj; simpa [Pl.ad, Nat.add_assoc] using this) (i - off) (by omega)
    rw [show q.ad i = ⟨q.blk, q.base + off + (i - off), none⟩ by simp [Pl.ad]; omega, this, List.getElem?_eq_getElem]
  · rename_i hi
    exact World.cell?_setCells_out q.blk ys (q.base + off) W (q.ad i) (fun _ _ => by simp only [Pl.ad]; omega)
theorem row_after {W : World} {q : Pl} {off : Nat} {vs vs' xc : List V} {ys : List Value} (hob : ObR PR κ W q (.c vs false)) (hp : ∀ i, vs'[i]? = if off ≤ i ∧ i < off + xc.length then xc[i - off]? else vs[i]?) (hl : vs'.length ≤ q.tot) (hx : VRs κ xc ys) (hle : off + xc.length ≤ q.tot) : ObR PR κ (W.setCells q.blk (q.base + off) ys) q (.c vs' false) := by
  obtain ⟨h1, h2⟩ := hob
  obtain ⟨h2a, h2b⟩ := h2 rfl
  have hc : ∀ j, j < ys.length → (W.cell? (q.ad (off + j))).isSome = true := fun j hj => (h2b (off + j) (by have := hx.1; omega)).2
  refine ⟨fun i v hi => ?_, fun _ => ⟨hl, fun i hi => ⟨?_, ?_⟩⟩⟩
  · rw [cell_after hc]
    rw [hp i, hx.1] at hi
    split
    · rename_i hcond
      rw [if_pos hcond] at hi
      exact hx.get hi
    · rename_i hcond
      rw [if_neg hcond] at hi
      exact h1 i v hi
  · rw [World.frozen?_setCells]; exact (h2b i hi).1
  · rw [cell_after hc]
    split
    · rename_i hcond
      rw [List.getElem?_eq_getElem (by omega)]
      rfl
    · exact (h2b i hi).2
theorem rowObj {W : World} (hs : SR PR κ h W) {o : P} {q : Pl} (hq : κ o = some q) {vs : List V} {ro : Bool} (hx : h.get o = some (.c vs ro)) : T.get o h.objs = some (.c vs ro) ∧ ObR PR κ W q (.c vs ro) := by
  obtain ⟨x, hx', hob, _⟩ := hs.obj o q hq
  have : some x = some (.c vs ro) := hx'.symm.trans hx
  cases this
  exact ⟨hx', hob⟩
theorem store_sound {W : World} (hs : SR PR κ h W) {o : P} {q : Pl} (hq : κ o = some q) {vs vs' xc : List V} (hx : h.get o = some (.c vs false)) {off : Nat} (hp : putN off xc vs = some vs') {ys : List Value} (hv : VRs κ xc ys) (h1 : allOne xc = true) :
    (storeCells (q.ad off) ys).run PR W = .ok () (W.setCells q.blk (q.base + off) ys) ∧ SR PR κ (h.set o (.c vs' false)) (W.setCells q.blk (q.base + off) ys) ∧ Ex κ h W κ (h.set o (.c vs' false)) (W.setCells q.blk (q.base + off) ys) := by
  obtain ⟨hx', hob⟩ := rowObj hs hq hx
  obtain ⟨p1, p2, p3⟩ := putN_some hp
  obtain ⟨h2a, h2b⟩ := hob.2 rfl
  have hlen : xc.length = ys.length := hv.1
  refine ⟨store_run (fun j hj => ⟨(h2b (off + j) (by omega)).2, (h2b (off + j) (by omega)).1⟩) (allOne_sound h1 hv), ?_⟩
  obtain ⟨f1, f2, f3, f4, f5, f6⟩ := setCells_facts q.blk ys (q.base + off) W
  exact SR.put hs hq hx' rfl f2 f1 f3 f4 f5 (fun L hL => ⟨L, f6 L hL⟩) (row_after hob p3 (by omega) hv (by omega)) (fun vs e => by cases e) (fun a => World.frozen?_setCells ..)
theorem l_store (hT : TR κ nt f tm) (dst : Option Tmp) (ty : TypeId) (pos : String) (after : Array Edge) (guard : Option (Nat × Bool)) {cf : CF} {W : World} (hs : SR PR κ h W) {v : V} {h' : H} {t : TypeId} {n : Nat} {a x : Operand} {a' x' : A} (ht : szOf PR t = some n) (ha : co PR a = some a') (hx : co PR x = some x') (hv : evL cf f h (.store n a' x') = some (v, h')) : LoudOk PR κ h W h' v (execOp (evl tm) ⟨dst, .store t a x, ty, pos, after, guard⟩) := by
  have h1 := co_sound hs.gl hT ha
  have h2 := co_sound hs.gl hT hx
  simp only [evL] at hv
  split at hv
  case h_2 => cases hv
  rename_i o off e
  rw [e] at h1
  obtain ⟨q, hq, hw⟩ := h1.ptr
  split at hv
  case h_2 => cases hv
  rename_i vs ro hob
  split at hv
  · cases hv
  rename_i hro
  have hro : ro = false := by simpa using hro
  subst hro
  split at hv
  case h_2 => cases hv
  rename_i xc hxc
  split at hv
  case isFalse => cases hv
  rename_i hcond
  simp only [Bool.and_eq_true, beq_iff_eq, decide_eq_true_eq] at hcond
  obtain ⟨hln, hone⟩ := hcond
  split at hv
  case h_2 => cases hv
  rename_i vs' hp
  cases hv
  have hvs := vcells_sound h2 hxc
  obtain ⟨r1, r2, r3⟩ := store_sound hs hq hob hp hvs hone
  refine ⟨.skip, undef, _, κ, ?_, .inr ⟨rfl, rfl⟩, r3, r2, .u _⟩
  have hsz : (evl tm x).cells.size = n := by rw [← hln, hvs.1]; simp
  simp [execOp, Instr.storeAt, hw, Instr.sureAddr, storeVar, szOf_run ht, hsz, r1, Result.andThen]
/-! ### maps -/
theorem setE_get (x : V × V × Nat) : ∀ (n : Nat) (es : List (V × V × Nat)) (i : Nat), (setE x n es)[i]? = if i = n ∧ n < es.length then some x else es[i]?
  | n, [], i => by simp [setE]
  | 0, y :: r, i => by cases i <;> simp [setE]
  | n + 1, y :: r, i => by
    cases i with
    | zero => simp [setE]
    | succ i => simp only [setE, List.getElem?_cons_succ, setE_get x n r i, List.length_cons]; congr 1; simp
theorem setE_len (x : V × V × Nat) : ∀ (n : Nat) (es : List (V × V × Nat)), (setE x n es).length = es.length
  | n, [] => by simp [setE]
  | 0, y :: r => by simp [setE]
  | n + 1, y :: r => by simp [setE, setE_len x n r]
theorem eraseE_eq : ∀ (n : Nat) (es : List (V × V × Nat)), eraseE n es = es.eraseIdx n
  | n, [] => by simp [eraseE]
  | 0, y :: r => by simp [eraseE]
  | n + 1, y :: r => by simp [eraseE, eraseE_eq n r]
def putObj (W : World) (b : Nat) (x : Go.Obj) : World := { W with heap := W.heap.setIfInBounds b x }
theorem setObj_run {W : World} {b : Nat} {y x : Go.Obj} (hb : W.heap[b]? = some y) (hn : ∀ c e z, y ≠ .cells c e z) : (setObj b x).run PR W = .ok () (putObj W b x) := by
  cases y <;> simp_all [setObj, Sem.run, putObj]
theorem putObj_same {W : World} {b : Nat} {x : Go.Obj} (hb : b < W.heap.size) : (putObj W b x).heap[b]? = some x := by simp [putObj, hb]
theorem putObj_other {W : World} {b k : Nat} {x : Go.Obj} (hk : k ≠ b) : (putObj W b x).heap[k]? = W.heap[k]? := by
  simp only [putObj, Array.getElem?_setIfInBounds]
  rw [if_neg (fun e => hk e.symm)]
theorem frozen_not {W : World} {a : Addr} (h : ∀ c t fr, W.heap[a.block]? ≠ some (.cells c t fr)) : W.frozen? a = false := by
  unfold World.frozen?
  split
  · rename_i e; exact absurd e (h _ _ _)
  · rfl
theorem frozen_putObj {W : World} {D : Nat} {ob : Go.Obj} (h1 : ∀ c t fr, W.heap[D]? ≠ some (.cells c t fr)) (h2 : ∀ c t fr, ob ≠ .cells c t fr) (a : Addr) : (putObj W D ob).frozen? a = W.frozen? a := by
  by_cases hb : a.block = D
  · rw [frozen_not (W := W) (by rw [hb]; exact h1), frozen_not]
    intro c t fr e
    simp only [putObj, Array.getElem?_setIfInBounds] at e
    rw [if_pos hb.symm] at e
    split at e
    · exact h2 c t fr (Option.some.inj e)
    · cases e
  · have : (putObj W D ob).heap[a.block]? = W.heap[a.block]? := by
      simp only [putObj, Array.getElem?_setIfInBounds]
      rw [if_neg (fun e => hb e.symm)]
    simp only [World.frozen?, this]
theorem map_put {W : World} (hs : SR PR κ h W) {o : P} {q : Pl} (hq : κ o = some q) {es es2 : List (V × V × Nat)} {clock clock2 : Nat} (hx : h.get o = some (.m es clock)) {es2' : Array MapEntry} (hE : ER κ es2 es2'.toList) :
    SR PR κ (h.set o (.m es2 clock2)) (putObj W q.blk (.map es2' clock2)) ∧ Ex κ h W κ (h.set o (.m es2 clock2)) (putObj W q.blk (.map es2' clock2)) := by
  obtain ⟨es', hes, _⟩ := mapObj hs hq hx
  have hlt := (Array.getElem?_eq_some_iff.1 hes).1
  exact SR.put hs hq hx rfl (fun k hk => putObj_other hk) (by simp [putObj]) rfl rfl rfl (fun L hL => by rw [hes] at hL; cases hL) ⟨es2', putObj_same hlt, hE⟩ (fun vs e => by cases e) (frozen_putObj (fun c t fr e => by rw [hes] at e; cases e) (fun c t fr e => by cases e))
theorem ER_len {κ : K} {es : List (V × V × Nat)} {es' : Array MapEntry} (hE : ER κ es es'.toList) : es.length = es'.size := by rw [hE.1]; simp
/-- behind a key that was found -/
theorem found_entry {kt : TypeId} {kk : KK} {k : V} {kv : Value} (hkv : VR κ k kv) {es : List (V × V × Nat)} {es' : Array MapEntry} (hE : ER κ es es'.toList) {i : Nat} {v : V} {bn : Nat} (hf : findE kk k es 0 = some (some (i, v, bn))) : ∃ e', es'[i]? = some e' ∧ e'.key = kv ∧ e'.born = bn ∧ i < es.length := by
  obtain ⟨_, k', he, hk⟩ := findE_at hf
  rw [Nat.sub_zero] at he
  have hi := (List.getElem?_eq_some_iff.1 he).1
  have hi' : i < es'.size := by rw [← ER_len hE]; exact hi
  have he' : es'.toList[i]? = some es'[i] := by simp [hi']
  obtain ⟨g1, _, g3⟩ := hE.2 i _ _ he he'
  exact ⟨es'[i], by simp [hi'], (vkey_eq hk hkv g1).symm, g3.symm, hi⟩
theorem sameBits_key {kt : TypeId} {kk : KK} {k : V} {kv : Value} (hkv : VR κ k kv) (hok : keyOk kk k = true) : Instr.sameBits 10000 kv kv = true := by
  cases kk <;> cases k <;> simp only [keyOk, Bool.false_eq_true] at hok
  · rw [hkv.int]; simp [Instr.sameBits]
  · obtain ⟨y, rfl, _⟩ := hkv.str
    simp only [Instr.sameBits]
    rw [beq_toListBytes]; simp
  · rename_i xs
    obtain ⟨ys, rfl, hx⟩ := hkv.agg
    simp only [Bool.and_eq_true] at hok
    have hall := allI_sound hok.2 hx
    show Instr.sameBits (9999 + 1) (.agg ys.toArray) (.agg ys.toArray) = true
    simp only [Instr.sameBits, beq_self_eq_true, Bool.true_and, List.all_eq_true]
    intro p hp
    obtain ⟨i, hi, e⟩ := List.getElem_of_mem hp
    rw [List.getElem_zip] at e
    rw [← e]
    simp only [List.length_zip, Nat.min_self] at hi
    obtain ⟨q, m, hqm⟩ := hall _ (List.getElem_mem hi)
    simp only [hqm]
    simp [Instr.sameBits]
theorem mapUpdate_sound (hT : TR κ nt f tm) {cf : CF} {W : World} (hs : SR PR κ h W) {v : V} {h' : H} {t kt et : TypeId} {kk : KK} {m k x : Operand} {m' k' x' : A} (ht : PR.underlying t = some (.map kt et)) (hkk : keyKind PR kt = some kk) (hm : co PR m = some m') (hk : co PR k = some k') (hx : co PR x = some x') (hv : evL cf f h (.mupd kk m' k' x') = some (v, h')) :
    ∃ W', (Instr.mapUpdate t (evl tm m) (evl tm k) (evl tm x)).run PR W = .ok () W' ∧ Ex κ h W κ h' W' ∧ SR PR κ h' W' ∧ v = .u := by
  have h1 := co_sound hs.gl hT hm
  have h2 := co_sound hs.gl hT hk
  have h3 := co_sound hs.gl hT hx
  simp only [evL] at hv
  split at hv
  case isFalse => cases hv
  rename_i hok
  split at hv
  case h_2 => cases hv
  rename_i o e
  rw [e] at h1
  obtain ⟨q, hq, hw⟩ := h1.mapv
  split at hv
  case h_2 => cases hv
  rename_i es clock hob
  obtain ⟨es', hes, hE⟩ := mapObj hs hq hob
  have hgo := getObj_run (PR := PR) hes (by simp)
  have hck := checkKey_run hkk h2 hok false W
  split at hv
  · rename_i i u bn hf
    cases hv
    obtain ⟨r', hr, hfr⟩ := findKey_run hkk h2 hok hE hf W
    cases r' with
    | none => exact hfr.elim
    | some p =>
      obtain ⟨j, w⟩ := p
      obtain ⟨rfl, _⟩ := hfr
      obtain ⟨e', he', hkey, hborn, hi⟩ := found_entry (kt := kt) h2 hE hf
      have hst : (Instr.keyThatStays (((es'[i]?).map (·.key)).getD (evl tm k)) (evl tm k)).run PR W = .ok (evl tm k) W := by
        rw [he']
        simp only [Option.map_some, Option.getD_some, hkey]
        simp [Instr.keyThatStays, sameBits_key (kt := kt) h2 hok]
      have hE2 : ER κ (setE (k'.ev f, x'.ev f, bn) i es) (es'.modify i fun e => { e with key := evl tm k, val := evl tm x }).toList := by
        refine ⟨by rw [setE_len, ER_len hE]; simp, fun n a b ha hb => ?_⟩
        rw [setE_get] at ha
        rw [Array.getElem?_toList, Array.getElem?_modify] at hb
        split at ha
        · rename_i hn
          obtain ⟨rfl, _⟩ := hn
          cases ha
          rw [if_pos rfl, he'] at hb
          cases hb
          exact ⟨h2, h3, hborn.symm⟩
        · rename_i hn
          rw [if_neg (fun hin => hn ⟨hin.symm, hi⟩)] at hb
          exact hE.2 n a b ha (by rw [Array.getElem?_toList]; exact hb)
      obtain ⟨r1, r2⟩ := map_put (clock2 := clock) hs hq hob hE2
      refine ⟨_, ?_, r2, r1, rfl⟩
      have hso := setObj_run (PR := PR) (x := .map (es'.modify i fun e => { e with key := evl tm k, val := evl tm x }) clock) hes (by simp)
      simp [hw, Instr.mapUpdate, run_underlying ht, hgo, hck, hr, hst, hso, Result.andThen]
  · rename_i hf
    cases hv
    obtain ⟨r', hr, hfr⟩ := findKey_run hkk h2 hok hE hf W
    cases r' with
    | some p => exact hfr.elim
    | none =>
      have hE2 : ER κ (es ++ [(k'.ev f, x'.ev f, clock)]) (es'.push { key := evl tm k, val := evl tm x, born := clock }).toList := by
        rw [Array.toList_push]
        refine ⟨by simp [hE.1], fun n a b ha hb => ?_⟩
        by_cases hn : n < es.length
        · rw [List.getElem?_append_left hn] at ha
          rw [List.getElem?_append_left (by rw [← hE.1]; exact hn)] at hb
          exact hE.2 n a b ha hb
        · rw [List.getElem?_append_right (by omega)] at ha
          rw [List.getElem?_append_right (by have := hE.1; omega), ← hE.1] at hb
          cases hd : n - es.length with
          | zero => rw [hd] at ha hb; cases ha; cases hb; exact ⟨h2, h3, rfl⟩
          | succ d => rw [hd] at ha; simp at ha
      obtain ⟨r1, r2⟩ := map_put (clock2 := clock + 1) hs hq hob hE2
      refine ⟨_, ?_, r2, r1, rfl⟩
      have hso := setObj_run (PR := PR) (x := .map (es'.push { key := evl tm k, val := evl tm x, born := clock }) (clock + 1)) hes (by simp)
      simp [hw, Instr.mapUpdate, run_underlying ht, hgo, hck, hr, hso, Result.andThen]
  · cases hv
end
end Go.Am
namespace Go.Am
open Go Classical
section
variable {PR : Program} {κ : K} {nt : Nat} {f : T V} {tm : Array Value} {h : H}
theorem growBy_le (m : Nat) : ∀ r c, Builtin.growBy m r c ≤ max c (2 * m + 768)
  | 0, c => by simp only [Builtin.growBy]; omega
  | r + 1, c => by
    simp only [Builtin.growBy]
    split
    · omega
    · have := growBy_le m r (c + (c + 768) / 4)
      omega
theorem nextcap_le {m c : Nat} (h : c < m) : Builtin.nextslicecap m c ≤ 2 * m + 768 := by
  unfold Builtin.nextslicecap
  split
  · omega
  · split
    · omega
    · have := growBy_le m 4 c; omega
/-- the elements of what is appended, or of what is appended to -/
theorem elems_sound {W : World} (hs : SR PR κ h W) {esz : Nat} {x : V} {w : Value} (hx : VR κ x w) {n : Nat} {xc : List V} (he : elems h esz x = some (n, xc)) :
    ∃ ys : List Value, VRs κ xc ys ∧ (Builtin.lenOf w).run PR W = .ok n W ∧ (Builtin.firstCells esz n w).run PR W = .ok ys.toArray W ∧ ys.length = n * esz := by
  cases x with
  | sn =>
    simp only [elems] at he; cases he
    have hw : w = .slice none 0 0 := by cases hx; rfl
    subst hw
    exact ⟨[], .nil κ, rfl, rfl, by simp⟩
  | sl o off len cap =>
    simp only [elems] at he
    split at he
    · rename_i l hl
      cases he
      obtain ⟨q, ad, c, hq, rfl, hle, ha, _, _⟩ := hx.slI
      obtain ⟨cs, hcl, hcc, hcv⟩ := ldN_sound hs hq hl
      refine ⟨cs, hcv, rfl, ?_, hcl⟩
      show (loadCells ad (n * esz)).run PR W = .ok cs.toArray W
      by_cases h0 : n * esz = 0
      · rw [h0] at hcl ⊢
        have : cs = [] := List.length_eq_zero_iff.1 hcl
        subst this
        rfl
      · have hn : n ≠ 0 := fun e => h0 (by rw [e]; simp)
        have ha' : ad = q.ad off := ha.resolve_left (by omega)
        subst ha'
        have hr := run_loadCells_list (P := PR) W (q.ad off) cs hcc
        rw [hcl] at hr
        exact hr
    · cases he
  | _ => simp [elems] at he
theorem zeroCells_size (z : Array Value) (n : Nat) : (Builtin.zeroCells z n).size = n * z.size := by simp [Builtin.zeroCells]
/-- the row that an append makes -/
theorem realloc_sound {W : World} (hs : SR PR κ h W) {e : TypeId} {l : List V} {old new rest : Array Value} (hl : VRs κ l (old.toList ++ new.toList)) {need cap esz : Nat} (hlen : l.length = need * esz) (hrest : rest.size = (cap - need) * esz) (hc : need ≤ cap) (d : Nat) :
    ∃ κ', SR PR κ' (h.new (.c l false)) { W with drawn := d, heap := W.heap.push (.cells (old ++ new ++ rest) e) } ∧ Ex κ h W κ' (h.new (.c l false)) { W with drawn := d, heap := W.heap.push (.cells (old ++ new ++ rest) e) } ∧ VR κ' (.sl h.next 0 need (.op esz)) (.slice (some ⟨W.heap.size, 0, none⟩) need cap) := by
  obtain ⟨s1, e1⟩ := hs.draw d
  have hsz : (old ++ new ++ rest).size = cap * esz := by
    have h1 : old.size + new.size = need * esz := by rw [← hlen, hl.1]; simp
    have h2 : cap * esz = need * esz + (cap - need) * esz := by rw [← Nat.add_mul]; congr 1; omega
    simp only [Array.size_append]; omega
  have hob : ∀ κ', K.le κ κ' → ObR PR κ' { W with drawn := d, heap := W.heap.push (.cells (old ++ new ++ rest) e) } ⟨W.heap.size, 0, cap * esz⟩ (.c l false) := by
    intro κ' hk
    have hW : ({ W with drawn := d, heap := W.heap.push (.cells (old ++ new ++ rest) e) } : World).heap[W.heap.size]? = some (.cells (old ++ new ++ rest) e) := by simp
    have hcell : ∀ i, ({ W with drawn := d, heap := W.heap.push (.cells (old ++ new ++ rest) e) } : World).cell? ((⟨W.heap.size, 0, cap * esz⟩ : Pl).ad i) = (old ++ new ++ rest)[i]? := fun i => by
      simp only [World.cell?, Pl.ad, hW]; simp
    refine ⟨fun i v hi => ?_, fun _ => ⟨?_, fun i hi => ⟨by simp only [World.frozen?, Pl.ad, hW]; simp, ?_⟩⟩⟩
    · obtain ⟨w, hw, hvr⟩ := hl.get hi
      refine ⟨w, ?_, hvr.mono hk⟩
      rw [hcell]
      have hlt : i < (old ++ new).size := by have := (List.getElem?_eq_some_iff.1 hw).1; simpa using this
      rw [Array.getElem?_append_left hlt, ← hw]
      simp [← Array.getElem?_toList]
    · dsimp only; rw [hlen]; exact Nat.mul_le_mul_right _ hc
    · rw [hcell]
      dsimp only at hi
      rw [← hsz] at hi
      simp only [Array.getElem?_eq_getElem hi, Option.isSome_some]
  obtain ⟨s2, e2⟩ := SR.new s1 (.cells (old ++ new ++ rest) e) (.c l false) (cap * esz) (W' := { W with drawn := d, heap := W.heap.push (.cells (old ++ new ++ rest) e) }) rfl (hob _ (s1.le_upd _)) (by intro _ _ _ e; cases e <;> rfl)
  refine ⟨_, s2, e1.trans e2, ?_⟩
  exact .slo _ ⟨W.heap.size, 0, cap * esz⟩ 0 need cap esz _ (K.upd_same _ _ _) hc (.inr rfl) (by simp)
theorem appOk_spec {e : TypeId} {s : Nat} (h : appOk PR e = some s) : ∃ z i, zeroOf PR e = some z ∧ szOf PR e = some s ∧ PR.info? e = some i ∧ z.length = s ∧ i.bytes ≤ 1000000 := by
  unfold appOk at h
  split at h
  · rename_i z s' i hz hs hi
    split at h
    · rename_i hc
      cases h
      exact ⟨z, i, hz, hs, hi, hc.1, hc.2⟩
    · cases h
  · cases h
/-- the run of an append -/
theorem append_run {W : World} {sT xT e : TypeId} {ts : Array TypeId} {ty : TypeId} {args : Array Value} {s x : Value} {base : Option Addr} {sLen sCap esz n : Nat} {new : Array Value} (h0 : ts[0]? = some sT) (h1 : ts[1]? = some xT) (ha0 : args[0]? = some s) (ha1 : args[1]? = some x) (hu : PR.underlying sT = some (.slice e)) {e2 : TypeId} (hu2 : PR.underlying xT = some (.slice e2)) (hs : s = .slice base sLen sCap) (hsz : szOf PR e = some esz) (hn : (Builtin.lenOf x).run PR W = .ok n W) (hf : (Builtin.firstCells esz n x).run PR W = .ok new W) :
    (sLen + n ≤ sCap → ∀ W', (match base with | some a => storeCells (a.add (sLen * esz)) new.toList | none => pure ()).run PR W = .ok () W' → (Builtin.append_ ts ty args).run PR W = .ok (.slice base (sLen + n) sCap) W') ∧
    (¬ sLen + n ≤ sCap → ∀ (i : TypeInfo) (z : Value) (old : Array Value), sLen + n ≤ 1000000 → PR.info? e = some i → i.bytes ≤ 1000000 → i.zero = some z → (∀ d, (Builtin.firstCells esz sLen s).run PR { W with drawn := d } = .ok old { W with drawn := d }) → (∀ d, (Builtin.firstCells esz n x).run PR { W with drawn := d } = .ok new { W with drawn := d }) →
      ∃ cap d, sLen + n ≤ cap ∧ (Builtin.append_ ts ty args).run PR W = .ok (.slice (some ⟨W.heap.size, 0, none⟩) (sLen + n) cap) { W with drawn := d, heap := W.heap.push (.cells (old ++ new ++ Builtin.zeroCells z.cells (cap - (sLen + n))) e) }) := by
  subst hs
  refine ⟨fun hle W' hst => ?_, fun hgt i z old hb hi hib hz hold hnew => ?_⟩
  · unfold Builtin.append_
    simp only [h0, ha0, ha1, h1, Sem.run_bind, run_underlying hu, Result.andThen_ok, szOf_run hsz, run_underlying hu2, Sem.run_pure, Bool.false_eq_true, if_false, hn, hle, if_true, Bool.not_false, hf]
    cases base <;> simp_all
  · have hti : ∀ W : World, (typeInfo e).run PR W = .ok i W := fun W => by simp [typeInfo, hi, Result.andThen, go_sem]
    have hzr : ∀ W : World, (zeroValue e).run PR W = .ok z W := fun W => by simp [zeroValue, typeInfo, hi, hz, Result.andThen, go_sem]
    have hask : ∀ (n : Nat) (W : World), (askRoom n).run PR W = .ok () W := fun n W => by unfold askRoom; split <;> simp [mark, Sem.run]
    have hlim : ¬ (Builtin.nextslicecap (sLen + n) sCap * i.bytes > 2 ^ 48) := by
      have := nextcap_le (m := sLen + n) (c := sCap) (by omega)
      have : Builtin.nextslicecap (sLen + n) sCap * i.bytes ≤ 2000768 * 1000000 := Nat.mul_le_mul (by omega) hib
      have hp : (2 : Nat) ^ 48 = 281474976710656 := by decide
      omega
    have hover : ¬ (((sLen + n : Nat) : Int) > IntKind.i64.max ∧ (False ∨ i.bytes = 0)) := by
      have : IntKind.i64.max = 9223372036854775807 := by decide
      omega
    have hask2 : (choose (.appendCap (sLen + n) sCap e)).run PR W = .ok ((Question.appendCap (sLen + n) sCap e).cut (W.tape W.drawn (.appendCap (sLen + n) sCap e))) { W with drawn := W.drawn + 1 } := by
      simp [choose, Sem.run, Question.forced]
    refine ⟨(Question.appendCap (sLen + n) sCap e).cut (W.tape W.drawn (.appendCap (sLen + n) sCap e)), W.drawn + 1, by simp only [Question.cut]; omega, ?_⟩
    unfold Builtin.append_
    simp only [h0, ha0, ha1, h1, Sem.run_bind, run_underlying hu, Result.andThen_ok, szOf_run hsz, run_underlying hu2, Sem.run_pure, Bool.false_eq_true, if_false, hn, hgt, Bool.not_false, if_true, hti, hover, hlim, hask2, hask, hold, hnew, hzr, newRow, newObj, Sem.run]
theorem firstCells_drawn {W : World} {esz n : Nat} {x : Value} {new : Array Value} (h : (Builtin.firstCells esz n x).run PR W = .ok new W) (d : Nat) : (Builtin.firstCells esz n x).run PR { W with drawn := d } = .ok new { W with drawn := d } := by
  have key : ∀ (a : Addr) (k i : Nat) (acc r : Array Value), (loadCellsFrom a i k acc).run PR W = .ok r W → (loadCellsFrom a i k acc).run PR { W with drawn := d } = .ok r { W with drawn := d } := by
    intro a k
    induction k with
    | zero => intro i acc r h; simp only [loadCellsFrom, Sem.run_pure] at h ⊢; cases h; rfl
    | succ k ih =>
      intro i acc r h
      simp only [loadCellsFrom, Sem.run_bind, load, Sem.run] at h ⊢
      have hc : ({ W with drawn := d } : World).cell? (a.add i) = W.cell? (a.add i) := rfl
      rw [hc]
      cases hcell : W.cell? (a.add i) with
      | some v =>
        rw [hcell] at h
        simp only [Result.andThen_ok] at h ⊢
        exact ih _ _ _ h
      | none =>
        rw [hcell] at h
        dsimp only at h ⊢
        have hf : ({ W with drawn := d } : World).farLoad PR (a.add i) (Mode.plain == Mode.atomic) = W.farLoad PR (a.add i) (Mode.plain == Mode.atomic) := rfl
        rw [hf]
        cases hfl : W.farLoad PR (a.add i) (Mode.plain == Mode.atomic) with
        | ok p => rw [hfl] at h; simp only [Result.andThen_ok] at h ⊢; exact ih _ _ _ h
        | error e => rw [hfl] at h; cases h
  cases x with
  | slice a l c =>
    cases a with
    | none => simp only [Builtin.firstCells, Sem.run_pure] at h ⊢; cases h; rfl
    | some a => exact key a _ 0 #[] new h
  | string s => simp only [Builtin.firstCells, Sem.run_pure] at h ⊢; cases h; rfl
  | _ => cases h
theorem SR.kill {W : World} (hs : SR PR κ h W) {o : P} {q : Pl} {x0 : Obj} (e : κ o = some q) (h0 : T.get o h.objs = some x0) (hown : x0.own = true) : SR PR κ (h.set o .dead) W ∧ Ex κ h W κ (h.set o .dead) W :=
  SR.put hs e h0 hown (fun _ _ => rfl) rfl rfl rfl rfl (fun L h => ⟨L, h⟩) trivial (fun vs e => by cases e) (fun _ => rfl)
theorem l_app (hT : TR κ nt f tm) (dst : Option Tmp) (ty : TypeId) (pos : String) (after : Array Edge) (guard : Option (Nat × Bool)) {cf : CF} {W : World} (hs : SR PR κ h W) {v : V} {h' : H} {ts : Array TypeId} {xs : Array Operand} {sT xT e e2 : TypeId} {esz : Nat} {s x : Operand} {s' x' : A} (h0 : ts[0]? = some sT) (h1 : ts[1]? = some xT) (hu : PR.underlying sT = some (.slice e)) (hu2 : PR.underlying xT = some (.slice e2)) (hok : appOk PR e = some esz) (hx0 : xs[0]? = some s) (hx1 : xs[1]? = some x) (ha : co PR s = some s') (hx : co PR x = some x') (hv : evL cf f h (.app esz s' x') = some (v, h')) : LoudOk PR κ h W h' v (execOp (evl tm) ⟨dst, .call ⟨.builtin .append, xs, ts⟩, ty, pos, after, guard⟩) := by
  have hsv := co_sound hs.gl hT ha
  have hxv := co_sound hs.gl hT hx
  obtain ⟨zs, i, hz, hsz, hi, hzl, hib⟩ := appOk_spec hok
  have hzero : ∃ z, i.zero = some z ∧ z.cells.size = esz := by
    unfold zeroOf at hz
    simp only [Option.bind_eq_bind, Option.bind_eq_some_iff] at hz
    obtain ⟨i', hi', z, hzz, y, hy, hc⟩ := hz
    rw [hi] at hi'; cases hi'
    have := (vcells_sound (κ := κ) (cv_sound hy) hc).1
    exact ⟨z, hzz, by rw [← hzl, this]; simp⟩
  obtain ⟨z, hzz, hzs⟩ := hzero
  simp only [evL] at hv
  split at hv
  case h_2 => cases hv
  rename_i n xc hel
  obtain ⟨ys, hys, hlen, hfc, hyl⟩ := elems_sound hs hxv hel
  have fin : ∀ (w : Value) (W' : World) (κ' : K), (Builtin.append_ ts ty (xs.map (evl tm))).run PR W = .ok w W' → Ex κ h W κ' h' W' → SR PR κ' h' W' → VR κ' v w → LoudOk PR κ h W h' v (execOp (evl tm) ⟨dst, .call ⟨.builtin .append, xs, ts⟩, ty, pos, after, guard⟩) := by
    intro w W' κ' hr hE hS hV
    refine ⟨.value w, w, W', κ', ?_, .inl rfl, hE, hS, hV⟩
    rw [exec_bi, b_append]
    simp [hr, Result.andThen]
  have hargs0 : (xs.map (evl tm))[0]? = some (evl tm s) := by simp [hx0]
  have hargs1 : (xs.map (evl tm))[1]? = some (evl tm x) := by simp [hx1]
  have run := fun (base : Option Addr) (sLen sCap : Nat) (hw : evl tm s = .slice base sLen sCap) => append_run (PR := PR) (W := W) (ty := ty) (args := xs.map (evl tm)) h0 h1 hargs0 hargs1 hu hu2 hw hsz hlen hfc
  -- the row is made anew
  have anew : ∀ (base : Option Addr) (sLen sCap : Nat) (l : List V) (old : List Value) (h1 : H), evl tm s = .slice base sLen sCap → ¬ sLen + n ≤ sCap → sLen + n ≤ 1000000 → SR PR κ h1 W → Ex κ h W κ h1 W → VRs κ l old → l.length = sLen * esz → (Builtin.firstCells esz sLen (evl tm s)).run PR W = .ok old.toArray W → v = .sl h1.next 0 (sLen + n) (.op esz) → h' = h1.new (.c (l ++ xc) false) → LoudOk PR κ h W h' v (execOp (evl tm) ⟨dst, .call ⟨.builtin .append, xs, ts⟩, ty, pos, after, guard⟩) := by
    intro base sLen sCap l old h1 hw hgt hb hs1 hE1 hl hll hfo hv1 hh1
    obtain ⟨cap, d, hcap, hr⟩ := (run base sLen sCap hw).2 hgt i z old.toArray hb hi hib hzz (fun d => firstCells_drawn hfo d) (fun d => firstCells_drawn hfc d)
    have hxl : xc.length = n * esz := by rw [hys.1, hyl]
    obtain ⟨κ', g1, g2, g3⟩ := realloc_sound hs1 (e := e) (l := l ++ xc) (old := old.toArray) (new := ys.toArray) (rest := Builtin.zeroCells z.cells (cap - (sLen + n))) (need := sLen + n) (cap := cap) (esz := esz) (by simpa using hl.app hys) (by simp [hll, hxl, Nat.add_mul]) (by rw [zeroCells_size, hzs]) hcap d
    refine fin _ _ κ' hr ?_ ?_ ?_
    · rw [hh1]; exact hE1.trans g2
    · rw [hh1]; exact g1
    · rw [hv1]; exact g3
  unfold appendTo at hv
  split at hv
  · -- nothing to append
    rename_i hn0
    subst hn0
    have hxc : ys = [] := List.length_eq_zero_iff.1 (by rw [hyl]; simp)
    subst hxc
    have hsl : ∃ base sLen sCap, evl tm s = .slice base sLen sCap ∧ sLen ≤ sCap ∧ v = s'.ev f ∧ h' = h := by
      split at hv
      · rename_i e1
        cases hv
        rw [e1] at hsv
        have hw : evl tm s = .slice none 0 0 := by generalize evl tm s = w at *; cases hsv; rfl
        exact ⟨_, _, _, hw, Nat.le_refl _, rfl, rfl⟩
      · rename_i o off len cap e1
        cases hv
        rw [e1] at hsv
        obtain ⟨q, ad, c, hq, hw, hle, _⟩ := hsv.slI
        exact ⟨_, _, _, hw, hle, rfl, rfl⟩
      · cases hv
    obtain ⟨base, sLen, sCap, hw, hle, rfl, rfl⟩ := hsl
    have hr := (run base sLen sCap hw).1 (by omega) W (by cases base <;> rfl)
    exact fin _ _ κ hr (Ex.refl _ _ _) hs (by rw [hw] at hsv; exact hsv)
  · rename_i hn0
    split at hv
    · -- a nil slice
      rename_i e1
      rw [e1] at hsv
      split at hv
      · rename_i hbn
        cases hv
        have hw : evl tm s = .slice none 0 0 := by generalize evl tm s = w at *; cases hsv; rfl
        refine anew none 0 0 [] [] h hw (by omega) (by omega) hs (Ex.refl _ _ _) (.nil κ) (by simp) (by rw [hw]; rfl) (by simp) (by simp)
      · cases hv
    · rename_i o off len cap e1
      rw [e1] at hsv
      split at hv
      · cases hv
      rename_i hbig
      split at hv
      case h_2 => cases hv
      rename_i vs ro hob
      obtain ⟨q, ad, c, hq, hw, hle, had, hk, hop⟩ := hsv.slI
      obtain ⟨hx', hrow⟩ := rowObj hs hq hob
      have holdc : ∀ l, takeN (len * esz) (dropN off vs) = some l → ∃ old : List Value, VRs κ l old ∧ l.length = len * esz ∧ (Builtin.firstCells esz len (evl tm s)).run PR W = .ok old.toArray W := by
        intro l hl
        obtain ⟨old, ho1, _, ho2, ho3⟩ := elems_sound hs (x := .sl o off len cap) (w := evl tm s) hsv (n := len) (xc := l) (esz := esz) (by simp only [elems, ldN]; rw [hob]; simp [hl])
        have ho2 : (Builtin.firstCells esz len (evl tm s)).run PR W = .ok old.toArray W := ho2
        exact ⟨old, ho1, by rw [ho1.1, ho3], ho2⟩
      cases cap with
      | any => cases hv
      | k c' =>
        obtain ⟨rfl, rfl⟩ := hk c' rfl
        dsimp only at hv
        split at hv
        · rename_i hfit
          split at hv
          · cases hv
          rename_i hcond
          have hro : ro = false := by cases ro <;> simp_all
          have hone : allOne xc = true := by cases ho : allOne xc <;> simp_all
          subst hro
          split at hv
          case h_2 => cases hv
          rename_i vs' hp
          cases hv
          obtain ⟨r1, r2, r3⟩ := store_sound hs hq hob hp hys hone
          have hr := (run (some (q.ad off)) len c hw).1 hfit _ (by show (storeCells ((q.ad off).add (len * esz)) ys).run PR W = _; rw [ad_add]; exact r1)
          exact fin _ _ κ hr r3 r2 (.slc _ _ _ _ _ hq hfit)
        · rename_i hfit
          split at hv
          case h_2 => cases hv
          rename_i l hl
          cases hfr : takeN (len * esz) (dropN off vs) with
          | none => rw [hfr] at hl; cases hl
          | some l0 =>
            rw [hfr] at hl; cases hl
            cases hv
            obtain ⟨old, ho1, ho2, ho3⟩ := holdc l0 hfr
            exact anew (some (q.ad off)) len c l0 old h hw hfit (by omega) hs (Ex.refl _ _ _) ho1 ho2 ho3 rfl rfl
      | op e' =>
        dsimp only at hv
        split at hv
        · cases hv
        rename_i hcond
        have hro : ro = false := by cases ro <;> simp_all
        have hone : allOne xc = true := by cases ho : allOne xc <;> simp_all
        have hee : e' = esz := by
          rcases Nat.decEq e' esz with h1 | h1
          · exfalso; apply hcond; simp [h1]
          · exact h1
        subst hro; subst hee
        split at hv
        case isFalse => cases hv
        rename_i hend
        split at hv
        case h_2 => cases hv
        rename_i l hl
        cases hfr : takeN (len * e') (dropN off vs) with
        | none => rw [hfr] at hl; cases hl
        | some l0 =>
          rw [hfr] at hl; cases hl
          cases hv
          obtain ⟨old, ho1, ho2, ho3⟩ := holdc l0 hfr
          have hroom := hop e' rfl
          by_cases hfit : len + n ≤ c
          · -- in its place
            have had' : ad = q.ad off := had.resolve_left (by omega)
            subst had'
            obtain ⟨g1, g2⟩ := hrow
            obtain ⟨g2a, g2b⟩ := g2 rfl
            have hxl : xc.length = n * e' := by rw [hys.1, hyl]
            have hce : (len + n) * e' ≤ c * e' := Nat.mul_le_mul_right _ hfit
            rw [Nat.add_mul] at hce
            have hst : (storeCells (q.ad (off + len * e')) ys).run PR W = .ok () (W.setCells q.blk (q.base + (off + len * e')) ys) := store_run (fun j hj => by
              have := g2b (off + len * e' + j) (by omega)
              exact ⟨this.2, this.1⟩) (allOne_sound hone hys)
            have hr := (run (some (q.ad off)) len c hw).1 hfit _ (by show (storeCells ((q.ad off).add (len * e')) ys).run PR W = _; rw [ad_add]; exact hst)
            obtain ⟨f1, f2, f3, f4, f5, f6⟩ := setCells_facts q.blk ys (q.base + (off + len * e')) W
            obtain ⟨hl0, hl0e⟩ := takeN_some hfr
            rw [dropN_eq] at hl0 hl0e
            have hq2 : ∀ j, (⟨q.blk, q.base + off, q.tot - off⟩ : Pl).ad j = q.ad (off + j) := fun j => by simp [Pl.ad, Nat.add_assoc]
            have hcis : ∀ j, j < ys.length → (W.cell? (q.ad (off + len * e' + j))).isSome = true := fun j hj => (g2b _ (by omega)).2
            have hrow2 : ∀ κ', K.le κ κ' → ObR PR κ' (W.setCells q.blk (q.base + (off + len * e')) ys) ⟨q.blk, q.base + off, q.tot - off⟩ (.c (l0 ++ xc) false) := by
              intro κ' hk'
              refine ⟨fun j u hj => ?_, fun _ => ⟨by simp only [List.length_append]; omega, fun j hj => ?_⟩⟩
              · rw [hq2, cell_after hcis]
                by_cases hjl : j < l0.length
                · rw [List.getElem?_append_left hjl] at hj
                  rw [if_neg (by omega)]
                  rw [hl0e, List.getElem?_take, if_pos (by omega), List.getElem?_drop] at hj
                  obtain ⟨w, hw1, hw2⟩ := g1 _ _ hj
                  exact ⟨w, hw1, hw2.mono hk'⟩
                · rw [List.getElem?_append_right (by omega)] at hj
                  have hj' := (List.getElem?_eq_some_iff.1 hj).1
                  rw [if_pos (by rw [← hys.1]; omega)]
                  obtain ⟨w, hw1, hw2⟩ := hys.get hj
                  refine ⟨w, ?_, hw2.mono hk'⟩
                  rw [show off + j - (off + len * e') = j - l0.length by omega]
                  exact hw1
              · dsimp only at hj
                rw [hq2, World.frozen?_setCells, cell_after hcis]
                have := g2b (off + j) (by omega)
                refine ⟨this.1, ?_⟩
                split
                · rw [List.getElem?_eq_getElem (by omega)]; rfl
                · exact this.2
            obtain ⟨s2, e2⟩ := SR.grow hs hq hx' rfl ⟨q.blk, q.base + off, q.tot - off⟩ rfl f2 f1 f3 f4 f5 (fun L hL => ⟨L, f6 L hL⟩) (hrow2 _ (hs.le_upd _)) rfl (fun a => World.frozen?_setCells ..)
            refine fin _ _ _ hr e2 s2 (.slo _ ⟨q.blk, q.base + off, q.tot - off⟩ 0 (len + n) c e' _ (K.upd_same _ _ _) hfit (.inr ?_) ?_)
            · rw [hq2]; rfl
            · dsimp only; omega
          · obtain ⟨s1, e1⟩ := SR.kill hs hq hx' rfl
            exact anew (some ad) len c l0 old (h.set o .dead) hw hfit (by omega) s1 e1 ho1 ho2 ho3 rfl rfl
    · cases hv
end
end Go.Am
namespace Go.Am
open Go Classical
section
variable {PR : Program} {κ : K} {nt : Nat} {f : T V} {tm : Array Value} {h : H}
theorem l_del (hT : TR κ nt f tm) (dst : Option Tmp) (ty : TypeId) (pos : String) (after : Array Edge) (guard : Option (Nat × Bool)) {cf : CF} {W : World} (hs : SR PR κ h W) {v : V} {h' : H} {ts : Array TypeId} {xs : Array Operand} {t kt et : TypeId} {kk : KK} {m k : Operand} {m' k' : A} (h0 : ts[0]? = some t) (ht : PR.underlying t = some (.map kt et)) (hkk : keyKind PR kt = some kk) (hx0 : xs[0]? = some m) (hx1 : xs[1]? = some k) (hm : co PR m = some m') (hk : co PR k = some k') (hv : evL cf f h (.del kk m' k') = some (v, h')) : LoudOk PR κ h W h' v (execOp (evl tm) ⟨dst, .call ⟨.builtin .delete, xs, ts⟩, ty, pos, after, guard⟩) := by
  have h1 := co_sound hs.gl hT hm
  have h2 := co_sound hs.gl hT hk
  have hargs0 : (xs.map (evl tm))[0]? = some (evl tm m) := by simp [hx0]
  have hargs1 : (xs.map (evl tm))[1]? = some (evl tm k) := by simp [hx1]
  have fin : ∀ W', (Builtin.delete_ ts ty (xs.map (evl tm))).run PR W = .ok (.tuple #[]) W' → Ex κ h W κ h' W' → SR PR κ h' W' → v = .t [] → LoudOk PR κ h W h' v (execOp (evl tm) ⟨dst, .call ⟨.builtin .delete, xs, ts⟩, ty, pos, after, guard⟩) := by
    intro W' hr hE hS hV
    refine ⟨.value (.tuple #[]), .tuple #[], W', κ, ?_, .inl rfl, hE, hS, by rw [hV]; exact VR.tup_mk (.nil κ)⟩
    rw [exec_bi, b_delete]
    simp [hr, Result.andThen]
  simp only [evL] at hv
  split at hv
  case isFalse => cases hv
  rename_i hok
  split at hv
  · rename_i e
    cases hv
    rw [e] at h1
    have hw := h1.mapn
    refine fin W ?_ (Ex.refl _ _ _) hs rfl
    have hck := checkKey_run hkk h2 hok true W
    simp [Builtin.delete_, h0, hargs0, hargs1, hw, run_underlying ht, hck, Result.andThen]
  · rename_i o e
    rw [e] at h1
    obtain ⟨q, hq, hw⟩ := h1.mapv
    split at hv
    case h_2 => cases hv
    rename_i es clock hob
    obtain ⟨es', hes, hE⟩ := mapObj hs hq hob
    have hgo := getObj_run (PR := PR) hes (by simp)
    have hck := checkKey_run hkk h2 hok es'.isEmpty W
    split at hv
    · rename_i i u bn hf
      cases hv
      obtain ⟨r', hr, hfr⟩ := findKey_run hkk h2 hok hE hf W
      cases r' with
      | none => exact hfr.elim
      | some p =>
        obtain ⟨j, w⟩ := p
        obtain ⟨rfl, _⟩ := hfr
        obtain ⟨e', he', hkey, hborn, hi⟩ := found_entry (kt := kt) h2 hE hf
        have hE2 : ER κ (eraseE i es) (es'.eraseIdxIfInBounds i).toList := by
          have hl : (es'.eraseIdxIfInBounds i).toList = es'.toList.eraseIdx i := by
            have : i < es'.size := (Array.getElem?_eq_some_iff.1 he').1
            simp [Array.eraseIdxIfInBounds, this]
          rw [eraseE_eq, hl]
          refine ⟨by rw [List.length_eraseIdx, List.length_eraseIdx, hE.1], fun n a b ha hb => ?_⟩
          rw [List.getElem?_eraseIdx] at ha hb
          split at ha
          · rename_i hn; rw [if_pos hn] at hb; exact hE.2 _ _ _ ha hb
          · rename_i hn; rw [if_neg hn] at hb; exact hE.2 _ _ _ ha hb
        obtain ⟨r1, r2⟩ := map_put (clock2 := clock) hs hq hob hE2
        refine fin _ ?_ r2 r1 rfl
        have hso := setObj_run (PR := PR) (x := .map (es'.eraseIdxIfInBounds i) clock) hes (by simp)
        simp [Builtin.delete_, h0, hargs0, hargs1, hw, run_underlying ht, hgo, hck, hr, hso, Result.andThen]
    · rename_i hf
      cases hv
      obtain ⟨r', hr, hfr⟩ := findKey_run hkk h2 hok hE hf W
      cases r' with
      | some p => exact hfr.elim
      | none =>
        have hso := setObj_run (PR := PR) (x := .map es' clock) hes (by simp)
        have hsame : putObj W q.blk (.map es' clock) = W := by
          have hlt := (Array.getElem?_eq_some_iff.1 hes).1
          have : W.heap.setIfInBounds q.blk (.map es' clock) = W.heap := by
            apply Array.ext_getElem?
            intro n
            rw [Array.getElem?_setIfInBounds]
            split
            · rename_i e; subst e; exact hes.symm
            · rfl
          unfold putObj; rw [this]
        refine fin W ?_ (Ex.refl _ _ _) hs rfl
        simp [Builtin.delete_, h0, hargs0, hargs1, hw, run_underlying ht, hgo, hck, hr, hso, hsame, Result.andThen]
    · cases hv
  · cases hv
theorem l_rng (hT : TR κ nt f tm) (dst : Option Tmp) (ty : TypeId) (pos : String) (after : Array Edge) (guard : Option (Nat × Bool)) {cf : CF} {W : World} (hs : SR PR κ h W) {v : V} {h' : H} {t kt et : TypeId} {x : Operand} {x' : A} (ht : PR.underlying t = some (.map kt et)) (hx : co PR x = some x') (hv : evL cf f h (.rng x') = some (v, h')) : LoudOk PR κ h W h' v (execOp (evl tm) ⟨dst, .range t x, ty, pos, after, guard⟩) := by
  have h1 := co_sound hs.gl hT hx
  have fin : ∀ (ob : Go.Obj) (y : Obj), (execOp (evl tm) ⟨dst, .range t x, ty, pos, after, guard⟩).run PR W = .ok (.value (.pointer (some ⟨W.heap.size, 0, none⟩))) { W with heap := W.heap.push ob } → ObR PR (κ.upd h.next ⟨W.heap.size, 0, 0⟩) { W with heap := W.heap.push ob } ⟨W.heap.size, 0, 0⟩ y → NF ob → v = .p h.next 0 → h' = h.new y → LoudOk PR κ h W h' v (execOp (evl tm) ⟨dst, .range t x, ty, pos, after, guard⟩) := by
    intro ob y hr hO hz hV hH
    obtain ⟨s1, e1⟩ := SR.new hs ob y 0 rfl hO hz
    refine ⟨_, _, _, _, hr, .inl rfl, by rw [hH]; exact e1, by rw [hH]; exact s1, ?_⟩
    rw [hV]
    exact .p _ ⟨W.heap.size, 0, 0⟩ 0 (K.upd_same _ _ _)
  simp only [evL] at hv
  split at hv
  · rename_i e
    cases hv
    rw [e] at h1
    have hw := h1.mapn
    refine fin (.mapIter none 0 #[] 0) (.it none 0 [] 0) ?_ ⟨rfl, none, #[], by simp, rfl, .inl ⟨rfl, rfl⟩⟩ (by intro _ _ _ e; cases e) rfl rfl
    simp [execOp, hw, Instr.range, run_underlying ht, newObj, Sem.run, Result.andThen]
  · rename_i o e
    rw [e] at h1
    obtain ⟨q, hq, hw⟩ := h1.mapv
    split at hv
    case h_2 => cases hv
    rename_i es clock hob
    cases hv
    obtain ⟨es', hes, hE⟩ := mapObj hs hq hob
    have hgo := getObj_run (PR := PR) hes (by simp)
    refine fin (.mapIter (some q.blk) clock #[] clock) (.it (some o) clock [] clock) ?_ ⟨rfl, some q.blk, #[], by simp, rfl, .inr ⟨o, q, rfl, hs.le_upd _ _ _ hq, rfl⟩⟩ (by intro _ _ _ e; cases e) rfl rfl
    simp [execOp, hw, Instr.range, run_underlying ht, hgo, newObj, Sem.run, Result.andThen]
  · cases hv
theorem allOne_app : ∀ {a b : List V}, allOne a = true → allOne b = true → allOne (a ++ b) = true
  | [], _, _, h => h
  | x :: a, b, h1, h2 => by simp only [allOne, List.cons_append, Bool.and_eq_true] at h1 ⊢; exact ⟨h1.1, allOne_app h1.2 h2⟩
theorem rep_one {zs : List V} (h : allOne zs = true) : ∀ n, allOne (rep n zs) = true
  | 0 => rfl
  | n + 1 => allOne_app h (rep_one h n)
theorem l_clear (hT : TR κ nt f tm) (dst : Option Tmp) (ty : TypeId) (pos : String) (after : Array Edge) (guard : Option (Nat × Bool)) {cf : CF} {W : World} (hs : SR PR κ h W) {v : V} {h' : H} {ts : Array TypeId} {xs : Array Operand} {t e : TypeId} {esz : Nat} {zs : List V} {x : Operand} {x' : A} (h0 : ts[0]? = some t) (ht : PR.underlying t = some (.slice e)) (hz : zeroOf PR e = some zs) (hx0 : xs[0]? = some x) (hx : co PR x = some x') (hv : evL cf f h (.clear esz zs x') = some (v, h')) : LoudOk PR κ h W h' v (execOp (evl tm) ⟨dst, .call ⟨.builtin .clear, xs, ts⟩, ty, pos, after, guard⟩) := by
  have h1 := co_sound hs.gl hT hx
  have hargs0 : (xs.map (evl tm))[0]? = some (evl tm x) := by simp [hx0]
  have fin : ∀ W', (Builtin.clear_ ts ty (xs.map (evl tm))).run PR W = .ok (.tuple #[]) W' → Ex κ h W κ h' W' → SR PR κ h' W' → v = .t [] → LoudOk PR κ h W h' v (execOp (evl tm) ⟨dst, .call ⟨.builtin .clear, xs, ts⟩, ty, pos, after, guard⟩) := by
    intro W' hr hE hS hV
    refine ⟨.value (.tuple #[]), .tuple #[], W', κ, ?_, .inl rfl, hE, hS, by rw [hV]; exact VR.tup_mk (.nil κ)⟩
    rw [exec_bi, b_clear]
    simp [hr, Result.andThen]
  obtain ⟨z, hzr, hzv⟩ := zeroOf_run (κ := κ) hz W
  simp only [evL] at hv
  split at hv
  · rename_i e1
    cases hv
    rw [e1] at h1
    have hw : evl tm x = .slice none 0 0 := by generalize evl tm x = w at *; cases h1; rfl
    refine fin W ?_ (Ex.refl _ _ _) hs rfl
    simp [Builtin.clear_, h0, hargs0, hw, run_underlying ht, Result.andThen]
  · rename_i o off n cap e1
    rw [e1] at h1
    obtain ⟨q, ad, c, hq, hw, hle, had, _, _⟩ := h1.slI
    split at hv
    · rename_i hn
      cases hv
      subst hn
      refine fin W ?_ (Ex.refl _ _ _) hs rfl
      simp [Builtin.clear_, h0, hargs0, hw, run_underlying ht, Result.andThen]
    · rename_i hn
      split at hv
      case h_2 => cases hv
      rename_i vs ro hob
      split at hv
      · cases hv
      rename_i hcond
      have hro : ro = false := by cases ro <;> simp_all
      have hone : allOne zs = true := by cases ho : allOne zs <;> simp_all
      subst hro
      split at hv
      case h_2 => cases hv
      rename_i vs' hp
      cases hv
      have had' : ad = q.ad off := had.resolve_left (by omega)
      subst had'
      have hzc : VRs κ (rep n zs) (Builtin.zeroCells z.cells n).toList := by
        have := rep_VRs hzv n
        have hl : z.cells.size = zs.length := by have := hzv.1; simp at this; omega
        unfold Builtin.zeroCells
        rw [hl]
        rw [hl] at this
        exact this
      have hone' : allOne (rep n zs) = true := rep_one hone n
      obtain ⟨r1, r2, r3⟩ := store_sound hs hq hob hp hzc hone'
      refine fin _ ?_ r3 r2 rfl
      have hne : n ≠ 0 := hn
      have : (Builtin.clear_ ts ty (xs.map (evl tm))).run PR W = ((storeCells (q.ad off) (Builtin.zeroCells z.cells n).toList).run PR W).andThen fun _ w => .ok (.tuple #[]) w := by
        unfold Builtin.clear_
        simp only [h0, hargs0, hw, Sem.run_bind, run_underlying ht, Result.andThen_ok]
        cases n with
        | zero => exact absurd rfl hne
        | succ n => simp [hzr, Result.andThen]
      rw [this, r1]
      rfl
  · cases hv
end
end Go.Am
namespace Go.Am
open Go Classical
section
variable {PR : Program} {κ : K} {nt : Nat} {f : T V} {tm : Array Value} {h : H}
set_option maxHeartbeats 2000000 in
theorem evL_sound (hT : TR κ nt f tm) {cf : CF} {W : World} (hs : SR PR κ h W) {o : Oper} {op : OL} (hc : compOp PR o = some (.l op)) (hnc : ∀ g as, op ≠ .call g as) {v : V} {h' : H} (hv : evL cf f h op = some (v, h')) : LoudOk PR κ h W h' v (execOp (evl tm) o) := by
  obtain ⟨dst, ox, ty, pos, after, guard⟩ := o
  cases ox
  case store t a x =>
    simp only [compOp, Option.bind_eq_bind, Option.bind_eq_some_iff, Option.pure_def, Option.some.injEq, Op.l.injEq] at hc
    obtain ⟨n, hn, a', ha, x', hx, rfl⟩ := hc
    exact l_store hT dst ty pos after guard hs hn ha hx hv
  case insert t m k x =>
    simp only [compOp, Option.bind_eq_bind, Option.bind_eq_some_iff] at hc
    obtain ⟨d, hd, hc⟩ := hc
    split at hc
    · simp only [Option.bind_eq_some_iff, Option.pure_def, Option.some.injEq, Op.l.injEq] at hc
      obtain ⟨kk, hkk, m', hm, k', hk, x', hx, rfl⟩ := hc
      obtain ⟨W', hr, hE, hS, rfl⟩ := mapUpdate_sound hT hs hd hkk hm hk hx hv
      exact ⟨.skip, undef, W', κ, by simp [execOp, hr, Result.andThen], .inr ⟨rfl, rfl⟩, hE, hS, .u _⟩
    · cases hc
  case mapUpdate t m k x =>
    simp only [compOp, Option.bind_eq_bind, Option.bind_eq_some_iff] at hc
    obtain ⟨d, hd, hc⟩ := hc
    split at hc
    · simp only [Option.bind_eq_some_iff, Option.pure_def, Option.some.injEq, Op.l.injEq] at hc
      obtain ⟨kk, hkk, m', hm, k', hk, x', hx, rfl⟩ := hc
      obtain ⟨W', hr, hE, hS, rfl⟩ := mapUpdate_sound hT hs hd hkk hm hk hx hv
      exact ⟨.skip, undef, W', κ, by simp [execOp, hr, Result.andThen], .inr ⟨rfl, rfl⟩, hE, hS, .u _⟩
    · cases hc
  case range t x =>
    simp only [compOp, Option.bind_eq_bind, Option.bind_eq_some_iff] at hc
    obtain ⟨d, hd, hc⟩ := hc
    split at hc
    · simp only [Option.bind_eq_some_iff, Option.pure_def, Option.some.injEq, Op.l.injEq] at hc
      obtain ⟨x', hx, rfl⟩ := hc
      exact l_rng hT dst ty pos after guard hs hd hx hv
    · cases hc
  case next x b =>
    cases b
    case false =>
      simp only [compOp, Option.bind_eq_bind, Option.bind_eq_some_iff, Option.pure_def, Option.some.injEq, Op.l.injEq] at hc
      obtain ⟨x', hx, rfl⟩ := hc
      simp [evL] at hv
    case true => simp only [compOp, reduceCtorEq] at hc
  case makeMap t r => cases r <;> simp only [compOp, Option.pure_def, Option.some.injEq, reduceCtorEq] at hc
  case convert s t x =>
    simp only [compOp, Option.bind_eq_bind, Option.bind_eq_some_iff] at hc
    obtain ⟨d1, h1, d2, h2, hc⟩ := hc
    split at hc
    · simp only [Option.bind_eq_some_iff, Option.pure_def, Option.some.injEq, reduceCtorEq, and_false, exists_false] at hc
    · split at hc
      · simp only [Option.bind_eq_some_iff, Option.pure_def, Option.some.injEq, reduceCtorEq, and_false, exists_false] at hc
      · cases hc
    · cases hc
  case call c =>
    obtain ⟨callee, xs, ts⟩ := c
    cases callee
    case value g =>
      simp only [compOp, Option.bind_eq_bind, Option.bind_eq_some_iff, Option.pure_def, Option.some.injEq, Op.l.injEq] at hc
      obtain ⟨g', hg, as, has, rfl⟩ := hc
      exact absurd rfl (hnc _ _)
    case invoke r m => simp only [compOp, reduceCtorEq] at hc
    case builtin b =>
      cases b
      case len =>
        simp only [compOp, Option.bind_eq_bind, Option.bind_eq_some_iff] at hc
        obtain ⟨t, ht, d, hd, hc⟩ := hc
        split at hc
        · simp only [Option.bind_eq_some_iff, Option.pure_def, Option.some.injEq, reduceCtorEq, and_false, exists_false] at hc
        · simp only [Option.bind_eq_some_iff, Option.pure_def, Option.some.injEq, reduceCtorEq, and_false, exists_false] at hc
        · simp only [Option.bind_eq_some_iff, Option.pure_def, Option.some.injEq, reduceCtorEq, and_false, exists_false] at hc
        · cases hc
      case append =>
        simp only [compOp, Option.bind_eq_bind, Option.bind_eq_some_iff] at hc
        obtain ⟨t, ht, d, hd, hc⟩ := hc
        split at hc
        · simp only [Option.bind_eq_some_iff] at hc
          obtain ⟨t2, ht2, d2, hd2, hc⟩ := hc
          split at hc
          · simp only [Option.bind_eq_some_iff, Option.pure_def, Option.some.injEq, Op.l.injEq] at hc
            obtain ⟨esz, hok, s, hs0, s', hs', x, hx0, x', hx', rfl⟩ := hc
            exact l_app hT dst ty pos after guard hs ht ht2 hd hd2 hok hs0 hx0 hs' hx' hv
          · cases hc
        · cases hc
      case delete =>
        simp only [compOp, Option.bind_eq_bind, Option.bind_eq_some_iff] at hc
        obtain ⟨t, ht, d, hd, hc⟩ := hc
        split at hc
        · simp only [Option.bind_eq_some_iff, Option.pure_def, Option.some.injEq, Op.l.injEq] at hc
          obtain ⟨kk, hkk, m, hm0, m', hm', k, hk0, k', hk', rfl⟩ := hc
          exact l_del hT dst ty pos after guard hs ht hd hkk hm0 hk0 hm' hk' hv
        · cases hc
      case clear =>
        simp only [compOp, Option.bind_eq_bind, Option.bind_eq_some_iff] at hc
        obtain ⟨t, ht, d, hd, hc⟩ := hc
        split at hc
        · simp only [Option.bind_eq_some_iff, Option.pure_def, Option.some.injEq, Op.l.injEq] at hc
          obtain ⟨s, hsz, z, hz, x, hx0, x', hx', rfl⟩ := hc
          exact l_clear hT dst ty pos after guard hs ht hd hz hx0 hx' hv
        · cases hc
      case max =>
        simp only [compOp, Option.bind_eq_bind, Option.bind_eq_some_iff] at hc
        obtain ⟨l, hl, hc⟩ := hc
        split at hc <;> simp only [Option.pure_def, Option.some.injEq, reduceCtorEq] at hc
      case min =>
        simp only [compOp, Option.bind_eq_bind, Option.bind_eq_some_iff] at hc
        obtain ⟨l, hl, hc⟩ := hc
        split at hc <;> simp only [Option.pure_def, Option.some.injEq, reduceCtorEq] at hc
      all_goals (try (first
        | (simp only [compOp, Option.bind_eq_bind, Option.bind_eq_some_iff, Option.pure_def, Option.some.injEq, reduceCtorEq, and_false, exists_false] at hc; done)
        | (exfalso; simp only [compOp, Option.bind_eq_bind, Option.bind_eq_some_iff] at hc; obtain ⟨d1, h1, hc⟩ := hc; split at hc <;> (first | (cases hc; done) | (simp only [Option.bind_eq_some_iff, Option.pure_def, Option.some.injEq, reduceCtorEq, and_false, exists_false] at hc; done)))
        | (exfalso; simp only [compOp, Option.bind_eq_bind, Option.bind_eq_some_iff] at hc; obtain ⟨d1, h1, hc⟩ := hc; split at hc <;> (first | (cases hc; done) | (simp only [Option.bind_eq_some_iff] at hc; obtain ⟨z, hz, s, hs, hc⟩ := hc; split at hc <;> (first | (cases hc; done) | (simp only [Option.bind_eq_some_iff, Option.pure_def, Option.some.injEq, reduceCtorEq, and_false, exists_false] at hc; done)))))
        | (exfalso; simp only [compOp, Option.bind_eq_bind, Option.bind_eq_some_iff] at hc; obtain ⟨d1, h1, d2, h2, hc⟩ := hc; split at hc <;> (first | (cases hc; done) | (simp only [Option.bind_eq_some_iff, Option.pure_def, Option.some.injEq, reduceCtorEq, and_false, exists_false] at hc; done)))
        | (exfalso; simp only [compOp, Option.bind_eq_bind, Option.bind_eq_some_iff] at hc; obtain ⟨d1, h1, hc⟩ := hc; split at hc <;> (first | (cases hc; done) | (simp only [Option.bind_eq_some_iff] at hc; obtain ⟨z, hz, s, hs, i, hi, hc⟩ := hc; split at hc <;> (first | (cases hc; done) | (simp only [Option.bind_eq_some_iff, Option.pure_def, Option.some.injEq, reduceCtorEq, and_false, exists_false] at hc; done)))))
        | (exfalso; simp only [compOp] at hc; split at hc <;> (first | (cases hc; done) | (simp only [Option.bind_eq_bind, Option.bind_eq_some_iff, Option.pure_def, Option.some.injEq, reduceCtorEq, and_false, exists_false] at hc; done)))))
  all_goals (try (first
    | (simp only [compOp, Option.bind_eq_bind, Option.bind_eq_some_iff, Option.pure_def, Option.some.injEq, reduceCtorEq, and_false, exists_false] at hc; done)
    | (exfalso; simp only [compOp, Option.bind_eq_bind, Option.bind_eq_some_iff] at hc; obtain ⟨d1, h1, hc⟩ := hc; split at hc <;> (first | (cases hc; done) | (simp only [Option.bind_eq_some_iff, Option.pure_def, Option.some.injEq, reduceCtorEq, and_false, exists_false] at hc; done)))
    | (exfalso; simp only [compOp, Option.bind_eq_bind, Option.bind_eq_some_iff] at hc; obtain ⟨d1, h1, hc⟩ := hc; split at hc <;> (first | (cases hc; done) | (simp only [Option.bind_eq_some_iff] at hc; obtain ⟨z, hz, s, hs, hc⟩ := hc; split at hc <;> (first | (cases hc; done) | (simp only [Option.bind_eq_some_iff, Option.pure_def, Option.some.injEq, reduceCtorEq, and_false, exists_false] at hc; done)))))
    | (exfalso; simp only [compOp, Option.bind_eq_bind, Option.bind_eq_some_iff] at hc; obtain ⟨d1, h1, d2, h2, hc⟩ := hc; split at hc <;> (first | (cases hc; done) | (simp only [Option.bind_eq_some_iff, Option.pure_def, Option.some.injEq, reduceCtorEq, and_false, exists_false] at hc; done)))
    | (exfalso; simp only [compOp, Option.bind_eq_bind, Option.bind_eq_some_iff] at hc; obtain ⟨d1, h1, hc⟩ := hc; split at hc <;> (first | (cases hc; done) | (simp only [Option.bind_eq_some_iff] at hc; obtain ⟨z, hz, s, hs, i, hi, hc⟩ := hc; split at hc <;> (first | (cases hc; done) | (simp only [Option.bind_eq_some_iff, Option.pure_def, Option.some.injEq, reduceCtorEq, and_false, exists_false] at hc; done)))))
    | (exfalso; simp only [compOp] at hc; split at hc <;> (first | (cases hc; done) | (simp only [Option.bind_eq_bind, Option.bind_eq_some_iff, Option.pure_def, Option.some.injEq, reduceCtorEq, and_false, exists_false] at hc; done)))))
  case unOp u t x => cases u <;> simp only [compOp, Option.bind_eq_bind, Option.bind_eq_some_iff, Option.pure_def, Option.some.injEq, reduceCtorEq, and_false, exists_false] at hc
  case makeFunc g a b => cases g <;> simp only [compOp, Option.bind_eq_bind, Option.bind_eq_some_iff, Option.pure_def, Option.some.injEq, reduceCtorEq, and_false, exists_false] at hc
  case slice t x lo hi mx =>
    cases mx
    case some => simp only [compOp, reduceCtorEq] at hc
    case none =>
      simp only [compOp, Option.bind_eq_bind, Option.bind_eq_some_iff] at hc
      obtain ⟨d, hd, hc⟩ := hc
      split at hc
      · simp only [Option.bind_eq_some_iff, Option.pure_def, Option.some.injEq, reduceCtorEq, and_false, exists_false] at hc
      · cases hc
  case binOp bop t x y yt =>
    exfalso
    simp only [compOp, Option.bind_eq_bind, Option.bind_eq_some_iff] at hc
    obtain ⟨a, ha, b, hb, d, hd, hc⟩ := hc
    repeat' split at hc
    all_goals simp only [Option.pure_def, Option.some.injEq, reduceCtorEq] at hc
set_option maxHeartbeats 2000000 in
/-- a call of a function value -/
theorem comp_call {o : Oper} {g : A} {as : List A} (hc : compOp PR o = some (.l (.call g as))) : ∃ g' xs ts, o.op = .call ⟨.value g', xs, ts⟩ ∧ co PR g' = some g ∧ cos PR xs = some as := by
  obtain ⟨dst, ox, ty, pos, after, guard⟩ := o
  cases ox
  case store t a x => simp only [compOp, Option.bind_eq_bind, Option.bind_eq_some_iff, Option.pure_def, Option.some.injEq, Op.l.injEq, reduceCtorEq, and_false, exists_false] at hc
  case insert t m k x =>
    simp only [compOp, Option.bind_eq_bind, Option.bind_eq_some_iff] at hc
    obtain ⟨d, hd, hc⟩ := hc
    split at hc
    · simp only [Option.bind_eq_some_iff, Option.pure_def, Option.some.injEq, Op.l.injEq, reduceCtorEq, and_false, exists_false] at hc
    · cases hc
  case mapUpdate t m k x =>
    simp only [compOp, Option.bind_eq_bind, Option.bind_eq_some_iff] at hc
    obtain ⟨d, hd, hc⟩ := hc
    split at hc
    · simp only [Option.bind_eq_some_iff, Option.pure_def, Option.some.injEq, Op.l.injEq, reduceCtorEq, and_false, exists_false] at hc
    · cases hc
  case range t x =>
    simp only [compOp, Option.bind_eq_bind, Option.bind_eq_some_iff] at hc
    obtain ⟨d, hd, hc⟩ := hc
    split at hc
    · simp only [Option.bind_eq_some_iff, Option.pure_def, Option.some.injEq, Op.l.injEq, reduceCtorEq, and_false, exists_false] at hc
    · cases hc
  case next x b => cases b <;> simp only [compOp, Option.bind_eq_bind, Option.bind_eq_some_iff, Option.pure_def, Option.some.injEq, Op.l.injEq, reduceCtorEq, and_false, exists_false] at hc
  case makeMap t r => cases r <;> simp only [compOp, Option.pure_def, Option.some.injEq, reduceCtorEq] at hc
  case convert s t x =>
    simp only [compOp, Option.bind_eq_bind, Option.bind_eq_some_iff] at hc
    obtain ⟨d1, h1, d2, h2, hc⟩ := hc
    split at hc
    · simp only [Option.bind_eq_some_iff, Option.pure_def, Option.some.injEq, Op.l.injEq, reduceCtorEq, and_false, exists_false] at hc
    · split at hc
      · simp only [Option.bind_eq_some_iff, Option.pure_def, Option.some.injEq, Op.l.injEq, reduceCtorEq, and_false, exists_false] at hc
      · cases hc
    · cases hc
  case call c =>
    obtain ⟨callee, xs, ts⟩ := c
    cases callee
    case value g' =>
      simp only [compOp, Option.bind_eq_bind, Option.bind_eq_some_iff, Option.pure_def, Option.some.injEq, Op.l.injEq, OL.call.injEq] at hc
      obtain ⟨g2, hg, as2, has, rfl, rfl⟩ := hc
      exact ⟨g', xs, ts, rfl, hg, has⟩
    case invoke r m => simp only [compOp, reduceCtorEq] at hc
    case builtin b =>
      cases b
      case len =>
        simp only [compOp, Option.bind_eq_bind, Option.bind_eq_some_iff] at hc
        obtain ⟨t, ht, d, hd, hc⟩ := hc
        split at hc
        · simp only [Option.bind_eq_some_iff, Option.pure_def, Option.some.injEq, Op.l.injEq, reduceCtorEq, and_false, exists_false] at hc
        · simp only [Option.bind_eq_some_iff, Option.pure_def, Option.some.injEq, Op.l.injEq, reduceCtorEq, and_false, exists_false] at hc
        · simp only [Option.bind_eq_some_iff, Option.pure_def, Option.some.injEq, Op.l.injEq, reduceCtorEq, and_false, exists_false] at hc
        · cases hc
      case append =>
        simp only [compOp, Option.bind_eq_bind, Option.bind_eq_some_iff] at hc
        obtain ⟨t, ht, d, hd, hc⟩ := hc
        split at hc
        · simp only [Option.bind_eq_some_iff] at hc
          obtain ⟨t2, ht2, d2, hd2, hc⟩ := hc
          split at hc
          · simp only [Option.bind_eq_some_iff, Option.pure_def, Option.some.injEq, Op.l.injEq, reduceCtorEq, and_false, exists_false] at hc
          · cases hc
        · cases hc
      case delete =>
        simp only [compOp, Option.bind_eq_bind, Option.bind_eq_some_iff] at hc
        obtain ⟨t, ht, d, hd, hc⟩ := hc
        split at hc
        · simp only [Option.bind_eq_some_iff, Option.pure_def, Option.some.injEq, Op.l.injEq, reduceCtorEq, and_false, exists_false] at hc
        · cases hc
      case clear =>
        simp only [compOp, Option.bind_eq_bind, Option.bind_eq_some_iff] at hc
        obtain ⟨t, ht, d, hd, hc⟩ := hc
        split at hc
        · simp only [Option.bind_eq_some_iff, Option.pure_def, Option.some.injEq, Op.l.injEq, reduceCtorEq, and_false, exists_false] at hc
        · cases hc
      case max =>
        simp only [compOp, Option.bind_eq_bind, Option.bind_eq_some_iff] at hc
        obtain ⟨l, hl, hc⟩ := hc
        split at hc <;> simp only [Option.pure_def, Option.some.injEq, Op.l.injEq, reduceCtorEq] at hc
      case min =>
        simp only [compOp, Option.bind_eq_bind, Option.bind_eq_some_iff] at hc
        obtain ⟨l, hl, hc⟩ := hc
        split at hc <;> simp only [Option.pure_def, Option.some.injEq, Op.l.injEq, reduceCtorEq] at hc
      all_goals (try (first
        | (simp only [compOp, Option.bind_eq_bind, Option.bind_eq_some_iff, Option.pure_def, Option.some.injEq, Op.l.injEq, reduceCtorEq, and_false, exists_false] at hc; done)
        | (exfalso; simp only [compOp, Option.bind_eq_bind, Option.bind_eq_some_iff] at hc; obtain ⟨d1, h1, hc⟩ := hc; split at hc <;> (first | (cases hc; done) | (simp only [Option.bind_eq_some_iff, Option.pure_def, Option.some.injEq, Op.l.injEq, reduceCtorEq, and_false, exists_false] at hc; done)))
        | (exfalso; simp only [compOp, Option.bind_eq_bind, Option.bind_eq_some_iff] at hc; obtain ⟨d1, h1, hc⟩ := hc; split at hc <;> (first | (cases hc; done) | (simp only [Option.bind_eq_some_iff] at hc; obtain ⟨z, hz, s, hs, hc⟩ := hc; split at hc <;> (first | (cases hc; done) | (simp only [Option.bind_eq_some_iff, Option.pure_def, Option.some.injEq, Op.l.injEq, reduceCtorEq, and_false, exists_false] at hc; done)))))
        | (exfalso; simp only [compOp, Option.bind_eq_bind, Option.bind_eq_some_iff] at hc; obtain ⟨d1, h1, d2, h2, hc⟩ := hc; split at hc <;> (first | (cases hc; done) | (simp only [Option.bind_eq_some_iff, Option.pure_def, Option.some.injEq, Op.l.injEq, reduceCtorEq, and_false, exists_false] at hc; done)))
        | (exfalso; simp only [compOp, Option.bind_eq_bind, Option.bind_eq_some_iff] at hc; obtain ⟨d1, h1, hc⟩ := hc; split at hc <;> (first | (cases hc; done) | (simp only [Option.bind_eq_some_iff] at hc; obtain ⟨z, hz, s, hs, i, hi, hc⟩ := hc; split at hc <;> (first | (cases hc; done) | (simp only [Option.bind_eq_some_iff, Option.pure_def, Option.some.injEq, Op.l.injEq, reduceCtorEq, and_false, exists_false] at hc; done)))))
        | (exfalso; simp only [compOp] at hc; split at hc <;> (first | (cases hc; done) | (simp only [Option.bind_eq_bind, Option.bind_eq_some_iff, Option.pure_def, Option.some.injEq, Op.l.injEq, reduceCtorEq, and_false, exists_false] at hc; done)))))
  all_goals (try (first
    | (simp only [compOp, Option.bind_eq_bind, Option.bind_eq_some_iff, Option.pure_def, Option.some.injEq, Op.l.injEq, reduceCtorEq, and_false, exists_false] at hc; done)
    | (exfalso; simp only [compOp, Option.bind_eq_bind, Option.bind_eq_some_iff] at hc; obtain ⟨d1, h1, hc⟩ := hc; split at hc <;> (first | (cases hc; done) | (simp only [Option.bind_eq_some_iff, Option.pure_def, Option.some.injEq, Op.l.injEq, reduceCtorEq, and_false, exists_false] at hc; done)))
    | (exfalso; simp only [compOp, Option.bind_eq_bind, Option.bind_eq_some_iff] at hc; obtain ⟨d1, h1, hc⟩ := hc; split at hc <;> (first | (cases hc; done) | (simp only [Option.bind_eq_some_iff] at hc; obtain ⟨z, hz, s, hs, hc⟩ := hc; split at hc <;> (first | (cases hc; done) | (simp only [Option.bind_eq_some_iff, Option.pure_def, Option.some.injEq, Op.l.injEq, reduceCtorEq, and_false, exists_false] at hc; done)))))
    | (exfalso; simp only [compOp, Option.bind_eq_bind, Option.bind_eq_some_iff] at hc; obtain ⟨d1, h1, d2, h2, hc⟩ := hc; split at hc <;> (first | (cases hc; done) | (simp only [Option.bind_eq_some_iff, Option.pure_def, Option.some.injEq, Op.l.injEq, reduceCtorEq, and_false, exists_false] at hc; done)))
    | (exfalso; simp only [compOp, Option.bind_eq_bind, Option.bind_eq_some_iff] at hc; obtain ⟨d1, h1, hc⟩ := hc; split at hc <;> (first | (cases hc; done) | (simp only [Option.bind_eq_some_iff] at hc; obtain ⟨z, hz, s, hs, i, hi, hc⟩ := hc; split at hc <;> (first | (cases hc; done) | (simp only [Option.bind_eq_some_iff, Option.pure_def, Option.some.injEq, Op.l.injEq, reduceCtorEq, and_false, exists_false] at hc; done)))))
    | (exfalso; simp only [compOp] at hc; split at hc <;> (first | (cases hc; done) | (simp only [Option.bind_eq_bind, Option.bind_eq_some_iff, Option.pure_def, Option.some.injEq, Op.l.injEq, reduceCtorEq, and_false, exists_false] at hc; done)))))
  case unOp u t x => cases u <;> simp only [compOp, Option.bind_eq_bind, Option.bind_eq_some_iff, Option.pure_def, Option.some.injEq, Op.l.injEq, reduceCtorEq, and_false, exists_false] at hc
  case makeFunc g a b => cases g <;> simp only [compOp, Option.bind_eq_bind, Option.bind_eq_some_iff, Option.pure_def, Option.some.injEq, Op.l.injEq, reduceCtorEq, and_false, exists_false] at hc
  case slice t x lo hi mx =>
    cases mx
    case some => simp only [compOp, reduceCtorEq] at hc
    case none =>
      simp only [compOp, Option.bind_eq_bind, Option.bind_eq_some_iff] at hc
      obtain ⟨d, hd, hc⟩ := hc
      split at hc
      · simp only [Option.bind_eq_some_iff, Option.pure_def, Option.some.injEq, Op.l.injEq, reduceCtorEq, and_false, exists_false] at hc
      · cases hc
  case binOp bop t x y yt =>
    exfalso
    simp only [compOp, Option.bind_eq_bind, Option.bind_eq_some_iff] at hc
    obtain ⟨a, ha, b, hb, d, hd, hc⟩ := hc
    repeat' split at hc
    all_goals simp only [Option.pure_def, Option.some.injEq, Op.l.injEq, reduceCtorEq] at hc
end
end Go.Am
