/-
  Calls, frames, steps and unwinding of the abstract machine are right. (No condition.)
-/
import Derived.Test.YtpnaeljbfnjghaaGreatDoorAmb
import Derived.Test.YtpnaeljbfnjghaaGreatDoorAma
import Derived.Defers
import Derived.RangeFuncIn
import Derived.RangeFuncRecord
import Derived.RangeFuncNested
import Derived.OrdersIn
namespace Go.Am
section
variable {E : Env} {H : AH} {w : World}

theorem VRs.map_list {α : Type} {f : α → AV} {g : α → Value} : ∀ (l : List α), (∀ x ∈ l, VR E (f x) (g x)) → VRs E (l.map f) (l.map g)
  | [], _ => by simp [VRs]
  | x :: l, h => by
    simp only [List.map_cons, VRs]
    exact ⟨_, _, rfl, h x (by simp), VRs.map_list l fun y hy => h y (by simp [hy])⟩
theorem VRs.map_arr {α : Type} {f : α → AV} {g : α → Value} (l : Array α) (h : ∀ x ∈ l.toList, VR E (f x) (g x)) : VRs E (l.toList.map f) (l.map g).toList := by
  rw [Array.toList_map]; exact VRs.map_list _ h
theorem PRs.map_list {f : Operand → AV} {g : Operand → Value} : ∀ (l : List (Nat × Operand)), (∀ x ∈ l, VR E (f x.2) (g x.2)) → PRs E (l.map fun p => (p.1, f p.2)) (l.map fun p => (p.1, g p.2))
  | [], _ => by simp [PRs]
  | (i, x) :: l, h => by
    simp only [List.map_cons, PRs]
    exact ⟨_, _, rfl, h (i, x) (by simp), PRs.map_list l fun y hy => h y (by simp [hy])⟩
theorem PRs.map_arr {f : Operand → AV} {g : Operand → Value} (l : Array (Nat × Operand)) (h : ∀ x ∈ (l.toList.map (·.2)), VR E (f x) (g x)) : PRs E (l.toList.map fun p => (p.1, f p.2)) (l.map fun (i, x) => (i, g x)).toList := by
  rw [Array.toList_map]
  exact PRs.map_list _ fun x hx => h _ (List.mem_map.2 ⟨x, hx, rfl⟩)
theorem ORs.map {f : Operand → AV} {g : Operand → Value} (x : Option Operand) (h : ∀ y, x = some y → VR E (f y) (g y)) : ORs E (x.map f) (x.map g) := by
  cases x with
  | none => simp [ORs]
  | some y => exact ⟨_, rfl, h y rfl⟩

abbrev Opds (E : Env) (o : Oper) (ρa : Operand → AV) (ρ : Operand → Value) : Prop := ∀ x ∈ o.op.operands.toList, VR E (ρa x) (ρ x)

theorem lightB_sound {P : Program} {b : Builtin} {ts : List TypeId} {ty : TypeId} {args : List AV} {vs : List Value} {a : AV} {cs : Array Bool} (h : alightB P H b ts args = some a) (hr : HR E H w) (hv : VRs E args vs) :
    ∃ v, (builtin b ts.toArray ty cs vs.toArray).run P w = .ok (.value v) w ∧ VR E a v := by
  unfold alightB at h
  split at h
  · simp only [VRs] at hv
    obtain ⟨v, _, rfl, hx, rfl⟩ := hv
    rename_i t ts x
    obtain ⟨r, r1, r2⟩ := len_sound (P := P) (ts := ts) (ty := ty) h hr hx
    exact ⟨r, by simp [builtin, r1], r2⟩
  · rename_i t ts
    split at h <;> (try (cases h; done))
    rename_i e hu
    simp only [Option.some.injEq] at h; subst h
    simp only [VRs, VR] at hv
    obtain ⟨v, _, rfl, rfl, rfl⟩ := hv
    exact ⟨goInt 0, by simp [builtin, Builtin.cap_, und_sound hu], by simp only [VR]; rfl⟩
  · rename_i ts x r
    simp only [VRs] at hv
    obtain ⟨v, rest, rfl, hx, hv⟩ := hv
    obtain ⟨q, q1, q2⟩ := min_sound (P := P) (w := w) r x _ v rest h hx hv
    exact ⟨q, by simp [builtin, Builtin.min_, q1], q2⟩
  · rename_i ts x r
    simp only [VRs] at hv
    obtain ⟨v, rest, rfl, hx, hv⟩ := hv
    obtain ⟨q, q1, q2⟩ := max_sound (P := P) (w := w) r x _ v rest h hx hv
    exact ⟨q, by simp [builtin, Builtin.max_, q1], q2⟩
  · cases h

theorem light_of {P : Program} {s : Sem Value} {a : AV} (h : ∃ v, s.run P w = .ok v w ∧ VR E a v) : ∃ v, (do pure (.value (← s)) : Sem Next).run P w = .ok (.value v) w ∧ VR E a v := by
  obtain ⟨v, h1, h2⟩ := h
  exact ⟨v, by simp [h1], h2⟩

theorem alight_sound {C : Cx} {ρa : Operand → AV} {ρ : Operand → Value} {o : Oper} {a : AV} (h : alight C ρa H o = some a) (hr : HR E H w) (ho : Opds E o ρa ρ) :
    ∃ v, (execOp ρ o).run C.P w = .ok (.value v) w ∧ VR E a v := by
  obtain ⟨dst, op, type, pos, after, guard⟩ := o
  unfold Opds at ho
  unfold alight at h
  cases op <;> simp only [reduceCtorEq] at h <;> simp only [Op.operands] at ho <;> simp only [execOp]
  case move x => cases h; exact ⟨_, rfl, ho x (by simp)⟩
  case assign x => cases h; exact ⟨_, rfl, ho x (by simp)⟩
  case pick c x y =>
    have h1 := ho c (by simp)
    split at h
    · rename_i hc; rw [hc] at h1; simp only [VR] at h1; cases h; exact ⟨_, by simp [h1, asBool], ho x (by simp)⟩
    · rename_i hc; rw [hc] at h1; simp only [VR] at h1; cases h; exact ⟨_, by simp [h1, asBool], ho y (by simp)⟩
    · cases h
  case build t ps => exact light_of (build_sound h _ (PRs.map_arr ps (by simpa using ho)))
  case load t x => exact light_of (aload_sound h hr (ho x (by simp)))
  case nilCheck x =>
    have h1 := ho x (by simp)
    split at h <;> (try (cases h; done))
    · rename_i hx
      rw [hx] at h1
      cases h
      have h1' := h1
      simp only [VR] at h1
      obtain ⟨b, s, n, hi, h1⟩ := h1
      rw [h1] at h1' ⊢
      exact ⟨_, rfl, h1'⟩
    · rename_i hx
      rw [hx] at h1
      cases h
      have h1' := h1
      simp only [VR] at h1
      obtain ⟨b, s, n, h1, _⟩ := h1
      rw [h1] at h1' ⊢
      exact ⟨_, rfl, h1'⟩
    · rename_i hx
      rw [hx] at h1
      cases h
      have h1' := h1
      simp only [VR] at h1
      obtain ⟨b, s, h1, _⟩ := h1
      rw [h1] at h1' ⊢
      exact ⟨_, rfl, h1'⟩
  case binOp op t x y yt => exact light_of (aBin_sound h (ho x (by simp)) (ho y (by simp)))
  case unOp op t x => exact light_of (aUn_sound h (ho x (by simp)))
  case convert s d x =>
    have h1 := ho x (by simp)
    split at h <;> (try (cases h; done))
    rename_i hs hd hx
    rw [hx] at h1
    simp only [VR] at h1
    rw [h1]
    cases h
    exact light_of ⟨_, conv_int hs hd, by simp only [VR, aWrap_eq]⟩
  case makeInterface t x =>
    have h1 := ho x (by simp)
    split at h <;> (try (cases h; done))
    rename_i d hd hu
    cases h
    exact light_of (iface_sound hu (fun ms e => hd ms e) h1)
  case makeFunc fn first cap =>
    cases fn <;> simp only [reduceCtorEq] at h
    cases h
    refine light_of ⟨.func _ _ _, rfl, ?_⟩
    simp only [VR]
    exact ⟨_, _, rfl, VRs.map_arr _ fun x hx => ho x (by rw [Array.toList_append]; exact List.mem_append_left _ hx), VRs.map_arr _ fun x hx => ho x (by rw [Array.toList_append]; exact List.mem_append_right _ hx)⟩
  case slice t x lo hi mx =>
    exact light_of (slice_sound h hr (ho x (by simp)) (ORs.map lo fun y hy => ho y (by simp [hy])) (ORs.map hi fun y hy => ho y (by simp [hy])) (ORs.map mx fun y hy => ho y (by simp [hy])))
  case fieldAddr s x f =>
    have h1 := ho x (by simp)
    split at h <;> (try (cases h; done))
    rename_i fs hu
    split at h <;> (try (cases h; done))
    rename_i off m hf
    obtain ⟨k1, k2⟩ := fieldAddr_sound (w := w) hu hf h1
    split at h <;> (try (cases h; done))
    · rename_i id o hx; cases h; exact light_of (k1 _ _ hx)
    · rename_i cs hx; cases h; exact light_of (k2 _ hx)
  case field s x f =>
    have h1 := ho x (by simp)
    split at h <;> (try (cases h; done))
    rename_i fs cs hu hx
    split at h <;> (try (cases h; done))
    rename_i fd hf
    rw [hx] at h1
    exact light_of (field_sound hu hf h h1)
  case indexAddr t x ix =>
    have h1 := ho x (by simp)
    have h2 := ho ix (by simp)
    split at h <;> (try (cases h; done))
    rename_i k n hn
    rw [hn] at h2
    simp only [VR] at h2
    rw [h2]
    exact light_of (indexAddr_sound h h1)
  case index t x ix =>
    have h1 := ho x (by simp)
    have h2 := ho ix (by simp)
    split at h <;> (try (cases h; done))
    rename_i k n hn
    rw [hn] at h2
    simp only [VR] at h2
    rw [h2]
    exact light_of (index_sound h h1)
  case lookup t x ix ok => exact light_of (lookup_sound h hr (ho x (by simp)) (ho ix (by simp)))
  case typeAssert x xt t ok => exact light_of (assert_sound h (ho x (by simp)))
  case extract t ix =>
    have h1 := ho t (by simp)
    split at h <;> (try (cases h; done))
    rename_i vs hx
    rw [hx] at h1
    exact light_of (extract_sound h h1)
  case call c =>
    obtain ⟨callee, args, argTypes⟩ := c
    cases callee <;> simp only [reduceCtorEq] at h
    rename_i b
    have hv : VRs E (args.toList.map ρa) (args.map ρ).toList := VRs.map_arr _ fun x hx => ho x (by simp at hx; simp [Call.operands, hx])
    obtain ⟨v, v1, v2⟩ := lightB_sound (ty := type) (cs := args.map fun | .const _ => true | _ => false) h hr hv
    rw [Array.toArray_toList, Array.toArray_toList] at v1
    refine ⟨v, ?_, v2⟩
    simp only [resolve, invoke, Sem.run_bind, Sem.run_pure, Result.andThen_ok]
    exact v1
end
end Go.Am

namespace Go.Am

def DR (E : Env) : ADef → Deferred → Prop
  | .fn f args, D => ∃ cap x : Array Value, D = { target := .fn (.func f) cap, args := x } ∧ VRs E args (x ++ cap).toList
  | .coll id, D => ∃ b s n, E.ι id = some (b, s, n) ∧ D = { target := .collected b, args := #[] }

def NOK (P : Program) (E : Env) (w : World) (s : Sem Next) (H' : AH) : AN → Prop
  | .val a => ∃ E' v w', s.run P w = .ok (.value v) w' ∧ HR E' H' w' ∧ Ext E w E' w' ∧ VR E' a v
  | .skip => ∃ E' w', s.run P w = .ok .skip w' ∧ HR E' H' w' ∧ Ext E w E' w'
  | .enter f args => ∃ vs : Array Value, s.run P w = .ok (.enter f vs) w ∧ VRs E args vs.toList ∧ HR E H' w
  | .known f a => ∃ vs : Array Value, s.run P w = .ok (.enter f vs) w ∧ ∀ cs, ∃ fr E' v w', Steps P (lone (Frame.enter P f vs .normal) cs w) (lone fr cs w') ∧ fr.leaving P w' (.returned v) ∧ HR E' H' w' ∧ Ext E w E' w' ∧ VR E' a v
  | .round id args => ∃ l p n, ∃ vs : Array Value, E.ι id = some (l, p, n) ∧ s.run P w = (Instr.yield l vs).run P w ∧ VRs E args vs.toList ∧ HR E H' w
  | .defer d => ∃ D, s.run P w = .ok (.defer D) w ∧ DR E d D ∧ HR E H' w
  | .recover => s.run P w = .ok .recover w ∧ HR E H' w
  | .panic a => ∃ v, s.run P w = .halt (.panic v) w ∧ VR E a v ∧ HR E H' w

/-- what is known of the program's variables -/
def GOK (C : Cx) (E : Env) : Prop := (∀ g cs, C.G g = some cs → VR E (.ip cs) (.pointer (some ⟨g, 0, none⟩))) ∧ ∀ p ∈ C.ints, ∃ m : Int, E.I p.1 0 = some (.int p.2 m)
theorem GOK.mono {C : Cx} {E E' : Env} (h : E.le E') (k : GOK C E) : GOK C E' := ⟨fun g cs hg => VR.mono h _ _ (k.1 g cs hg), fun p hp => let ⟨m, hm⟩ := k.2 p hp; ⟨m, h.I _ _ _ hm⟩⟩

def XOK (C : Cx) (f : FuncId) (k : XK) : Prop :=
  let P := C.P
  ∀ fn, P.funcs[f]? = some fn → ∀ (E : Env) (H : AH) (w : World) (args : List AV) (vs : Array Value) (a : AV) (H' : AH), GOK C E → ax P H k fn.resultTypes args = some (a, H') → HR E H w → VRs E args vs.toList →
    match fn.body with
    | none => ∃ E' v w', (callFunc f vs).run P w = .ok (.value v) w' ∧ HR E' H' w' ∧ Ext E w E' w' ∧ VR E' a v
    | some _ => ∀ cs, ∃ fr E' v w', Steps P (lone (Frame.enter P f vs .normal) cs w) (lone fr cs w') ∧ fr.leaving P w' (.returned v) ∧ HR E' H' w' ∧ Ext E w E' w' ∧ VR E' a v

structure CxOK (C : Cx) : Prop where
  mixed : C.P.follows .mixedOrders = true
  noNG : ∀ (f : FuncId) fn, C.P.funcs[f]? = some fn → (fn.name == "runtime.NumGoroutine") = false
  x : ∀ f k, C.X f = some k → XOK C f k

section
variable {C : Cx} {E : Env} {H : AH} {w : World}

theorem callFn_sound (hC : CxOK C) (hG : GOK C E) {f : FuncId} {args : List AV} {vs : Array Value} {n : AN} {H' : AH} (h : acallFn C H f args = some (n, H')) (hr : HR E H w) (hv : VRs E args vs.toList) :
    NOK C.P E w (callFunc f vs) H' n := by
  unfold acallFn at h
  split at h <;> (try (cases h; done))
  rename_i fn hf
  have hng := hC.noNG f fn hf
  have enter : ∀ c, fn.body = some c → (callFunc f vs).run C.P w = .ok (.enter f vs) w := fun c hc => by
    have hng' : ¬ fn.name = "runtime.NumGoroutine" := by simpa using hng
    simp [callFunc, program, Sem.run, hf, hng', hc]
  split at h
  · rename_i k hk
    split at h <;> (try (cases h; done))
    rename_i a H1 ha
    simp only [Option.some.injEq, Prod.mk.injEq] at h
    obtain ⟨rfl, rfl⟩ := h
    have := hC.x f k hk fn hf E H w args vs a H1 hG ha hr hv
    cases hb : fn.body with
    | none => rw [hb] at this; exact this
    | some c =>
      rw [hb] at this
      exact ⟨vs, enter c hb, this⟩
  · split at h <;> (try (cases h; done))
    rename_i c hb
    simp only [Option.some.injEq, Prod.mk.injEq] at h
    obtain ⟨rfl, rfl⟩ := h
    exact ⟨vs, enter c hb, hv, hr⟩

theorem method_sound {t : TypeId} {name : String} {f : FuncId} (h : amethod C t name = some f) (n : Nat) (v : Value) (w : World) : (method (n + 1) t v name).run C.P w = .ok (f, v) w := by
  unfold amethod at h
  split at h <;> (try (cases h; done))
  rename_i i hi
  split at h <;> (try (cases h; done))
  rename_i m hm
  split at h <;> (try (cases h; done))
  rename_i hp
  have hp : m.path = #[] := by simpa using hp
  split at h <;> (try (cases h; done))
  · rename_i f' e hf hu
    cases h
    simp [method, info_sound hi, hm, hp, follow, hf, receiverAt, und_sound hu, Place.get]
  · rename_i f' d hnp hf hu
    cases h
    cases d <;> first | exact absurd rfl (hnp _) | simp [method, info_sound hi, hm, hp, follow, hf, receiverAt, und_sound hu, Place.get]

theorem callMethod_sound (hC : CxOK C) (hG : GOK C E) {t : TypeId} {name : String} {f : FuncId} {a : AV} {args : List AV} {v : Value} {vs : Array Value} {n : AN} {H' : AH} (hm : amethod C t name = some f) (h : acallFn C H f (a :: args) = some (n, H')) (hr : HR E H w)
    (ha : VR E a v) (hv : VRs E args vs.toList) : NOK C.P E w (callMethod (.iface t v) name vs) H' n := by
  have hd : ∃ k, C.P.types.size + Made.depth = k + 1 := by
    have : 0 < Made.depth := by decide
    exact ⟨C.P.types.size + Made.depth - 1, by omega⟩
  obtain ⟨k, hk⟩ := hd
  have hv2 : VRs E (a :: args) (#[v] ++ vs).toList := by
    simp only [Array.toList_append, VRs]
    exact ⟨v, vs.toList, rfl, ha, hv⟩
  have := callFn_sound hC hG h hr hv2
  have hrun : (callMethod (.iface t v) name vs).run C.P w = (callFunc f (#[v] ++ vs)).run C.P w := by
    have hp : (program).run C.P w = .ok C.P w := rfl
    simp only [callMethod, Sem.run_bind, hp, Result.andThen_ok, hk, method_sound hm]
  cases n <;> simp only [NOK, hrun] at this ⊢ <;> exact this

theorem NOK_congr {P : Program} {s s' : Sem Next} {n : AN} {H' : AH} (h : s.run P w = s'.run P w) (k : NOK P E w s' H' n) : NOK P E w s H' n := by
  cases n <;> simp only [NOK, h] at k ⊢ <;> exact k

theorem acall_sound (hC : CxOK C) (hG : GOK C E) {ρa : Operand → AV} {ρ : Operand → Value} {c : Call} {ty : TypeId} {n : AN} {H' : AH} (h : acall C ρa H c ty = some (n, H')) (hr : HR E H w) (ho : ∀ x ∈ c.operands.toList, VR E (ρa x) (ρ x)) :
    NOK C.P E w (do let d ← resolve ρ c ty; invoke d.target d.args) H' n := by
  obtain ⟨callee, args, argTypes⟩ := c
  have hv : VRs E (args.toList.map ρa) (args.map ρ).toList := VRs.map_arr _ fun x hx => ho x (by unfold Call.operands; rw [Array.toList_append]; exact List.mem_append_right _ hx)
  unfold acall at h
  simp only at h
  split at h
  · simp only [Option.some.injEq, Prod.mk.injEq] at h
    obtain ⟨rfl, rfl⟩ := h
    exact ⟨rfl, hr⟩
  · rename_i b _
    split at h <;> (try (cases h; done))
    rename_i a H1 ha
    simp only [Option.some.injEq, Prod.mk.injEq] at h
    obtain ⟨rfl, rfl⟩ := h
    obtain ⟨E', v, w', v1, v2⟩ := builtin_sound (ty := ty) (cs := args.map fun | .const _ => true | _ => false) ha hr hv
    refine ⟨E', v, w', ?_, v2⟩
    rw [Array.toArray_toList, Array.toArray_toList] at v1
    simp only [resolve, invoke, Sem.run_bind, Sem.run_pure, Result.andThen_ok]
    exact v1
  · rename_i recv name
    split at h <;> (try (cases h; done))
    rename_i t v hx
    split at h <;> (try (cases h; done))
    rename_i f hm
    have h1 := ho recv (by simp [Call.operands])
    rw [hx] at h1
    simp only [VR] at h1
    obtain ⟨u, h1, h2⟩ := h1
    refine NOK_congr ?_ (callMethod_sound hC hG hm h hr h2 hv)
    simp only [resolve, invoke, Sem.run_bind, Sem.run_pure, Result.andThen_ok, h1]
    have e1 : (#[Value.iface t u] ++ args.map ρ)[0]? = some (Value.iface t u) := by
      rw [Array.getElem?_append_left (by simp)]; rfl
    have e2 : (#[Value.iface t u] ++ args.map ρ).extract 1 (#[Value.iface t u] ++ args.map ρ).size = args.map ρ := by
      apply Array.ext'
      simp only [Array.toList_extract, Array.toList_append, List.extract_eq_take_drop, Array.size_append]
      simp
      rw [List.take_of_length_le (by simp)]
    simp only [e1, e2]
  · rename_i f
    have h1 := ho f (by simp [Call.operands])
    split at h
    · rename_i g first cap hx
      rw [hx] at h1
      simp only [VR] at h1
      obtain ⟨x, y, h1, h2, h3⟩ := h1
      refine NOK_congr ?_ (callFn_sound hC hG (vs := x ++ args.map ρ ++ y) h hr (by
        simp only [Array.toList_append]
        exact (h2.append hv).append h3))
      simp only [resolve, h1, Deferred.ofValue, invoke, Sem.run_bind, Sem.run_pure, Result.andThen_ok]
    · rename_i id hx
      rw [hx] at h1
      simp only [VR] at h1
      obtain ⟨b, s, n, hi, h1⟩ := h1
      simp only [Option.some.injEq, Prod.mk.injEq] at h
      obtain ⟨rfl, rfl⟩ := h
      refine ⟨b, s, n, args.map ρ, hi, ?_, hv, hr⟩
      simp only [resolve, h1, Deferred.ofValue, invoke, Sem.run_bind, Sem.run_pure, Result.andThen_ok]
      simp
    · cases h

theorem fresh_sound {ρa : Operand → AV} {ρ : Operand → Value} {o : Oper} {k : FK} {x : Blk} (h : afresh C ρa o = some (k, x)) (ho : Opds E o ρa ρ) :
    ∃ s, (execOp ρ o).run C.P w = (do pure (.value (← s)) : Sem Next).run C.P w ∧ Fresh C.P E w s k x := by
  obtain ⟨dst, op, type, pos, after, guard⟩ := o
  unfold Opds at ho
  unfold afresh at h
  cases op <;> simp only [reduceCtorEq] at h <;> simp only [Op.operands] at ho <;> simp only [execOp]
  case alloc t =>
    split at h <;> (try (cases h; done))
    rename_i cs hz
    cases h
    exact ⟨_, rfl, alloc_sound hz⟩
  case box t x =>
    split at h <;> (try (cases h; done))
    rename_i cs hz
    cases h
    exact ⟨_, rfl, box_sound hz (ho x (by simp))⟩
  case buildSlice t n ps => exact ⟨_, rfl, buildSlice_sound h _ (PRs.map_arr ps (by simpa using ho))⟩
  case makeMap t r =>
    cases r <;> simp only [reduceCtorEq] at h
    split at h <;> (try (cases h; done))
    rename_i kt e hu
    cases h
    exact ⟨_, rfl, makeMap_sound hu⟩
  case makeSlice t l c =>
    have h1 := ho l (by simp)
    have h2 := ho c (by simp)
    split at h <;> (try (cases h; done))
    rename_i e ln cn hu hl hc
    split at h <;> (try (cases h; done))
    rename_i st z inf ln' cn' hst hz hi hln hcn
    split at h <;> (try (cases h; done))
    rename_i hcond
    obtain ⟨c1, c2, c3, c4, c5⟩ := hcond
    cases h
    rw [hl] at h1
    rw [hc] at h2
    simp only [VR] at h1 h2
    have e1 := asNat_eq hln
    have e2 := asNat_eq hcn
    subst e1 e2
    rw [h1, h2]
    exact ⟨_, rfl, makeSlice_sound hu hst hz hi c1 c2 c3 c4 c5⟩

theorem val_of {P : Program} {s : Sem Value} {a : AV} {H' : AH} (h : Gives P E w s a H') : NOK P E w (do pure (.value (← s))) H' (.val a) := by
  obtain ⟨E', v, w', h1, h2⟩ := h
  exact ⟨E', v, w', by simp [h1], h2⟩
theorem skip_of {P : Program} {s : Sem Unit} {H' : AH} (h : ∃ w', s.run P w = .ok () w' ∧ HR E H' w' ∧ Ext E w E w') : NOK P E w (do s; pure .skip) H' .skip := by
  obtain ⟨w', h1, h2⟩ := h
  exact ⟨E, w', by simp [h1], h2⟩

theorem Fresh.gives {P : Program} {s : Sem Value} {k : FK} {x : Blk} (h : Fresh P E w s k x) (hr : HR E H w) : Gives P E w s (k.mk H.nxt) (H.new x) := by
  obtain ⟨obj, n, v, h1, h2⟩ := h
  obtain ⟨q1, q2⟩ := h2 H.nxt hr.fresh
  obtain ⟨r1, r2⟩ := hr.alloc obj x n q1
  exact ⟨_, v, _, h1, r1, r2, q2⟩

theorem aheavy_sound (hC : CxOK C) (hG : GOK C E) {ρa : Operand → AV} {ρ : Operand → Value} {o : Oper} {n : AN} {H' : AH} (h : aheavy C ρa H o = some (n, H')) (hr : HR E H w) (ho : Opds E o ρa ρ) : NOK C.P E w (execOp ρ o) H' n := by
  by_cases hfr : freshOp o = true
  · have h' : (match afresh C ρa o with | some (k, x) => some (AN.val (k.mk H.nxt), H.new x) | none => none) = some (n, H') := by
      obtain ⟨dst, op, type, pos, after, guard⟩ := o
      cases op <;> simp only [freshOp, Bool.false_eq_true] at hfr <;> first | exact h | skip
      rename_i t r
      cases r <;> simp only [Bool.false_eq_true] at hfr
      exact h
    split at h' <;> (try (cases h'; done))
    rename_i k x hk
    cases h'
    obtain ⟨s, s1, s2⟩ := fresh_sound (w := w) hk ho
    exact NOK_congr s1 (val_of (s2.gives hr))
  · obtain ⟨dst, op, type, pos, after, guard⟩ := o
    unfold Opds at ho
    unfold aheavy at h
    cases op <;> simp only [reduceCtorEq] at h <;> (try (exact absurd rfl hfr)) <;> simp only [Op.operands] at ho <;> simp only [execOp]
    case store t a x =>
      split at h <;> (try (cases h; done))
      rename_i H1 hs
      cases h
      exact skip_of (astore_sound hs hr (ho a (by simp)) (ho x (by simp)))
    case convert s d x =>
      split at h <;> (try (cases h; done))
      rename_i a H1 hs
      cases h
      exact val_of (convert_sound hs hr (ho x (by simp)))
    case makeMap t r =>
      cases r with
      | none => exact absurd rfl hfr
      | some r => simp only [reduceCtorEq] at h
    case mapUpdate t m k x =>
      split at h <;> (try (cases h; done))
      rename_i H1 hs
      cases h
      exact skip_of (update_sound hs hr (ho m (by simp)) (ho k (by simp)) (ho x (by simp)))
    case insert t m k x =>
      split at h <;> (try (cases h; done))
      rename_i H1 hs
      cases h
      exact skip_of (update_sound hs hr (ho m (by simp)) (ho k (by simp)) (ho x (by simp)))
    case mapEntry t m k =>
      split at h <;> (try (cases h; done))
      rename_i a H1 hs
      cases h
      exact val_of (entry_sound hs hr (ho m (by simp)) (ho k (by simp)))
    case entryStore t m s x =>
      split at h <;> (try (cases h; done))
      rename_i H1 hs
      cases h
      exact skip_of (entryStore_sound hs hr (ho m (by simp)) (ho s (by simp)) (ho x (by simp)))
    case range t x =>
      have h1 := ho x (by simp)
      split at h <;> (try (cases h; done))
      rename_i s hu hx
      cases h
      rw [hx] at h1
      exact val_of (range_sound hu h1 hr)
    case next it b =>
      have h1 := ho it (by simp)
      cases b <;> simp only [reduceCtorEq] at h
      split at h <;> (try (cases h; done))
      rename_i id hx
      rw [hx] at h1
      split at h <;> (try (cases h; done))
      rename_i s pos hg
      have := next_sound (P := C.P) (ty := type) h1 hg hr
      split at h
      · rename_i hp
        cases h
        simp only [hp, if_true] at this
        exact val_of this
      · rename_i hp
        cases h
        simp only [hp, if_false] at this
        exact val_of this
    case call c => exact acall_sound hC hG h hr (by simpa using ho)
    case defer c =>
      obtain ⟨callee, args, argTypes⟩ := c
      have hv : VRs E (args.toList.map ρa) (args.map ρ).toList := VRs.map_arr _ fun x hx => ho x (by unfold Call.operands; rw [Array.toList_append]; exact List.mem_append_right _ hx)
      cases callee <;> simp only [reduceCtorEq] at h
      rename_i f
      have h1 := ho f (by simp [Call.operands])
      split at h <;> (try (cases h; done))
      rename_i g first cap hx
      cases h
      rw [hx] at h1
      simp only [VR] at h1
      obtain ⟨x, y, h1, h2, h3⟩ := h1
      refine ⟨{ target := .fn (.func g) y, args := x ++ args.map ρ }, ?_, ⟨y, x ++ args.map ρ, rfl, ?_⟩, hr⟩
      · simp only [resolve, h1, Deferred.ofValue, Sem.run_bind, Sem.run_pure, Result.andThen_ok]
      · simp only [Array.toList_append]
        exact (h2.append hv).append h3
    case panic x =>
      have h1 := ho x (by simp)
      split at h <;> (try (cases h; done))
      rename_i t a hx
      cases h
      rw [hx] at h1
      have h1' := h1
      simp only [VR] at h1
      obtain ⟨u, h1, h2⟩ := h1
      refine ⟨_, ?_, h1', hr⟩
      rw [h1]
      simp [Instr.panic, goPanic]
end
end Go.Am

namespace Go.Am

def IR (E : Env) : AI → Item → Prop
  | .code c, x => x = .code c
  | .inBlock i, x => x = .inBlock i
  | .inLoop b, x => x = .inLoop b
  | .inScope b, x => x = .inScope b
  | .inRegion ops t, x => x = .inRegion ops t
  | .inRF id, x => ∃ b s n, E.ι id = some (b, s, n) ∧ x = .inRangeFunc b
  | .endRF id, x => ∃ b s n, E.ι id = some (b, s, n) ∧ x = .endRangeFunc b
  | .beginRound, x => x = .beginRound
def IRs (E : Env) : List AI → List Item → Prop
  | [], xs => xs = []
  | a :: as, xs => ∃ x rest, xs = x :: rest ∧ IR E a x ∧ IRs E as rest
def DRs (E : Env) : List ADef → List Deferred → Prop
  | [], xs => xs = []
  | a :: as, xs => ∃ x rest, xs = x :: rest ∧ DR E a x ∧ DRs E as rest
def ChR (E : Env) : List (AV × Bool) → List PanicEntry → Prop
  | [], xs => xs = []
  | (a, r) :: as, xs => ∃ v rest, xs = { v, recovered := r, goexit := false } :: rest ∧ VR E a v ∧ ChR E as rest
def MR (E : Env) : AMode → FrameMode → Prop
  | .run, m => m = .run
  | .ret, m => m = .returning
  | .pan ch, m => ∃ es, m = .panicking es ∧ ChR E ch es
def RoR (E : Env) : Option Nat → Option Nat → Prop
  | none, r => r = none
  | some id, r => ∃ b s n, E.ι id = some (b, s, n) ∧ r = some b

structure FR (E : Env) (a : AF) (f : Frame) : Prop where
  fn : f.fn = a.fn
  tmps : TR E a.tmps a.n f.tmps
  todo : a.mode = .run → IRs E a.todo f.todo
  defers : DRs E a.defers f.defers
  mode : MR E a.mode f.mode
  kind : f.kind = a.kind
  roundOf : RoR E a.roundOf f.roundOf
def FRs (E : Env) : List AF → List Frame → Prop
  | [], xs => xs = []
  | a :: as, xs => ∃ x rest, xs = x :: rest ∧ FR E a x ∧ FRs E as rest

section
variable {E E' : Env}
theorem IR.mono (h : E.le E') : ∀ {a : AI} {x : Item}, IR E a x → IR E' a x
  | .code _, _, k | .inBlock _, _, k | .inLoop _, _, k | .inScope _, _, k | .inRegion .., _, k | .beginRound, _, k => k
  | .inRF _, _, k | .endRF _, _, k => let ⟨b, s, n, h1, h2⟩ := k; ⟨b, s, n, h.ι _ _ h1, h2⟩
theorem IRs.mono (h : E.le E') : ∀ {a : List AI} {x : List Item}, IRs E a x → IRs E' a x
  | [], _, k => k
  | _ :: _, _, k => let ⟨x, r, h1, h2, h3⟩ := k; ⟨x, r, h1, h2.mono h, IRs.mono h h3⟩
theorem DR.mono (h : E.le E') : ∀ {a : ADef} {x : Deferred}, DR E a x → DR E' a x
  | .fn _ _, _, k => let ⟨c, x, h1, h2⟩ := k; ⟨c, x, h1, VRs.mono h _ _ h2⟩
  | .coll _, _, k => let ⟨b, s, n, h1, h2⟩ := k; ⟨b, s, n, h.ι _ _ h1, h2⟩
theorem DRs.mono (h : E.le E') : ∀ {a : List ADef} {x : List Deferred}, DRs E a x → DRs E' a x
  | [], _, k => k
  | _ :: _, _, k => let ⟨x, r, h1, h2, h3⟩ := k; ⟨x, r, h1, h2.mono h, DRs.mono h h3⟩
theorem ChR.mono (h : E.le E') : ∀ {a : List (AV × Bool)} {x : List PanicEntry}, ChR E a x → ChR E' a x
  | [], _, k => k
  | (_, _) :: _, _, k => let ⟨x, r, h1, h2, h3⟩ := k; ⟨x, r, h1, VR.mono h _ _ h2, ChR.mono h h3⟩
theorem ChR.append : ∀ {a b : List (AV × Bool)} {x y : List PanicEntry}, ChR E a x → ChR E b y → ChR E (a ++ b) (x ++ y)
  | [], _, _, _, h, k => by simp only [ChR] at h; subst h; exact k
  | (_, _) :: _, _, _, _, h, k => let ⟨x, r, h1, h2, h3⟩ := h; by subst h1; exact ⟨x, _, rfl, h2, ChR.append h3 k⟩
theorem MR.mono (h : E.le E') : ∀ {a : AMode} {x : FrameMode}, MR E a x → MR E' a x
  | .run, _, k | .ret, _, k => k
  | .pan _, _, k => let ⟨es, h1, h2⟩ := k; ⟨es, h1, h2.mono h⟩
theorem RoR.mono (h : E.le E') : ∀ {a : Option Nat} {x : Option Nat}, RoR E a x → RoR E' a x
  | none, _, k => k
  | some _, _, k => let ⟨b, s, n, h1, h2⟩ := k; ⟨b, s, n, h.ι _ _ h1, h2⟩
theorem FR.mono (h : E.le E') {a : AF} {f : Frame} (k : FR E a f) : FR E' a f :=
  ⟨k.fn, k.tmps.mono h, fun hm => (k.todo hm).mono h, k.defers.mono h, k.mode.mono h, k.kind, k.roundOf.mono h⟩
theorem FRs.mono (h : E.le E') : ∀ {a : List AF} {x : List Frame}, FRs E a x → FRs E' a x
  | [], _, k => k
  | _ :: _, _, k => let ⟨x, r, h1, h2, h3⟩ := k; ⟨x, r, h1, h2.mono h, FRs.mono h h3⟩
end

section
variable {C : Cx} {E : Env} {H : AH} {w : World}

theorem tget_sound {T : PT AV} {n : Nat} {tmps : Array Value} (ht : TR E T n tmps) (t : Nat) : VR E (tget T t) (tmps.getD t undef) := by
  unfold tget
  split
  · rename_i a ha
    obtain ⟨v, h1, h2⟩ := ht.2 t a ha
    simpa [Array.getD_eq_getD_getElem?, h1] using h2
  · simp [VR]

theorem ev_sound (hG : GOK C E) {T : PT AV} {n : Nat} {a : Act} (ht : TR E T n a.tmps) (x : Operand) : VR E (aev C T x) (a.eval x) := by
  cases x with
  | tmp t => exact tget_sound ht t
  | const v => exact ofV_sound 3 v
  | global g =>
    simp only [aev, Act.eval]
    split
    · rename_i cs hg; exact hG.1 g cs hg
    · simp [VR]
  | func f => simp only [aev, Act.eval, VR]; exact ⟨#[], #[], rfl, by simp [VRs], by simp [VRs]⟩

theorem TR.set {T : PT AV} {n : Nat} {tmps : Array Value} (ht : TR E T n tmps) (d : Nat) {a : AV} {v : Value} (hv : VR E a v) : TR E (tset T n d a) n (tmps.setIfInBounds d v) := by
  refine ⟨by simpa using ht.1, fun t b hb => ?_⟩
  unfold tset at hb
  cases hlt : Nat.blt d n
  · rw [hlt] at hb
    simp only [cond_false] at hb
    have hnl : ¬ d < n := fun h => by rw [← Nat.blt_eq] at h; rw [h] at hlt; cases hlt
    obtain ⟨u, h1, h2⟩ := ht.2 t b hb
    refine ⟨u, ?_, h2⟩
    have : d ≠ t := fun e => by
      subst e
      have := (Array.getElem?_eq_some_iff.1 h1).1
      rw [ht.1] at this
      exact hnl this
    rw [Array.getElem?_setIfInBounds_ne this]
    exact h1
  · rw [hlt] at hb
    simp only [cond_true] at hb
    have hl : d < n := by rwa [Nat.blt_eq] at hlt
    rcases PT.get_set_some hb with ⟨rfl, h1⟩ | ⟨hne, h1⟩
    · cases h1
      refine ⟨v, ?_, hv⟩
      rw [Array.getElem?_setIfInBounds_self, if_pos (by rw [ht.1]; exact hl)]
    · obtain ⟨u, k1, k2⟩ := ht.2 t b h1
      exact ⟨u, by rw [Array.getElem?_setIfInBounds_ne (Ne.symm hne)]; exact k1, k2⟩

theorem TR.put {T : PT AV} {n : Nat} {a : Act} (ht : TR E T n a.tmps) (d : Option Nat) {x : AV} {v : Value} (hv : VR E x v) : TR E (tput T n d x) n (a.put d v).tmps := by
  cases d with
  | none => exact ht
  | some d => exact ht.set d hv

theorem FR.fin {a : AF} {f : Frame} {x : AV} {v : Value} (h : FR E a f) (hm : a.mode = .run) (hv : VR E x v) : FR E (afin a x) (f.finish v) := by
  obtain ⟨fn, T, n, todo, defers, mode, kind, ro⟩ := a
  obtain ⟨fn', tmps, todo', defers', mode', kind', ro'⟩ := f
  obtain ⟨h1, h2, h3, h4, h5, h6, h7⟩ := h
  simp only at h1 h2 h3 h4 h5 h6 h7 hm
  have h3 := h3 hm
  cases todo with
  | nil => simp only [IRs] at h3; subst h3; exact ⟨h1, h2, fun _ => rfl, h4, h5, h6, h7⟩
  | cons i k =>
    simp only [IRs] at h3
    obtain ⟨y, rest, rfl, hi, hk⟩ := h3
    cases i with
    | inRegion ops l =>
      simp only [IR] at hi; subst hi
      cases l with
      | nil => exact ⟨h1, h2, fun _ => ⟨_, _, rfl, rfl, hk⟩, h4, h5, h6, h7⟩
      | cons i l =>
        refine ⟨h1, ?_, fun _ => ⟨_, _, rfl, rfl, hk⟩, h4, h5, h6, h7⟩
        simp only [afin, Frame.finish]
        cases ho : ops[i]? with
        | none => exact h2
        | some o =>
          simp only [Option.bind_some]
          cases hd : o.dst with
          | none => exact h2
          | some d => exact h2.set d hv
    | inRF id =>
      obtain ⟨b, s, m, hb, rfl⟩ := hi
      exact ⟨h1, h2, fun _ => ⟨_, _, rfl, ⟨b, s, m, hb, rfl⟩, hk⟩, h4, h5, h6, h7⟩
    | beginRound => simp only [IR] at hi; subst hi; exact ⟨h1, h2, fun _ => hk, h4, h5, h6, h7⟩
    | endRF id =>
      obtain ⟨b, s, m, hb, rfl⟩ := hi
      exact ⟨h1, h2, fun _ => ⟨_, _, rfl, ⟨b, s, m, hb, rfl⟩, hk⟩, h4, h5, h6, h7⟩
    | _ => simp only [IR] at hi; subst hi; exact ⟨h1, h2, fun _ => ⟨_, _, rfl, rfl, hk⟩, h4, h5, h6, h7⟩

theorem exitTo_sound {id : Nat} : ∀ {k : List AI} {k' : List Item}, IRs E k k' → match aexitTo id k with | some r => ∃ r', exitTo id k' = some r' ∧ IRs E r r' | none => exitTo id k' = none
  | [], _, h => by simp only [IRs] at h; subst h; rfl
  | i :: k, _, h => by
    simp only [IRs] at h
    obtain ⟨y, rest, rfl, hi, hk⟩ := h
    have ih := exitTo_sound (id := id) hk
    cases i with
    | inBlock b =>
      simp only [IR] at hi; subst hi
      simp only [aexitTo, exitTo]
      by_cases hb : (b == id) = true
      · simp only [hb, if_true]; exact ⟨_, rfl, hk⟩
      · simp only [hb, if_false, Bool.false_eq_true]; exact ih
    | inRF _ => obtain ⟨_, _, _, _, rfl⟩ := hi; exact ih
    | endRF _ => obtain ⟨_, _, _, _, rfl⟩ := hi; exact ih
    | _ => simp only [IR] at hi; subst hi; exact ih

theorem gotoIn_sound {l : Nat} : ∀ {k : List AI} {k' : List Item}, IRs E k k' → match agotoIn l k with | some r => ∃ r', gotoIn l k' = some r' ∧ IRs E r r' | none => gotoIn l k' = none
  | [], _, h => by simp only [IRs] at h; subst h; rfl
  | i :: k, _, h => by
    simp only [IRs] at h
    obtain ⟨y, rest, rfl, hi, hk⟩ := h
    have ih := gotoIn_sound (l := l) hk
    cases i with
    | inScope b =>
      simp only [IR] at hi; subst hi
      simp only [agotoIn, gotoIn]
      cases hb : findLabel b l with
      | none => exact ih
      | some r => exact ⟨_, rfl, _, _, rfl, rfl, _, _, rfl, rfl, hk⟩
    | inRF _ => obtain ⟨_, _, _, _, rfl⟩ := hi; exact ih
    | endRF _ => obtain ⟨_, _, _, _, rfl⟩ := hi; exact ih
    | _ => simp only [IR] at hi; subst hi; exact ih

theorem enter_sound {f : FuncId} {args : List AV} {vs : Array Value} {kind : CallKind} {g : AF} (h : aenter C f args kind = some g) (hv : VRs E args vs.toList) : FR E g (Frame.enter C.P f vs kind) := by
  unfold aenter at h
  split at h <;> (try (cases h; done))
  rename_i fn hf
  split at h <;> (try (cases h; done))
  rename_i c hb
  split at h <;> (try (cases h; done))
  rename_i hle
  simp only [Option.some.injEq] at h
  subst h
  have hl := hv.length
  simp only [Array.length_toList] at hl
  refine ⟨rfl, ?_, fun _ => ⟨_, _, rfl, by simp [IR, hf, hb], rfl⟩, rfl, rfl, rfl, rfl⟩
  have key : ∀ (as : List AV) (i : Nat) (T : PT AV) (t : Nat) (a : AV), PT.get TD (argsIn as i T) t = some a → (i ≤ t ∧ as[t - i]? = some a) ∨ PT.get TD T t = some a := by
    intro as
    induction as with
    | nil => intro i T t a h; exact .inr h
    | cons x as ih =>
      intro i T t a h
      simp only [argsIn] at h
      rcases ih _ _ _ _ h with ⟨h1, h2⟩ | h1
      · refine .inl ⟨by omega, ?_⟩
        rw [show t - i = (t - (i + 1)) + 1 by omega, List.getElem?_cons_succ]
        exact h2
      · rcases PT.get_set_some h1 with ⟨rfl, h2⟩ | ⟨_, h2⟩
        · exact .inl ⟨Nat.le_refl _, by simpa using h2⟩
        · exact .inr h2
  simp only [Frame.enter, hf, Option.map_some, Option.getD_some]
  refine ⟨by simp; omega, fun t a ha => ?_⟩
  rcases key _ _ _ _ _ ha with ⟨_, h1⟩ | h1
  · obtain ⟨v, k1, k2⟩ := hv.get _ _ h1
    refine ⟨v, ?_, k2⟩
    rw [Nat.sub_zero, Array.getElem?_toList] at k1
    rw [Array.getElem?_append_left (Array.getElem?_eq_some_iff.1 k1).1]
    exact k1
  · rw [PT.get_lf] at h1; cases h1
end
end Go.Am

namespace Go.Am

def Goes (C : Cx) (E : Env) (fr : Frame) (cs rest : List Frame) (w : World) (M' : AM) : Prop :=
  ∃ E' fr' cs' w', Steps C.P (lone fr (cs ++ rest) w) (lone fr' (cs' ++ rest) w') ∧ FRs E' M'.st (fr' :: cs') ∧ HR E' M'.H w' ∧ Ext E w E' w'

def SubOK (C : Cx) (sub : AM → Option AM) : Prop :=
  ∀ M M', sub M = some M' → ∀ E fr cs w rest, FRs E M.st (fr :: cs) → HR E M.H w → GOK C E → Goes C E fr cs rest w M'

section
variable {C : Cx} {E : Env} {H : AH} {w : World}

theorem Goes.one {E' : Env} {af : AF} {below : List AF} {fr fr' : Frame} {cs cs' rest : List Frame} {w' : World} {H' : AH} (hs : step C.P (lone fr (cs ++ rest) w) = .next (lone fr' (cs' ++ rest) w')) (h1 : FR E' af fr') (h2 : FRs E' below cs') (h3 : HR E' H' w') (h4 : Ext E w E' w') :
    Goes C E fr cs rest w { st := af :: below, H := H' } :=
  ⟨E', fr', cs', w', .one hs, ⟨_, _, rfl, h1, h2⟩, h3, h4⟩

theorem atR_self {fr : Frame} (hm : fr.mode = .run) : fr = fr.atR ⟨fr.tmps, fr.defers⟩ fr.todo := by
  cases fr; simp only at hm; subst hm; rfl

/-- where the code goes on in the same frame -/
theorem Goes.to {af : AF} {below : List AF} {fr : Frame} {cs rest : List Frame} {k : List AI} {k' : List Item} (hf : FR E af fr) (hm : af.mode = .run) (hs : step C.P (lone (fr.atR ⟨fr.tmps, fr.defers⟩ fr.todo) (cs ++ rest) w) = .next (lone (fr.atR ⟨fr.tmps, fr.defers⟩ k') (cs ++ rest) w))
    (hk : IRs E k k') (h2 : FRs E below cs) (h3 : HR E H w) : Goes C E fr cs rest w { st := { af with todo := k } :: below, H := H } := by
  have hmode : fr.mode = .run := by have := hf.mode; rw [hm] at this; exact this
  rw [← atR_self hmode] at hs
  exact Goes.one hs ⟨hf.fn, hf.tmps, fun _ => hk, hf.defers, by simp only [hm, MR]; rfl, hf.kind, hf.roundOf⟩ h2 h3 (.refl E w)

theorem raise_sound {af : AF} {fr : Frame} {es : List (AV × Bool)} {ps : List PanicEntry} (h : FR E af fr) (he : ChR E es ps) : FR E (araise af es) (fr.raise ps) := by
  have hm := h.mode
  cases ha : af.mode with
  | pan ch =>
    rw [ha] at hm
    obtain ⟨q, h1, h2⟩ := hm
    have e1 : araise af es = { af with mode := .pan (es ++ ch) } := by simp [araise, ha]
    have e2 : fr.raise ps = { fr with mode := .panicking (ps ++ q) } := by simp [Frame.raise, h1]
    rw [e1, e2]
    exact ⟨h.fn, h.tmps, (fun h => by cases h), h.defers, ⟨_, rfl, he.append h2⟩, h.kind, h.roundOf⟩
  | run =>
    rw [ha] at hm
    have e1 : araise af es = { af with mode := .pan es } := by simp [araise, ha]
    have e2 : fr.raise ps = { fr with mode := .panicking ps } := by simp only [MR] at hm; simp [Frame.raise, hm]
    rw [e1, e2]
    exact ⟨h.fn, h.tmps, (fun h => by cases h), h.defers, ⟨_, rfl, he⟩, h.kind, h.roundOf⟩
  | ret =>
    rw [ha] at hm
    have e1 : araise af es = { af with mode := .pan es } := by simp [araise, ha]
    have e2 : fr.raise ps = { fr with mode := .panicking ps } := by simp only [MR] at hm; simp [Frame.raise, hm]
    rw [e1, e2]
    exact ⟨h.fn, h.tmps, (fun h => by cases h), h.defers, ⟨_, rfl, he⟩, h.kind, h.roundOf⟩

theorem chR_one {a : AV} {v : Value} (h : VR E a v) : ChR E [(a, false)] [{ v, recovered := false }] := ⟨_, _, rfl, h, rfl⟩

theorem wanted_sound {ops : Array Oper} {T : PT AV} {n : Nat} {tmps : Array Value} (ht : TR E T n tmps) {o : Oper} {b : Bool} (h : awanted ops T o = some b) : Region.wanted o (yielded ops tmps) = b := by
  unfold awanted at h
  split at h
  · rename_i hg; cases h; simp [Region.wanted, hg]
  · rename_i j want hg
    simp only [Region.wanted, hg]
    have key : ∀ r, ayield ops T j = some r → yielded ops tmps j = r := by
      intro r hr
      unfold ayield at hr
      split at hr <;> (try (cases hr; done))
      rename_i q hq
      split at hr <;> (try (cases hr; done))
      rename_i d hd
      split at hr <;> (try (cases hr; done))
      · rename_i x hx
        cases hr
        obtain ⟨v, h1, h2⟩ := ht.2 d _ hx
        simp only [VR] at h2; subst h2
        simp [yielded, hq, hd, h1]
      · rename_i l hx
        cases hr
        obtain ⟨v, h1, h2⟩ := ht.2 d _ hx
        simp only [VR] at h2
        obtain ⟨y, rfl, _⟩ := h2
        simp [yielded, hq, hd, h1]
    split at h <;> (try (cases h; done))
    · rename_i x hx
      cases h
      rw [key _ hx]
      simp
    · rename_i hx
      cases h
      rw [key _ hx]
      simp

theorem opds_sound (hG : GOK C E) {T : PT AV} {n : Nat} {a : Act} (ht : TR E T n a.tmps) (o : Oper) : Opds E o (aev C T) a.eval := fun x _ => ev_sound hG ht x

theorem undef_sound : VR E undefA undef := by simp only [undefA, VR, VRs]; exact ⟨#[], rfl, rfl⟩

theorem aload_sound' {t : TypeId} {x a : AV} {v : Value} (h : aload C.P H t x = some a) (hr : HR E H w) (hv : VR E x v) :
    ∃ ad u, v = .pointer (some ad) ∧ (loadVar t ad).run C.P w = .ok u w ∧ VR E a u := by
  obtain ⟨u, h1, h2⟩ := aload_sound h hr hv
  have : ∃ ad, v = .pointer (some ad) := by
    unfold aload at h
    split at h
    · simp only [VR] at hv; obtain ⟨b, s, n, hi, rfl⟩ := hv; exact ⟨_, rfl⟩
    · simp only [VR] at hv; obtain ⟨b, o, vs, rfl, _⟩ := hv; exact ⟨_, rfl⟩
    · cases h
  obtain ⟨ad, rfl⟩ := this
  exact ⟨ad, u, rfl, by simpa [Instr.loadAt, Instr.sureAddr] using h1, h2⟩

theorem results_key {af : AF} {fr : Frame} (hf : FR E af fr) (hr : HR E H w) (F : ResultVar → Sem Value) (h1 : ∀ t, F (.tmp t) = pure (fr.tmps.getD t undef)) (h2 : ∀ a t, F (.cell a t) = do loadVar t (← asAddr (fr.tmps.getD a undef))) :
    ∀ (l : List ResultVar) (as : List AV), aresults.go C af H l = some as → ∃ vs : List Value, (l.mapM F).run C.P w = .ok vs w ∧ VRs E as vs := by
  intro l
  induction l with
  | nil => intro as h; simp only [aresults.go, Option.some.injEq] at h; subst h; exact ⟨[], by simp, rfl⟩
  | cons r l ih =>
    intro as h
    cases r with
    | tmp t =>
      simp only [aresults.go] at h
      split at h <;> (try (cases h; done))
      rename_i as' ha
      cases h
      obtain ⟨vs, v1, v2⟩ := ih _ ha
      exact ⟨fr.tmps.getD t undef :: vs, by simp only [List.mapM_cons, h1, Sem.run_bind, Sem.run_pure, Result.andThen_ok, v1], _, _, rfl, tget_sound hf.tmps t, v2⟩
    | cell c t =>
      simp only [aresults.go] at h
      split at h <;> (try (cases h; done))
      rename_i x as' hx ha
      cases h
      obtain ⟨vs, v1, v2⟩ := ih _ ha
      obtain ⟨ad, u, u0, u1, u2⟩ := aload_sound' hx hr (tget_sound hf.tmps c)
      refine ⟨u :: vs, ?_, _, _, rfl, u2, v2⟩
      have ha : (asAddr (fr.tmps.getD c undef)).run C.P w = .ok ad w := by rw [u0]; simp [asAddr]
      simp only [List.mapM_cons, h2, Sem.run_bind, Sem.run_pure, Result.andThen_ok, ha, u1, v1]

def resF (tmps : Array Value) : ResultVar → Sem Value
  | .tmp t => pure (tmps.getD t undef)
  | .cell a t => do loadVar t (← asAddr (tmps.getD a undef))
theorem results_eq (fn : Func) (tmps : Array Value) : results fn tmps = (do let vs ← fn.results.mapM (resF tmps); pure (if h : vs.size = 1 then vs[0] else .tuple vs)) := by
  unfold results
  congr 2

theorem results_sound {af : AF} {fr : Frame} {a : AV} (h : aresults C af H = some a) (hf : FR E af fr) (hr : HR E H w) : ∃ fn v, C.P.funcs[fr.fn]? = some fn ∧ (results fn fr.tmps).run C.P w = .ok v w ∧ VR E a v := by
  unfold aresults at h
  split at h <;> (try (cases h; done))
  rename_i fn hfn
  have main : ∀ as, aresults.go C af H fn.results.toList = some as → ∃ vs : List Value, (results fn fr.tmps).run C.P w = .ok (if h : vs.toArray.size = 1 then vs.toArray[0] else .tuple vs.toArray) w ∧ VRs E as vs := by
    intro as ha
    rw [results_eq, Array.mapM_eq_mapM_toList]
    obtain ⟨vs, v1, v2⟩ := results_key hf hr (resF fr.tmps) (fun t => rfl) (fun a t => rfl) fn.results.toList as ha
    refine ⟨vs, ?_, v2⟩
    rw [map_eq_pure_bind]
    simp only [Sem.run_bind, v1, Result.andThen_ok, Sem.run_pure]
  refine ⟨fn, ?_⟩
  rw [hf.fn]
  split at h
  · rename_i x hx
    cases h
    obtain ⟨vs, v1, v2⟩ := main _ hx
    simp only [VRs] at v2
    obtain ⟨v, _, rfl, v2, rfl⟩ := v2
    exact ⟨v, hfn, v1, v2⟩
  · rename_i l hn hx
    cases h
    obtain ⟨vs, v1, v2⟩ := main _ hx
    have hl := v2.length
    refine ⟨.tuple vs.toArray, hfn, ?_, by simp only [VR]; exact ⟨_, rfl, v2⟩⟩
    rw [v1, dif_neg]
    intro h1
    simp only [List.size_toArray] at h1
    cases l with
    | nil => simp only [List.length_nil] at hl; omega
    | cons x l => cases l with
      | nil => exact hn x rfl
      | cons y l => simp only [List.length_cons] at hl; omega
  · cases h
end
end Go.Am

namespace Go.Am
section
variable {C : Cx} {E : Env} {H : AH} {w : World}

theorem settle_sound {c : AF} {f : Frame} (h : FR E c f) : FR E (match c.mode with | .pan ((_, true) :: _) => { c with mode := .ret } | _ => c) { f with mode := settle f.mode } := by
  have hm := h.mode
  have noexit : ∀ (as : List (AV × Bool)) (es : List PanicEntry), ChR E as es → es.dropWhile (!·.goexit) = [] := by
    intro as
    induction as with
    | nil => intro es h; simp only [ChR] at h; subst h; rfl
    | cons a as ih =>
      intro es h
      obtain ⟨a, r⟩ := a
      simp only [ChR] at h
      obtain ⟨v, rest, rfl, _, h⟩ := h
      simp [ih _ h]
  cases hc : c.mode with
  | run => rw [hc] at hm; simp only [MR] at hm; rw [hm]; exact ⟨h.fn, h.tmps, h.todo, h.defers, by rw [hc]; simp [MR, settle], h.kind, h.roundOf⟩
  | ret => rw [hc] at hm; simp only [MR] at hm; rw [hm]; exact ⟨h.fn, h.tmps, h.todo, h.defers, by rw [hc]; simp [MR, settle], h.kind, h.roundOf⟩
  | pan ch =>
    rw [hc] at hm
    obtain ⟨es, h1, h2⟩ := hm
    rw [h1]
    cases ch with
    | nil => simp only [ChR] at h2; subst h2; exact ⟨h.fn, h.tmps, h.todo, h.defers, by rw [hc]; exact ⟨[], rfl, rfl⟩, h.kind, h.roundOf⟩
    | cons a as =>
      obtain ⟨a, r⟩ := a
      simp only [ChR] at h2
      obtain ⟨v, rest, rfl, h2, h3⟩ := h2
      cases r with
      | true => exact ⟨h.fn, h.tmps, (fun h => by cases h), h.defers, by simp [MR, settle, noexit _ _ h3], h.kind, h.roundOf⟩
      | false => exact ⟨h.fn, h.tmps, h.todo, h.defers, by rw [hc]; exact ⟨_, rfl, v, rest, rfl, h2, h3⟩, h.kind, h.roundOf⟩

/-- a frame that has come to its end goes back -/
theorem return_sound {af : AF} {below : List AF} {st : List AF} {fr : Frame} {cs rest : List Frame} {a : AV} {v : Value} {fn : Func} (h : areturn a af below = some st) (hf : FR E af fr) (hb : FRs E below cs) (hr : HR E H w) (hv : VR E a v)
    (hm : fr.mode = .returning) (hd : fr.defers = []) (hfn : C.P.funcs[fr.fn]? = some fn) (hres : (results fn fr.tmps).run C.P w = .ok v w) : Goes C E fr cs rest w { st := st, H := H } := by
  unfold areturn at h
  split at h
  · cases h
  · rename_i c below'
    simp only [FRs] at hb
    obtain ⟨f, cs', rfl, h1, h2⟩ := hb
    split at h <;> (try (cases h; done))
    · rename_i hk
      split at h <;> (try (cases h; done))
      rename_i hcm
      cases h
      have hk' : fr.kind = .normal := by rw [hf.kind, hk]
      exact Goes.one (step_leave_returned ⟨hm, hd, hk', fn, hfn, hres⟩) (h1.fin hcm hv) h2 hr (.refl E w)
    · rename_i hk
      cases h
      have hk' : fr.kind = .deferred := by rw [hf.kind, hk]
      exact Goes.one (step_going_returned hk' ⟨hm, hd, fn, hfn, hres⟩) (settle_sound h1) h2 hr (.refl E w)

theorem loop_turn {id : Nat} {l l' : ALoop} {b s n : Nat} (hr : HR E H w) (hg : H.get id = some (.loop l)) (hi : E.ι id = some (b, s, n)) :
    ∃ L, w.heap[b]? = some (.loop L) ∧ LR E l L ∧ ∀ L', LR E l' L' → HR E (H.put id (.loop l')) (w.putObj b (.loop L')) ∧ Ext E w E (w.putObj b (.loop L')) := by
  obtain ⟨L, h1, h2⟩ := hr.blk hg hi
  exact ⟨L, h1, h2, fun L' hL => turn_obj (o := .loop L') hr hg hi fun w' hw' => ⟨L', hw', hL⟩⟩

def JumpAt (todo : List Item) : Option Code → Prop
  | none => todo = []
  | some .ret => ∃ k, todo = .code .ret :: k
  | some (.exit id) => ∃ k, todo = .code (.exit id) :: k ∧ exitTo id k = none
  | some (.goto l) => ∃ k, todo = .code (.goto l) :: k ∧ gotoIn l k = none
  | _ => False

theorem leave_sound {af : AF} {below : List AF} {M' : AM} {jump : Option Code} {fr : Frame} {cs rest : List Frame} (h : aleave af below H jump = some M') (hf : FR E af fr) (hm : af.mode = .run) (hb : FRs E below cs) (hr : HR E H w)
    (htodo : JumpAt fr.todo jump) : Goes C E fr cs rest w M' := by
  have hmode : fr.mode = .run := by have := hf.mode; rw [hm] at this; exact this
  have hself := atR_self hmode
  unfold aleave at h
  split at h
  · rename_i hro
    have hro' : fr.roundOf = none := by have := hf.roundOf; rw [hro] at this; exact this
    have fin : FR E { af with mode := .ret } { fr with mode := .returning } := ⟨hf.fn, hf.tmps, (fun h => by cases h), hf.defers, rfl, hf.kind, hf.roundOf⟩
    split at h <;> (try (cases h; done))
    · cases h
      simp only [JumpAt] at htodo
      rw [htodo] at hself
      refine Goes.one (fr' := { fr with mode := .returning }) ?_ fin hb hr (.refl E w)
      rw [hself, stepR_end hro']
    · cases h
      simp only [JumpAt] at htodo
      obtain ⟨k, htodo⟩ := htodo
      rw [htodo] at hself
      refine Goes.one (fr' := { fr with mode := .returning }) ?_ fin hb hr (.refl E w)
      rw [hself, stepR_ret hro']
  · rename_i id hro
    have hro' := hf.roundOf
    rw [hro] at hro'
    obtain ⟨b, s, n, hi, hro'⟩ := hro'
    split at h <;> (try (cases h; done))
    rename_i l hg
    split at h <;> (try (cases h; done))
    rename_i hk
    have hk' : fr.kind = .normal := by rw [hf.kind, hk]
    split at h <;> (try (cases h; done))
    rename_i st hst
    cases h
    obtain ⟨L, h1, h2, h3⟩ := loop_turn (l' := { l with state := if jump.isNone then .ready else .done, pending := jump }) hr hg hi
    obtain ⟨q1, q2⟩ := h3 { L with state := if jump.isNone then .ready else .done, pending := jump } ⟨rfl, rfl, h2.fn, h2.tmps, h2.params, h2.assign, h2.body, h2.defers⟩
    have hend := run_endRound (P := C.P) jump h1
    unfold areturn at hst
    split at hst
    · cases hst
    · rename_i c below'
      rw [hk] at hst
      simp only at hst
      split at hst <;> (try (cases hst; done))
      rename_i hcm
      simp only [Option.some.injEq] at hst
      subst hst
      simp only [FRs] at hb
      obtain ⟨f, cs', rfl, k1, k2⟩ := hb
      have hv : VR E (.b jump.isNone) (.bool jump.isNone) := by simp only [VR]
      have hstep : step C.P (lone fr ((f :: cs') ++ rest) w) = .next (lone (f.finish (.bool jump.isNone)) (cs' ++ rest) (w.putObj b (.loop { L with state := if jump.isNone then .ready else .done, pending := jump }))) := by
        rw [hself]
        cases jump with
        | none => simp only [JumpAt] at htodo; rw [htodo]; exact stepR_round_end hro' hk' hend
        | some c =>
          cases c <;> simp only [JumpAt] at htodo
          case ret => obtain ⟨k, htodo⟩ := htodo; rw [htodo]; exact stepR_round_ret hro' hk' hend
          case exit => obtain ⟨k, htodo, hx⟩ := htodo; rw [htodo]; exact stepR_round_exit hro' hk' hx hend
          case goto => obtain ⟨k, htodo, hx⟩ := htodo; rw [htodo]; exact stepR_round_goto hro' hk' hx hend
      exact Goes.one hstep (k1.fin hcm hv) k2 q1 q2
end
end Go.Am

namespace Go.Am
section
variable {C : Cx} {E : Env} {H : AH} {w : World}

theorem aop_sound (hC : CxOK C) (hG : GOK C E) {ρa : Operand → AV} {ρ : Operand → Value} {o : Oper} {n : AN} {H' : AH} (h : aop C ρa H o = some (n, H')) (hr : HR E H w) (ho : Opds E o ρa ρ) : NOK C.P E w (execOp ρ o) H' n := by
  unfold aop at h
  cases hl : lightOp C o
  · rw [hl] at h; exact aheavy_sound hC hG h hr ho
  · rw [hl] at h
    simp only [cond_true] at h
    split at h <;> (try (cases h; done))
    rename_i a ha
    cases h
    obtain ⟨v, h1, h2⟩ := alight_sound ha hr ho
    exact ⟨E, v, w, h1, hr, .refl E w, h2⟩

theorem recover_sound {af : AF} {below below' : List AF} {fr : Frame} {cs : List Frame} {v : AV} (h : arecover af below = some (v, below')) (hf : FR E af fr) (hb : FRs E below cs) :
    ∃ u cs', fr.roundOf = none ∧ VR E v u ∧ FRs E below' cs' ∧ ∀ rest, (tryRecover fr (cs ++ rest) = some (u, cs' ++ rest) ∨ (tryRecover fr (cs ++ rest) = none ∧ u = .nilIface ∧ cs' = cs)) := by
  unfold arecover at h
  have hro := hf.roundOf
  have hk := hf.kind
  split at h
  · rename_i c rest' hr0 hk0
    rw [hr0] at hro
    rw [hk0] at hk
    simp only [FRs] at hb
    obtain ⟨f, cs', rfl, h1, h2⟩ := hb
    have hm := h1.mode
    split at h
    · rename_i a older hc
      cases h
      rw [hc] at hm
      obtain ⟨es, e1, e2⟩ := hm
      simp only [ChR] at e2
      obtain ⟨u, rest2, rfl, k1, k2⟩ := e2
      refine ⟨u, { f with mode := .panicking ({ v := u, recovered := true } :: rest2) } :: cs', hro, k1, ⟨_, _, rfl, ⟨h1.fn, h1.tmps, (fun h => by cases h), h1.defers, ⟨_, rfl, _, _, rfl, k1, k2⟩, h1.kind, h1.roundOf⟩, h2⟩, fun rest => .inl ?_⟩
      simp [tryRecover, hk, e1]
    · rename_i hn
      cases h
      refine ⟨.nilIface, f :: cs', hro, by simp only [VR], ⟨_, _, rfl, h1, h2⟩, fun rest => .inr ⟨?_, rfl, rfl⟩⟩
      have : ∀ v older, f.mode ≠ .panicking ({ v := v, recovered := false, goexit := false } :: older) := by
        intro v older e
        cases hc : c.mode with
        | run => rw [hc] at hm; simp only [MR] at hm; rw [hm] at e; cases e
        | ret => rw [hc] at hm; simp only [MR] at hm; rw [hm] at e; cases e
        | pan ch =>
          rw [hc] at hm
          obtain ⟨es, e1, e2⟩ := hm
          rw [e1] at e
          cases e
          cases ch with
          | nil => simp only [ChR] at e2; cases e2
          | cons x ch =>
            obtain ⟨a, r⟩ := x
            simp only [ChR] at e2
            obtain ⟨u, rest2, e3, _⟩ := e2
            cases e3
            exact hn _ _ hc
      simp only [tryRecover, hk, List.cons_append]
  · rename_i hr0 hk0
    cases h
    rw [hr0] at hro
    rw [hk0] at hk
    exact ⟨.nilIface, cs, hro, by simp only [VR], hb, fun rest => .inr ⟨by simp [tryRecover, hk], rfl, rfl⟩⟩
  · cases h

theorem foldl_sound {n : Nat} : ∀ (ps : List Nat) (as : List AV) (vs : List Value) (T : PT AV) (tmps : Array Value), TR E T n tmps → VRs E as vs →
    TR E ((ps.zip as).foldl (fun T p => tset T n p.1 p.2) T) n ((ps.zip vs).foldl (fun tmps p => tmps.setIfInBounds p.1 p.2) tmps)
  | [], _, _, _, _, ht, _ => by simpa using ht
  | p :: ps, [], vs, T, tmps, ht, hv => by simp only [VRs] at hv; subst hv; simpa using ht
  | p :: ps, a :: as, vs, T, tmps, ht, hv => by
    simp only [VRs] at hv
    obtain ⟨v, rest, rfl, h1, h2⟩ := hv
    simp only [List.zip_cons_cons, List.foldl_cons]
    exact foldl_sound ps as rest _ _ (ht.set p h1) h2

theorem around_sound {id : Nat} {args : List AV} {g : AF} {vs : Array Value} {b s n : Nat} (h : around H id args = some g) (hr : HR E H w) (hi : E.ι id = some (b, s, n)) (hv : VRs E args vs.toList) :
    ∃ f tmps assign body, (Instr.yield b vs).run C.P w = .ok (.round b f tmps assign body) w ∧ FR E g (Frame.round b f tmps assign body .normal) := by
  unfold around at h
  split at h <;> (try (cases h; done))
  rename_i l hg
  split at h <;> (try (cases h; done))
  rename_i hsz
  cases h
  obtain ⟨L, h1, h2⟩ := hr.blk hg hi
  have hl := hv.length
  simp only [Array.length_toList] at hl
  have hy := run_yield (P := C.P) (args := vs) h1 (by rw [h2.params]; omega)
  refine ⟨_, _, _, _, hy, ?_⟩
  have hfold : ((L.params.zip vs).foldl (fun tmps (x : Tmp × Value) => match x with | (t, a) => tmps.setIfInBounds t a) L.tmps) = (L.params.toList.zip vs.toList).foldl (fun tmps p => tmps.setIfInBounds p.1 p.2) L.tmps := by
    rw [← Array.foldl_toList, Array.toList_zip]
  refine ⟨h2.fn, ?_, fun _ => ⟨_, _, rfl, by rw [h2.assign]; rfl, _, _, rfl, rfl, _, _, rfl, by rw [h2.body]; rfl, rfl⟩, rfl, rfl, rfl, ⟨b, s, n, hi, rfl⟩⟩
  have := foldl_sound l.params.toList args vs.toList l.tmps L.tmps h2.tmps hv
  simp only [Frame.round]
  rw [hfold, h2.params]
  exact this

theorem oper_sound (hC : CxOK C) {af : AF} {below : List AF} {M' : AM} {fr : Frame} {cs rest : List Frame} {ops : Array Oper} {i : Nat} {l : List Nat} {k : List AI} {o : Oper} {n : AN} {H' : AH}
    (hf : FR E af fr) (hm : af.mode = .run) (hb : FRs E below cs) (hr : HR E H w) (hG : GOK C E) (htodo : af.todo = .inRegion ops (i :: l) :: k) (hoi : ops[i]? = some o) (hw : awanted ops af.tmps o = some true)
    (ha : aop C (aev C af.tmps) H o = some (n, H'))
    (h : aoper C af below H' n = some M') : Goes C E fr cs rest w M' := by
  have hmode : fr.mode = .run := by have := hf.mode; rw [hm] at this; exact this
  have hself := atR_self hmode
  have ht := hf.todo hm
  rw [htodo] at ht
  simp only [IRs] at ht
  obtain ⟨_, k', hft, rfl, hk⟩ := ht
  have hwc : Region.wanted o (yielded ops fr.tmps) = true := wanted_sound hf.tmps hw
  have hN := aop_sound hC hG ha hr (opds_sound (a := ⟨fr.tmps, fr.defers⟩) hG hf.tmps o)
  have hg0 := stepGR_op (P := C.P) (b := fr) (a := ⟨fr.tmps, fr.defers⟩) (k := k') (cs := cs ++ rest) (w := w) (rest := l) hoi hwc
  rw [← hft, ← hself] at hg0
  have hsem : (∀ d, n ≠ .defer d) ∨ af.roundOf = none → o.semAt fr.roundOf (Act.eval ⟨fr.tmps, fr.defers⟩) = execOp (Act.eval ⟨fr.tmps, fr.defers⟩) o := by
    intro hd
    rcases hd with hd | hd
    · refine Oper.semAt_eq _ _ _ (fun c hc => ?_)
      have hlight : lightOp C o = false := by simp [lightOp, hc]
      unfold aop at ha
      rw [hlight] at ha
      simp only [cond_false] at ha
      unfold aheavy at ha
      rw [hc] at ha
      simp only at ha
      split at ha <;> (try (cases ha; done))
      split at ha <;> (try (cases ha; done))
      cases ha
      exact hd _ rfl
    · have := hf.roundOf
      rw [hd] at this
      simp only [RoR] at this
      rw [this]; rfl
  unfold aoper at h
  have kindN : (match fr.todo with | .call _ true _ _ :: _ => CallKind.wrapped | _ => .normal) = .normal := by rw [hft]
  cases n with
  | val a =>
    cases h
    obtain ⟨E', v, w', h1, h2, h3, h4⟩ := hN
    rw [hsem (.inl (by intro d e; cases e))] at hg0
    exact Goes.one (step_lone_go (by rw [hg0]; simp [stepG.apply, Sem.runT_eq, h1])) ((hf.mono h3.le).fin hm h4) (hb.mono h3.le) h2 h3
  | skip =>
    cases h
    obtain ⟨E', w', h1, h2, h3⟩ := hN
    rw [hsem (.inl (by intro d e; cases e))] at hg0
    exact Goes.one (step_lone_go (by rw [hg0]; simp [stepG.apply, Sem.runT_eq, h1])) ((hf.mono h3.le).fin hm undef_sound) (hb.mono h3.le) h2 h3
  | enter f args =>
    simp only at h
    split at h <;> (try (cases h; done))
    rename_i g hg
    cases h
    obtain ⟨vs, h1, h2, h3⟩ := hN
    rw [hsem (.inl (by intro d e; cases e))] at hg0
    exact Goes.one (cs' := fr :: cs) (step_lone_go (by rw [hg0]; simp [stepG.apply, Sem.runT_eq, h1, hft])) (enter_sound hg h2) ⟨_, _, rfl, hf, hb⟩ h3 (.refl E w)
  | known f a =>
    cases h
    obtain ⟨vs, h1, h2⟩ := hN
    obtain ⟨fr', E', v, w', k1, k2, k3, k4, k5⟩ := h2 (fr :: (cs ++ rest))
    rw [hsem (.inl (by intro d e; cases e))] at hg0
    refine ⟨E', fr.finish v, cs, w', .head (step_lone_go (by rw [hg0]; simp [stepG.apply, Sem.runT_eq, h1, hft])) (k1.trans (.one (step_leave_returned k2))), ⟨_, _, rfl, (hf.mono k4.le).fin hm k5, hb.mono k4.le⟩, k3, k4⟩
  | round id args =>
    simp only at h
    split at h <;> (try (cases h; done))
    rename_i g hg
    cases h
    obtain ⟨b, s, m, vs, h1, h2, h3, h4⟩ := hN
    rw [hsem (.inl (by intro d e; cases e))] at hg0
    obtain ⟨f, tmps, assign, body, y1, y2⟩ := around_sound (C := C) hg h4 h1 h3
    rw [y1] at h2
    exact Goes.one (cs' := fr :: cs) (step_lone_go (by rw [hg0]; simp [stepG.apply, Sem.runT_eq, h2])) y2 ⟨_, _, rfl, hf, hb⟩ h4 (.refl E w)
  | defer d =>
    simp only at h
    split at h <;> (try (cases h; done))
    rename_i hro
    cases h
    obtain ⟨D, h1, h2, h3⟩ := hN
    rw [hsem (.inr hro)] at hg0
    have hf2 : FR E { af with defers := d :: af.defers } { fr with defers := D :: fr.defers } := ⟨hf.fn, hf.tmps, hf.todo, ⟨_, _, rfl, h2, hf.defers⟩, hf.mode, hf.kind, hf.roundOf⟩
    exact Goes.one (step_lone_go (by rw [hg0]; simp [stepG.apply, Sem.runT_eq, h1])) (hf2.fin hm undef_sound) hb h3 (.refl E w)
  | recover =>
    simp only at h
    split at h <;> (try (cases h; done))
    rename_i v below' hrec
    cases h
    obtain ⟨h1, h3⟩ := hN
    rw [hsem (.inl (by intro d e; cases e))] at hg0
    obtain ⟨u, cs', r1, r2, r3, r4⟩ := recover_sound hrec hf hb
    rcases r4 rest with r4 | ⟨r4, r5, r6⟩
    · exact Goes.one (cs' := cs') (step_lone_go (by rw [hg0]; simp [stepG.apply, Sem.runT_eq, h1, r1, r4])) (hf.fin hm r2) r3 h3 (.refl E w)
    · rw [r5] at r2
      rw [r6] at r3
      exact Goes.one (step_lone_go (by rw [hg0]; simp [stepG.apply, Sem.runT_eq, h1, r1, r4])) (hf.fin hm r2) r3 h3 (.refl E w)
  | panic a =>
    cases h
    obtain ⟨v, h1, h2, h3⟩ := hN
    rw [hsem (.inl (by intro d e; cases e))] at hg0
    exact Goes.one (step_lone_go (by rw [hg0]; simp [stepG.apply, Sem.runT_eq, h1])) (raise_sound hf (chR_one h2)) hb h3 (.refl E w)
end
end Go.Am

namespace Go.Am

/-- a region that draws is run as it says -/
def DrawSound (C : Cx) (sub : AM → Option AM) : Prop :=
  ∀ (af : AF) (below : List AF) (H : AH) (id : Nat) (ops : Array Oper) (k : List AI) (a : AO) (T : PT AV) (below' : List AF) (H' : AH), af.mode = .run → af.todo = .code (.region id ops true) :: k → apartOK ops = true →
    drawRun C sub af (masks ops) ops (ops.size + 1) [] [] af.tmps below H = some (a, T, below', H') →
    ∀ E fr cs w rest, FR E af fr → FRs E below cs → HR E H w → GOK C E →
      Goes C E fr cs rest w (match a with
        | .val _ => { st := { af with tmps := T, todo := k } :: below', H := H' }
        | .panic chain => { st := { af with mode := .pan chain, tmps := .lf } :: below', H := H' })

section
variable {C : Cx} {E : Env} {H : AH} {w : World}

/-- a live block is turned and given up -/
theorem HR.lose {w' : World} (h : HR E H w) {id b s n : Nat} {x : Blk} (hg : H.get id = some x) (hi : E.ι id = some (b, s, n))
    (hsz : w'.heap.size = w.heap.size) (hsame : ∀ b', b' ≠ b → w'.heap[b']? = w.heap[b']?) (ht : w'.tape = w.tape) (ho : w'.os = w.os) (hu : w'.output = w.output) :
    HR E (H.kill id) w' ∧ Ext E w E w' := by
  refine ⟨⟨?_, ?_, h.nxt, ?_, ?_, ?_, h.N⟩, ⟨.refl E, by omega, ?_, fun i _ p hb => .inl ⟨i, p, hb⟩, ht, ho, hu, fun _ h k => absurd h k, Nat.le_refl _⟩⟩
  · intro i z b' s' n' hz h1
    obtain ⟨hne, hz⟩ := AH.get_kill hz
    have h2 := h.blks i z b' s' n' hz h1
    have hbb : b' ≠ b := fun e => by subst e; exact hne (h.inj i id z x b' _ _ hz hg h1 hi)
    exact BR.congr (hsame b' hbb) h2
  · intro i i' z z' b1 p1 p1' hz hz' hb hb'
    exact h.inj _ _ _ _ _ _ _ (AH.get_kill hz).2 (AH.get_kill hz').2 hb hb'
  · intro i b' s' hb; rw [hsz]; exact h.bnd i b' s' hb
  · intro b' o v hv
    have hbb : b' ≠ b := fun e => by subst e; exact h.disj id x b' _ o v hg hi hv
    rw [cell?_congr (hsame b' hbb)]
    exact h.imm b' o v hv
  · intro i z b' s' o v hz hb hv
    exact h.disj i z b' s' o v (AH.get_kill hz).2 hb hv
  · intro b' _ hn
    exact hsame b' (fun e => by subst e; exact hn id _ hi)

theorem modeR {af : AF} {fr : Frame} (hf : FR E af fr) (h : af.mode ≠ .run) : fr.mode ≠ .run := by
  have hm := hf.mode
  intro e
  cases ha : af.mode with
  | run => exact h ha
  | ret => rw [ha] at hm; simp only [MR] at hm; rw [hm] at e; cases e
  | pan ch => rw [ha] at hm; obtain ⟨es, e1, _⟩ := hm; rw [e1] at e; cases e

theorem step_take {P : Program} {fr : Frame} {cs : List Frame} {b : Nat} {args : Array Value} {ds : List Deferred} (hm : fr.mode ≠ .run) (hd : fr.defers = { target := .collected b, args := args } :: ds) (hh : w.heap[b]? = some (.deferred (some []))) :
    step P (lone fr cs w) = .next (lone { fr with defers := ds } cs (w.putObj b (.deferred none))) := by
  refine step_lone_go ?_
  have ht := run_takeDeferred (P := P) hh
  cases hmode : fr.mode with
  | run => exact absurd hmode hm
  | returning => simp [stepG, unwind, hmode, hd, Sem.runT_eq, ht]
  | panicking chain => simp [stepG, unwind, hmode, hd, Sem.runT_eq, ht]

theorem unwind_sound (hC : CxOK C) (hG : GOK C E) {M' : AM} {af : AF} {below : List AF} {fr : Frame} {cs rest : List Frame} (hmode : af.mode ≠ .run) (h : aunwind C af below H = some M')
    (hf : FR E af fr) (hb : FRs E below cs) (hr : HR E H w) : Goes C E fr cs rest w M' := by
  have hfm := modeR hf hmode
  unfold aunwind at h
  have hd := hf.defers
  split at h
  · rename_i id ds hds
    split at h <;> (try (cases h; done))
    rename_i hg
    cases h
    rw [hds] at hd
    simp only [DRs, DR] at hd
    obtain ⟨_, ds', e1, ⟨b, s, n, hi, rfl⟩, e3⟩ := hd
    have hblk := hr.blk hg hi
    simp only [BR] at hblk
    have hlt := hr.bnd _ _ _ hi
    obtain ⟨q1, q2⟩ := hr.lose (w' := w.putObj b (.deferred none)) hg hi (by simp) (fun b' hb' => World.putObj_heap_other hb') rfl rfl rfl
    exact Goes.one (step_take hfm e1 hblk) ⟨hf.fn, hf.tmps, hf.todo, e3, hf.mode, hf.kind, hf.roundOf⟩ hb q1 q2
  · rename_i f args ds hds
    split at h <;> (try (cases h; done))
    rename_i g hX hg
    cases h
    rw [hds] at hd
    simp only [DRs, DR] at hd
    obtain ⟨_, ds', e1, ⟨cap, x, rfl, hv⟩, e3⟩ := hd
    have hcall : acallFn C H f args = some (.enter f args, H) := by
      unfold aenter at hg
      split at hg <;> (try (cases hg; done))
      rename_i fn hfn
      split at hg <;> (try (cases hg; done))
      rename_i c hc
      simp [acallFn, hfn, hX, hc]
    obtain ⟨vs, h1, h2, _⟩ := callFn_sound hC hG (vs := x ++ cap) hcall hr hv
    have hinv : (invoke (Target.fn (.func f) cap) x).run C.P w = .ok (.enter f vs) w := h1
    exact Goes.one (cs' := { fr with defers := ds' } :: cs) (step_defer hfm e1 rfl hinv) (enter_sound hg h2) ⟨_, _, rfl, ⟨hf.fn, hf.tmps, hf.todo, e3, hf.mode, hf.kind, hf.roundOf⟩, hb⟩ hr (.refl E w)
  · rename_i hds
    rw [hds] at hd
    simp only [DRs] at hd
    have hm := hf.mode
    split at h
    · rename_i chain hch
      split at h <;> (try (cases h; done))
      rename_i c below' fn hfn
      cases h
      rw [hch] at hm
      obtain ⟨es, e1, e2⟩ := hm
      simp only [FRs] at hb
      obtain ⟨f, cs', rfl, k1, k2⟩ := hb
      rw [← hf.fn] at hfn
      refine Goes.one (fr' := f.raise es) ?_ (raise_sound k1 e2) k2 hr (.refl E w)
      rw [Frame.raise_mode]
      exact step_going_panicked ⟨e1, hd, fn, hfn⟩
    · rename_i hnp
      split at h <;> (try (cases h; done))
      split at h <;> (try (cases h; done))
      rename_i v hv
      split at h <;> (try (cases h; done))
      rename_i st hst
      cases h
      obtain ⟨fn, u, r1, r2, r3⟩ := results_sound hv hf hr
      have hret : fr.mode = .returning := by
        cases ha : af.mode with
        | run => exact absurd ha hmode
        | ret => rw [ha] at hm; exact hm
        | pan ch => exact absurd ha (hnp ch)
      exact return_sound hst hf hb hr r3 hret hd r1 r2

theorem rangeF_sound (hC : CxOK C) {M' : AM} {af : AF} {below : List AF} {fr : Frame} {cs rest : List Frame} {f : Operand} {ps : Array Tmp} {asg body : Code} {k : List AI} (hmode : af.mode = .run) (h : arangeF C af below H f ps asg body k = some M')
    (htodo : af.todo = .code (.rangeFunc f ps asg body) :: k) (hf : FR E af fr) (hb : FRs E below cs) (hr : HR E H w) (hG : GOK C E) : Goes C E fr cs rest w M' := by
  have hm : fr.mode = .run := by have := hf.mode; rw [hmode] at this; exact this
  have hself := atR_self hm
  have ht := hf.todo hmode
  rw [htodo] at ht
  simp only [IRs] at ht
  obtain ⟨_, k', hft, rfl, hk⟩ := ht
  have hro := hf.roundOf
  -- the call
  have call : ∀ {E1 : Env} {H1 : AH} {w1 : World} {g : FuncId} {first cap : List AV} {id b s n : Nat} {gf : AF}, E.le E1 → aev C af.tmps f = .fn g first cap → C.X g = none → aenter C g (first ++ [.yld id] ++ cap) .normal = some gf → HR E1 H1 w1 → E1.ι id = some (b, s, n) →
      ∃ d vs, (resolve (Act.eval ⟨fr.tmps, fr.defers⟩) (rangeCall f b) 0).run C.P w1 = .ok d w1 ∧ (invoke d.target d.args).run C.P w1 = .ok (.enter g vs) w1 ∧ FR E1 gf (Frame.enter C.P g vs .normal) := by
    intro E1 H1 w1 g first cap id b s n gf hle hev hX hg hr1 hi
    have h1 := ev_sound (a := ⟨fr.tmps, fr.defers⟩) hG hf.tmps f
    rw [hev] at h1
    simp only [VR] at h1
    obtain ⟨x, y, h1, h2, h3⟩ := h1
    have hcall : acallFn C H1 g (first ++ [.yld id] ++ cap) = some (.enter g (first ++ [.yld id] ++ cap), H1) := by
      have hg' := hg
      unfold aenter at hg'
      split at hg' <;> (try (cases hg'; done))
      rename_i fn hfn
      split at hg' <;> (try (cases hg'; done))
      rename_i c hc
      simp only [acallFn, hfn, hX, hc]
    have hv : VRs E1 (first ++ [.yld id] ++ cap) (x ++ #[Value.func (.yield b) #[] #[]] ++ y).toList := by
      simp only [Array.toList_append]
      refine ((VRs.mono hle _ _ h2).append ?_).append (VRs.mono hle _ _ h3)
      exact ⟨_, [], rfl, ⟨b, s, n, hi, rfl⟩, rfl⟩
    obtain ⟨vs, q1, q2, _⟩ := callFn_sound hC (hG.mono hle) hcall hr1 hv
    refine ⟨{ target := .fn (.func g) y, args := x ++ #[Value.func (.yield b) #[] #[]] }, vs, ?_, q1, enter_sound hg q2⟩
    have e0 : (rangeCall f b).args.map (Act.eval ⟨fr.tmps, fr.defers⟩) = #[Value.func (.yield b) #[] #[]] := by simp [Act.eval]
    simp only [resolve, e0, h1, Deferred.ofValue, Sem.run_pure]
  unfold arangeF at h
  split at h
  · rename_i hr0
    rw [hr0] at hro
    simp only [RoR] at hro
    split at h <;> (try (cases h; done))
    rename_i g first cap hev
    simp only at h
    split at h <;> (try (cases h; done))
    rename_i gf hX hg
    cases h
    obtain ⟨a1, a2⟩ := hr.alloc (.deferred (some [])) .dfr 0 heap_alloc_new
    have hn1 : (H.new .dfr).nxt = H.nxt + 1 := rfl
    have hw1 : (w.alloc (.deferred (some []))).heap.size = w.heap.size + 1 := by simp
    obtain ⟨b1, b2⟩ := a1.alloc (.loop { state := .ready, pending := none, fn := fr.fn, tmps := fr.tmps, params := ps, assign := asg, body := body, defers := w.heap.size })
      (.loop { state := .ready, pending := none, fn := af.fn, tmps := af.tmps, n := af.n, params := ps, assign := asg, body, defers := H.nxt }) 0
      ⟨_, heap_alloc_new, rfl, rfl, hf.fn, (hf.tmps.mono a2.le).mono (Env.le_add a1.fresh), rfl, rfl, rfl, 0, 0, (Env.le_add a1.fresh).ι _ _ Env.add_same⟩
    have hle := a2.le.trans b2.le
    obtain ⟨d, vs, c1, c2, c3⟩ := call hle hev hX hg b1 Env.add_same
    have hent := run_enterLoop_outer (P := C.P) (w := w) fr.fn fr.tmps ps asg body
    have hstep := stepR_rangeFunc (P := C.P) (b := fr) (a := ⟨fr.tmps, fr.defers⟩) (k := k') (cs := cs ++ rest) (w := w) (by rw [hro]; exact hent) (by rw [← hw1]; exact c1) c2
    rw [← hft, ← hself] at hstep
    refine Goes.one (cs' := _ :: cs) hstep c3 ⟨_, _, rfl, ⟨hf.fn, hf.tmps.mono hle, fun _ => ⟨_, _, rfl, ⟨_, _, _, Env.add_same, by rw [hw1]⟩, hk.mono hle⟩, ⟨_, _, rfl, ⟨_, _, _, b2.le.ι _ _ Env.add_same, rfl⟩, hf.defers.mono hle⟩, by simp only [hmode]; rfl, hf.kind, hf.roundOf.mono hle⟩, hb.mono hle⟩ b1 (a2.trans b2)
  · rename_i id hr0
    rw [hr0] at hro
    obtain ⟨b, s, n, hi, hro⟩ := hro
    split at h <;> (try (cases h; done))
    rename_i l g first cap hg0 hev
    simp only at h
    split at h <;> (try (cases h; done))
    rename_i gf hX hg
    cases h
    obtain ⟨L, l1, l2⟩ := hr.blk hg0 hi
    obtain ⟨s', n', hdef⟩ := l2.defers
    obtain ⟨b1, b2⟩ := hr.alloc (.loop { state := .ready, pending := none, fn := fr.fn, tmps := fr.tmps, params := ps, assign := asg, body := body, defers := L.defers })
      (.loop { state := .ready, pending := none, fn := af.fn, tmps := af.tmps, n := af.n, params := ps, assign := asg, body, defers := l.defers }) 0
      ⟨_, heap_alloc_new, rfl, rfl, hf.fn, hf.tmps.mono (Env.le_add hr.fresh), rfl, rfl, rfl, s', n', (Env.le_add hr.fresh).ι _ _ hdef⟩
    obtain ⟨d, vs, c1, c2, c3⟩ := call b2.le hev hX hg b1 Env.add_same
    have hent := run_enterLoop_inner (P := C.P) (w := w) l1 fr.fn fr.tmps ps asg body
    have hstep := stepR_rangeFunc (P := C.P) (b := fr) (a := ⟨fr.tmps, fr.defers⟩) (k := k') (cs := cs ++ rest) (w := w) (by rw [hro]; exact hent) c1 c2
    rw [← hft, ← hself] at hstep
    refine Goes.one (cs' := _ :: cs) hstep c3 ⟨_, _, rfl, ⟨hf.fn, hf.tmps.mono b2.le, fun _ => ⟨_, _, rfl, ⟨_, _, _, Env.add_same, rfl⟩, hk.mono b2.le⟩, hf.defers.mono b2.le, by simp only [hmode]; rfl, hf.kind, hf.roundOf.mono b2.le⟩, hb.mono b2.le⟩ b1 b2
end
end Go.Am

namespace Go.Am
section
variable {C : Cx} {E : Env} {H : AH} {w : World}

theorem code_sound (hC : CxOK C) {sub : AM → Option AM} (hD : DrawSound C sub) {M' : AM} {af : AF} {below : List AF} {fr : Frame} {cs rest : List Frame} (hmode : af.mode = .run) (h : acode C sub af below H = some M')
    (hf : FR E af fr) (hb : FRs E below cs) (hr : HR E H w) (hG : GOK C E) : Goes C E fr cs rest w M' := by
  have hm : fr.mode = .run := by have := hf.mode; rw [hmode] at this; exact this
  have hself := atR_self hm
  have ht := hf.todo hmode
  unfold acode at h
  split at h
  · -- the code's end
    rename_i htd
    rw [htd] at ht
    exact leave_sound h hf hmode hb hr ht
  · rename_i k htd
    rw [htd] at ht
    obtain ⟨_, k', hft, rfl, hk⟩ := ht
    exact leave_sound h hf hmode hb hr ⟨_, hft⟩
  · rename_i k htd
    rw [htd] at ht
    obtain ⟨_, k', hft, rfl, hk⟩ := ht
    cases h
    exact Goes.to hf hmode (by rw [hft]; exact stepR_skip) hk hb hr
  · rename_i l k htd
    rw [htd] at ht
    obtain ⟨_, k', hft, rfl, hk⟩ := ht
    cases h
    exact Goes.to hf hmode (by rw [hft]; exact stepR_label) hk hb hr
  · rename_i l k htd
    rw [htd] at ht
    obtain ⟨_, k', hft, rfl, hk⟩ := ht
    cases h
    exact Goes.to hf hmode (by rw [hft]; exact stepR_inBlock) hk hb hr
  · rename_i l k htd
    rw [htd] at ht
    obtain ⟨_, k', hft, rfl, hk⟩ := ht
    cases h
    exact Goes.to hf hmode (by rw [hft]; exact step_lone_go (by simp [stepG, stepG.exec, Frame.atR])) hk hb hr
  · rename_i x y k htd
    rw [htd] at ht
    obtain ⟨_, k', hft, rfl, hk⟩ := ht
    cases h
    exact Goes.to hf hmode (by rw [hft]; exact stepR_seq) ⟨_, _, rfl, rfl, _, _, rfl, rfl, hk⟩ hb hr
  · rename_i c x y k htd
    rw [htd] at ht
    obtain ⟨_, k', hft, rfl, hk⟩ := ht
    have h1 := ev_sound (a := ⟨fr.tmps, fr.defers⟩) hG hf.tmps c
    split at h <;> (try (cases h; done))
    · rename_i hc
      cases h
      rw [hc] at h1
      simp only [VR] at h1
      exact Goes.to hf hmode (by rw [hft]; exact stepR_cond h1) ⟨_, _, rfl, rfl, hk⟩ hb hr
    · rename_i hc
      cases h
      rw [hc] at h1
      simp only [VR] at h1
      exact Goes.to hf hmode (by rw [hft]; exact stepR_cond h1) ⟨_, _, rfl, rfl, hk⟩ hb hr
  · rename_i id x k htd
    rw [htd] at ht
    obtain ⟨_, k', hft, rfl, hk⟩ := ht
    cases h
    exact Goes.to hf hmode (by rw [hft]; exact stepR_block) ⟨_, _, rfl, rfl, _, _, rfl, rfl, hk⟩ hb hr
  · rename_i x k htd
    rw [htd] at ht
    obtain ⟨_, k', hft, rfl, hk⟩ := ht
    cases h
    exact Goes.to hf hmode (by rw [hft]; exact stepR_loop) ⟨_, _, rfl, rfl, _, _, rfl, rfl, hk⟩ hb hr
  · rename_i x k htd
    rw [htd] at ht
    obtain ⟨_, k', hft, rfl, hk⟩ := ht
    cases h
    exact Goes.to hf hmode (by rw [hft]; exact stepR_inLoop) ⟨_, _, rfl, rfl, _, _, rfl, rfl, hk⟩ hb hr
  · rename_i x k htd
    rw [htd] at ht
    obtain ⟨_, k', hft, rfl, hk⟩ := ht
    cases h
    exact Goes.to hf hmode (by rw [hft]; exact step_lone_go (by simp [stepG, stepG.exec, Frame.atR])) ⟨_, _, rfl, rfl, _, _, rfl, rfl, hk⟩ hb hr
  · rename_i id k htd
    rw [htd] at ht
    obtain ⟨_, k', hft, rfl, hk⟩ := ht
    have hx := exitTo_sound (id := id) hk
    split at h
    · rename_i r hr0
      rw [hr0] at hx
      obtain ⟨r', x1, x2⟩ := hx
      cases h
      exact Goes.to hf hmode (by rw [hft]; exact stepR_exit x1) x2 hb hr
    · rename_i hr0
      rw [hr0] at hx
      exact leave_sound h hf hmode hb hr ⟨_, hft, hx⟩
  · rename_i l k htd
    rw [htd] at ht
    obtain ⟨_, k', hft, rfl, hk⟩ := ht
    have hx := gotoIn_sound (l := l) hk
    split at h
    · rename_i r hr0
      rw [hr0] at hx
      obtain ⟨r', x1, x2⟩ := hx
      cases h
      exact Goes.to hf hmode (by rw [hft]; exact stepR_goto x1) x2 hb hr
    · rename_i hr0
      rw [hr0] at hx
      exact leave_sound h hf hmode hb hr ⟨_, hft, hx⟩
  · rename_i f ps asg body k htd
    exact rangeF_sound hC hmode h htd hf hb hr hG
  · cases h
  · cases h
  · -- beginRound
    rename_i k htd
    rw [htd] at ht
    obtain ⟨_, k', hft, rfl, hk⟩ := ht
    split at h <;> (try (cases h; done))
    rename_i id hro
    split at h <;> (try (cases h; done))
    rename_i l hg
    split at h <;> (try (cases h; done))
    rename_i hst
    cases h
    have hro' := hf.roundOf
    rw [hro] at hro'
    obtain ⟨b, s, n, hi, hro'⟩ := hro'
    obtain ⟨L, h1, h2, h3⟩ := loop_turn (l' := { l with state := .busy }) hr hg hi
    obtain ⟨q1, q2⟩ := h3 { L with state := .busy } ⟨rfl, h2.pending, h2.fn, h2.tmps, h2.params, h2.assign, h2.body, h2.defers⟩
    have hbr := run_beginRound (P := C.P) h1 (by rw [h2.state, hst])
    have hs := stepR_beginRound (P := C.P) (b := fr) (a := ⟨fr.tmps, fr.defers⟩) (k := k') (cs := cs ++ rest) hro' hbr
    rw [← hft, ← hself] at hs
    exact Goes.one hs ⟨hf.fn, hf.tmps, fun _ => hk, hf.defers, by simp only [hmode]; rfl, hf.kind, hf.roundOf⟩ hb q1 q2
  · -- endRange
    rename_i id k htd
    rw [htd] at ht
    obtain ⟨_, k', hft, ⟨b, s, n, hi, rfl⟩, hk⟩ := ht
    split at h <;> (try (cases h; done))
    rename_i l hg
    split at h <;> (try (cases h; done))
    rename_i hst
    cases h
    obtain ⟨L, h1, h2, h3⟩ := loop_turn (l' := { l with state := .exhausted }) hr hg hi
    obtain ⟨q1, q2⟩ := h3 { L with state := .exhausted } ⟨rfl, h2.pending, h2.fn, h2.tmps, h2.params, h2.assign, h2.body, h2.defers⟩
    have hbr := run_endLoop (P := C.P) h1 (by rw [h2.state]; exact hst)
    have hs := stepR_endRangeFunc (P := C.P) (b := fr) (a := ⟨fr.tmps, fr.defers⟩) (k := k') (cs := cs ++ rest) hbr
    rw [← hft, ← hself] at hs
    refine Goes.one hs ⟨hf.fn, hf.tmps, fun _ => ?_, hf.defers, by simp only [hmode]; rfl, hf.kind, hf.roundOf⟩ hb q1 q2
    rw [h2.pending]
    cases l.pending with
    | none => exact hk
    | some c => exact ⟨_, _, rfl, rfl, hk⟩
  · rename_i id ops k htd
    rw [htd] at ht
    obtain ⟨_, k', hft, rfl, hk⟩ := ht
    cases h
    exact Goes.to hf hmode (by rw [hft]; exact stepR_region) ⟨_, _, rfl, rfl, hk⟩ hb hr
  · rename_i id ops k htd
    cases hap : apartOK ops
    · rw [hap] at h; cases h
    · rw [hap] at h
      simp only [cond_true] at h
      split at h <;> (try (cases h; done))
      · rename_i v T below' H' hdr
        cases h
        exact hD af below H id ops k _ T below' H' hmode htd hap hdr E fr cs w rest hf hb hr hG
      · rename_i chain T below' H' hdr
        cases h
        exact hD af below H id ops k _ T below' H' hmode htd hap hdr E fr cs w rest hf hb hr hG
  · rename_i ops k htd
    rw [htd] at ht
    obtain ⟨_, k', hft, rfl, hk⟩ := ht
    cases h
    exact Goes.to hf hmode (by rw [hft]; exact stepR_region_end) hk hb hr
  · rename_i ops i l k htd
    have ht' := ht
    rw [htd] at ht
    obtain ⟨_, k', hft, rfl, hk⟩ := ht
    split at h
    · rename_i hoi
      cases h
      have hs := stepR_op_skip (P := C.P) (b := fr) (a := ⟨fr.tmps, fr.defers⟩) (k := k') (cs := cs ++ rest) (w := w) (ops := ops) (i := i) (rest := l) (by simp [hoi])
      simp only [hoi, Option.bind_none, Act.put] at hs
      exact Goes.to hf hmode (by rw [hft]; exact hs) ⟨_, _, rfl, rfl, hk⟩ hb hr
    · rename_i o hoi
      split at h <;> (try (cases h; done))
      · rename_i hw
        cases h
        have hwc := wanted_sound hf.tmps hw
        have hs := stepR_op_skip (P := C.P) (b := fr) (a := ⟨fr.tmps, fr.defers⟩) (k := k') (cs := cs ++ rest) (w := w) (ops := ops) (i := i) (rest := l) (by simp [hoi, hwc])
        rw [← Frame.finish_atR, ← hft, ← hself] at hs
        exact Goes.one hs (hf.fin hmode undef_sound) hb hr (.refl E w)
      · rename_i hw
        split at h <;> (try (cases h; done))
        rename_i n H' hn
        exact oper_sound hC hf hmode hb hr hG htd hoi hw hn h

theorem step_sound (hC : CxOK C) {sub : AM → Option AM} (hD : DrawSound C sub) : SubOK C (astep C sub) := by
  intro M M' h E fr cs w rest hF hr hG
  obtain ⟨st, H⟩ := M
  unfold astep at h
  cases st with
  | nil => cases h
  | cons af below =>
    simp only at h hF hr
    simp only [FRs] at hF
    obtain ⟨_, _, e, hf, hb⟩ := hF
    cases e
    split at h
    · rename_i hmode
      exact code_sound hC hD hmode h hf hb hr hG
    · rename_i hmode
      exact unwind_sound hC hG (fun e => hmode e) h hf hb hr

theorem SubOK.then {f g : AM → Option AM} (hf : SubOK C f) (hg : SubOK C g) : SubOK C (fun M => match f M with | some M => g M | none => none) := by
  intro M M' h E fr cs w rest hF hr hG
  simp only at h
  split at h <;> (try (cases h; done))
  rename_i M1 h1
  obtain ⟨E1, fr1, cs1, w1, s1, f1, r1, e1⟩ := hf M M1 h1 E fr cs w rest hF hr hG
  obtain ⟨E2, fr2, cs2, w2, s2, f2, r2, e2⟩ := hg M1 M' h E1 fr1 cs1 w1 rest f1 r1 (hG.mono e1.le)
  exact ⟨E2, fr2, cs2, w2, s1.trans s2, f2, r2, e1.trans e2⟩

theorem run_sound (hC : CxOK C) (hD : ∀ sub, SubOK C sub → DrawSound C sub) : ∀ n, SubOK C (arun C n) := by
  intro n
  induction n with
  | zero => intro M M' h; simp [arun] at h
  | succ n ih =>
    intro M M' h E fr cs w rest hF hr hG
    simp only [arun] at h
    cases hfin : M.final
    · rw [hfin] at h
      simp only [cond_false] at h
      exact (SubOK.then (step_sound hC (hD _ ih)) ih) M M' h E fr cs w rest hF hr hG
    · rw [hfin] at h
      simp only [cond_true, Option.some.injEq] at h
      subst h
      exact ⟨E, fr, cs, w, .refl _ _, hF, hr, .refl E w⟩
end
end Go.Am

namespace Go.Am

/-! ## Orders -/
inductive Anc (ops : Array Oper) : Nat → Nat → Prop
  | one {k : Nat} {o : Oper} {e : Edge} (ho : ops[k]? = some o) (he : e ∈ o.after) (hb : Region.binds .any e = true) : Anc ops e.on k
  | more {p k : Nat} {o : Oper} {e : Edge} (ho : ops[k]? = some o) (he : e ∈ o.after) (hb : Region.binds .any e = true) (h : Anc ops p e.on) : Anc ops p k

def Preds (ops : Array Oper) (k : Nat) (L : List Nat) : Prop := ∀ o, ops[k]? = some o → ∀ e ∈ o.after, Region.binds .any e = true → e.on ∈ L
def Closed (ops : Array Oper) (L : List Nat) : Prop := ∀ k ∈ L, Preds ops k L

theorem Anc.mem {ops : Array Oper} {L : List Nat} (hc : Closed ops L) {p k : Nat} (h : Anc ops p k) (hk : k ∈ L) : p ∈ L := by
  induction h with
  | one ho he hb => exact hc _ hk _ ho _ he hb
  | more ho he hb _ ih => exact ih (hc _ hk _ ho _ he hb)
theorem Anc.mem' {ops : Array Oper} {L : List Nat} (hc : Closed ops L) {p k : Nat} (h : Anc ops p k) (hk : Preds ops k L) : p ∈ L := by
  cases h with
  | one ho he hb => exact hk _ ho _ he hb
  | more ho he hb h => exact h.mem hc (hk _ ho _ he hb)

theorem masks_sound (ops : Array Oper) : ∀ k p, ((masks ops).getD k 0).testBit p = true → Anc ops p k := by
  have key : ∀ (os : List Oper) (acc : List Nat) (pre : List Oper), ops.toList = pre ++ os → acc.length = pre.length → (∀ k p, (acc.getD k 0).testBit p = true → Anc ops p k) →
      ∀ k p, ((masksGo os acc).getD k 0).testBit p = true → Anc ops p k := by
    intro os
    induction os with
    | nil => intro acc pre _ _ h; exact h
    | cons o os ih =>
      intro acc pre he hl h
      simp only [masksGo]
      refine ih _ (pre ++ [o]) (by rw [he]; simp) (by simp [hl]) ?_
      intro k p hk
      by_cases hlt : k < acc.length
      · have : (acc ++ [o.after.toList.foldl (fun m e => cond (Region.binds .any e) (m ||| 2 ^ e.on ||| acc.getD e.on 0) m) 0]).getD k 0 = acc.getD k 0 := by
          simp [List.getD_eq_getElem?_getD, List.getElem?_append_left hlt]
        rw [this] at hk
        exact h k p hk
      · by_cases heq : k = acc.length
        · have ho : ops[k]? = some o := by
            rw [← Array.getElem?_toList, he, heq, hl]
            simp
          have hval : (acc ++ [o.after.toList.foldl (fun m e => cond (Region.binds .any e) (m ||| 2 ^ e.on ||| acc.getD e.on 0) m) 0]).getD k 0 = o.after.toList.foldl (fun m e => cond (Region.binds .any e) (m ||| 2 ^ e.on ||| acc.getD e.on 0) m) 0 := by
            subst heq; simp [List.getD_eq_getElem?_getD]
          rw [hval] at hk
          have fold : ∀ (es : List Edge) (m : Nat), (∀ e ∈ es, e ∈ o.after) → (∀ p, m.testBit p = true → Anc ops p k) → ∀ p, (es.foldl (fun m e => cond (Region.binds .any e) (m ||| 2 ^ e.on ||| acc.getD e.on 0) m) m).testBit p = true → Anc ops p k := by
            intro es
            induction es with
            | nil => intro m _ hm; exact hm
            | cons e es ihe =>
              intro m hes hm
              simp only [List.foldl_cons]
              refine ihe _ (fun e he => hes e (by simp [he])) ?_
              intro p hp
              cases hb : Region.binds .any e
              · rw [hb] at hp; exact hm p hp
              · rw [hb] at hp
                simp only [cond_true, Nat.testBit_or, Bool.or_eq_true] at hp
                rcases hp with (hp | hp) | hp
                · exact hm p hp
                · rw [Nat.testBit_two_pow] at hp
                  have : e.on = p := by simpa using hp
                  rw [← this]
                  exact .one ho (hes e (by simp)) hb
                · exact .more ho (hes e (by simp)) hb (h _ _ hp)
          exact fold o.after.toList 0 (fun e he => by simpa using he) (fun p hp => by simp at hp) p hk
        · have : (acc ++ [o.after.toList.foldl (fun m e => cond (Region.binds .any e) (m ||| 2 ^ e.on ||| acc.getD e.on 0) m) 0]).getD k 0 = 0 := by
            rw [List.getD_eq_getElem?_getD, List.getElem?_eq_none (by simp; omega)]; rfl
          rw [this] at hk
          simp at hk
  intro k p h
  exact key ops.toList [] [] (by simp) rfl (fun k p h => by simp at h) k p h

theorem apartOK_sound {ops : Array Oper} (h : apartOK ops = true) {i j : Nat} {x y : Oper} (hi : ops[i]? = some x) (hj : ops[j]? = some y) (hne : i ≠ j) : Anc ops i j ∨ Anc ops j i ∨ (apartD ops x y = true ∧ apartD ops y x = true) := by
  unfold apartOK at h
  simp only [List.all_eq_true, List.mem_range, Bool.or_eq_true] at h
  have hil := (Array.getElem?_eq_some_iff.1 hi).1
  have hjl := (Array.getElem?_eq_some_iff.1 hj).1
  have h1 := h i hil j hjl
  have h2 := h j hjl i hil
  rw [hi, hj] at h1
  rw [hi, hj] at h2
  rcases h1 with ((h1 | h1) | h1) | h1
  · exact absurd (Nat.eq_of_beq_eq_true h1) hne
  · exact .inl (masks_sound ops _ _ h1)
  · exact .inr (.inl (masks_sound ops _ _ h1))
  · rcases h2 with ((h2 | h2) | h2) | h2
    · exact absurd (Nat.eq_of_beq_eq_true h2).symm hne
    · exact .inr (.inl (masks_sound ops _ _ h2))
    · exact .inl (masks_sound ops _ _ h2)
    · exact .inr (.inr ⟨h1, h2⟩)

theorem namesT_sound {d : Nat} : ∀ {l : List Operand}, namesT l d = false → Operand.tmp d ∉ l
  | [], _ => by simp
  | .tmp t :: r, h => by
    simp only [namesT] at h
    cases hb : Nat.beq t d
    · rw [hb] at h
      have := namesT_sound h
      rw [beqF] at hb
      simp only [List.mem_cons, not_or]
      exact ⟨fun e => by cases e; exact hb rfl, this⟩
    · rw [hb] at h; cases h
  | .const _ :: r, h => by simp only [namesT] at h; simpa using namesT_sound h
  | .global _ :: r, h => by simp only [namesT] at h; simpa using namesT_sound h
  | .func _ :: r, h => by simp only [namesT] at h; simpa using namesT_sound h

/-- the operation does not look at the temporary, nor write it -/
structure Off (ops : Array Oper) (o : Oper) (d : Nat) : Prop where
  opd : Operand.tmp d ∉ o.op.operands.toList
  guard : ∀ g w q, o.guard = some (g, w) → ops[g]? = some q → q.dst ≠ some d
  dst : o.dst ≠ some d
theorem apartD_sound {ops : Array Oper} {x y : Oper} (h : apartD ops x y = true) {d : Nat} (hd : x.dst = some d) : Off ops y d := by
  unfold apartD at h
  rw [hd] at h
  simp only [Bool.and_eq_true, bne_iff_ne, ne_eq] at h
  obtain ⟨h1, h2⟩ := h
  have h1' : looksAtT ops y d = false := by simpa using h1
  unfold looksAtT at h1'
  simp only [Bool.or_eq_false_iff] at h1'
  obtain ⟨h3, h4⟩ := h1'
  refine ⟨namesT_sound h3, fun g w q hg hq e => ?_, h2⟩
  rw [hg] at h4
  simp only [hq, e] at h4
  simp at h4

/-! ## The order that is drawn -/
inductive Sched (ops : Array Oper) : List Nat → List Nat → Prop
  | done {L : List Nat} (h : readyA ops L = []) : Sched ops L []
  | step {L l : List Nat} {i : Nat} (h : i ∈ readyA ops L) (hl : Sched ops (i :: L) l) : Sched ops L (i :: l)

theorem mem_readyA {ops : Array Oper} {L : List Nat} {i : Nat} : i ∈ readyA ops L ↔ i ∉ L ∧ ∃ o, ops[i]? = some o ∧ Preds ops i L := by
  unfold readyA
  simp only [List.mem_filter, List.mem_range, Bool.and_eq_true]
  constructor
  · rintro ⟨h1, h2, h3⟩
    refine ⟨by simpa using h2, ops[i], Array.getElem?_eq_getElem h1, ?_⟩
    rw [Array.getElem?_eq_getElem h1] at h3
    intro o ho e he hb
    rw [Array.getElem?_eq_getElem h1] at ho
    cases ho
    have := (Array.all_eq_true'.1 h3) e he
    simpa [hb] using this
  · rintro ⟨h1, o, ho, h2⟩
    refine ⟨(Array.getElem?_eq_some_iff.1 ho).1, by simpa using h1, ?_⟩
    rw [ho]
    refine Array.all_eq_true'.2 fun e he => ?_
    cases hb : Region.binds .any e
    · simp
    · simpa using h2 o ho e he hb

theorem filter_lt {α : Type} [DecidableEq α] (p : α → Bool) (i : α) (hp : p i = true) : ∀ l : List α, i ∈ l → (l.filter fun x => p x && x != i).length < (l.filter p).length
  | [], h => by simp at h
  | x :: l, h => by
    have le : ∀ l : List α, (l.filter fun x => p x && x != i).length ≤ (l.filter p).length := by
      intro l
      induction l with
      | nil => simp
      | cons y l ih =>
        simp only [List.filter_cons]
        cases hpy : p y
        · simpa using ih
        · simp only [Bool.true_and, if_true]
          split
          · simp only [List.length_cons]; omega
          · simp only [List.length_cons]; omega
    by_cases hx : x = i
    · subst hx
      simp only [List.filter_cons, hp, bne_self_eq_false, Bool.and_false, Bool.false_eq_true, if_false, if_true, List.length_cons]
      have := le l
      omega
    · have hm : i ∈ l := by
        rcases List.mem_cons.1 h with h | h
        · exact absurd h.symm hx
        · exact h
      have ih := filter_lt p i hp l hm
      have hxi : (x != i) = true := by simpa using hx
      simp only [List.filter_cons, hxi, Bool.and_true]
      split
      · simp only [List.length_cons]; omega
      · exact ih

theorem ready_eq {ops : Array Oper} {listed : Array Bool} {L : List Nat} (hs : listed.size = ops.size) (hL : ∀ i, listed.getD i false = L.contains i) : Region.ready .any ops listed = readyA ops L := by
  unfold Region.ready readyA
  refine List.filter_congr fun i hi => ?_
  have hil : i < ops.size := List.mem_range.1 hi
  have e1 : listed.getD i true = L.contains i := by
    rw [← hL i]
    simp [Array.getD_eq_getD_getElem?, Array.getElem?_eq_getElem (show i < listed.size by omega)]
  rw [e1, Array.getElem?_eq_getElem hil]
  simp only [Option.map_some, Option.getD_some, hL]

theorem sched_go (ops : Array Oper) : ∀ (fuel t : Nat) (listed : Array Bool) (L : List Nat), listed.size = ops.size → (∀ i, listed.getD i false = L.contains i) → ((List.range ops.size).filter fun i => !L.contains i).length ≤ fuel →
    Sched ops L (Region.linearise.go .any ops fuel t listed []) := by
  intro fuel
  induction fuel with
  | zero =>
    intro t listed L hs hL hf
    simp only [Region.linearise.go, List.reverse_nil]
    refine .done ?_
    have h0 : ((List.range ops.size).filter fun i => !L.contains i) = [] := List.eq_nil_of_length_eq_zero (by omega)
    rw [List.eq_nil_iff_forall_not_mem]
    intro i hi
    obtain ⟨m1, o, m2, _⟩ := mem_readyA.1 hi
    have hil := (Array.getElem?_eq_some_iff.1 m2).1
    have : i ∈ ((List.range ops.size).filter fun i => !L.contains i) := List.mem_filter.2 ⟨List.mem_range.2 hil, by simpa using m1⟩
    rw [h0] at this
    cases this
  | succ fuel ih =>
    intro t listed L hs hL hf
    simp only [Region.linearise.go]
    change Sched ops L (match (Region.ready .any ops listed)[t % (Region.ready .any ops listed).length]? with
      | some i => Region.linearise.go .any ops fuel (t / (Region.ready .any ops listed).length) (listed.setIfInBounds i true) [i]
      | none => [].reverse)
    have hre := ready_eq hs hL
    cases hi : (Region.ready .any ops listed)[t % (Region.ready .any ops listed).length]? with
    | none =>
      have hnil : Region.ready .any ops listed = [] := by
        cases hr : Region.ready .any ops listed with
        | nil => rfl
        | cons x xs =>
          rw [hr] at hi
          have hlt : t % (x :: xs).length < (x :: xs).length := Nat.mod_lt _ (by simp)
          rw [List.getElem?_eq_none_iff] at hi
          omega
      exact .done (by rw [← hre]; exact hnil)
    | some i =>
      simp only []
      rw [linearise_go_acc, List.reverse_singleton, List.singleton_append]
      have hmem : i ∈ readyA ops L := by rw [← hre]; exact List.mem_of_getElem? hi
      obtain ⟨m1, o, m2, m3⟩ := mem_readyA.1 hmem
      have hil := (Array.getElem?_eq_some_iff.1 m2).1
      refine .step hmem (ih _ _ (i :: L) (by simpa using hs) (fun j => ?_) ?_)
      · by_cases hj : i = j
        · subst hj
          simp [Array.getD_eq_getD_getElem?, show i < listed.size by omega]
        · have := hL j
          rw [Array.getD_eq_getD_getElem?, Array.getElem?_setIfInBounds_ne hj, ← Array.getD_eq_getD_getElem?, this]
          have hj' : (j == i) = false := by simpa using (fun e => hj e.symm)
          simp only [List.contains_cons, hj', Bool.false_or]
      · have hlt := filter_lt (fun j => !L.contains j) i (by simpa using m1) (List.range ops.size) (List.mem_range.2 hil)
        have : ((List.range ops.size).filter fun j => !(i :: L).contains j) = ((List.range ops.size).filter fun j => (!L.contains j) && j != i) := by
          refine List.filter_congr fun j _ => ?_
          simp only [List.contains_cons, Bool.not_or]
          rw [Bool.and_comm]
          rfl
        rw [this]
        omega

theorem sched_of (ops : Array Oper) (t : Nat) : Sched ops [] (Region.schedule true ops t) := by
  simp only [Region.schedule, Bool.true_or, if_true, Region.linearise]
  refine sched_go ops ops.size t _ [] (by simp) (fun i => ?_) ?_
  · simp only [List.contains_nil, Array.getD_eq_getD_getElem?, Array.getElem?_replicate]
    split <;> rfl
  · have := List.length_filter_le (fun i => !([] : List Nat).contains i) (List.range ops.size)
    simpa using this
end Go.Am

namespace Go.Am

mutual
theorem avEq_sound : ∀ (a b : AV), avEq a b = true → a = b
  | .b _, b, h | .i _ _, b, h | .str _, b, h | .nilp, b, h | .nils, b, h | .nilm, b, h | .nilf, b, h | .nili, b, h | .esl, b, h | .ptr _ _, b, h | .sl _ _ _ _, b, h | .mp _, b, h | .yld _, b, h => by
    cases b <;> simp_all [avEq]
  | .op _, b, h | .any, b, h => by cases b <;> simp [avEq] at h
  | .ip cs, b, h => by
    cases b <;> simp only [avEq, Bool.false_eq_true] at h
    rw [avEqs_sound _ _ h]
  | .isl cs n, b, h => by
    cases b <;> simp only [avEq, Bool.false_eq_true, Bool.and_eq_true] at h
    rw [avEqs_sound _ _ h.1, Nat.eq_of_beq_eq_true h.2]
  | .fn f x y, b, h => by
    cases b <;> simp only [avEq, Bool.false_eq_true, Bool.and_eq_true] at h
    rw [Nat.eq_of_beq_eq_true h.1.1, avEqs_sound _ _ h.1.2, avEqs_sound _ _ h.2]
  | .ifc t x, b, h => by
    cases b <;> simp only [avEq, Bool.false_eq_true, Bool.and_eq_true] at h
    rw [Nat.eq_of_beq_eq_true h.1, avEq_sound _ _ h.2]
  | .agg cs, b, h => by
    cases b <;> simp only [avEq, Bool.false_eq_true] at h
    rw [avEqs_sound _ _ h]
  | .tup cs, b, h => by
    cases b <;> simp only [avEq, Bool.false_eq_true] at h
    rw [avEqs_sound _ _ h]
theorem avEqs_sound : ∀ (a b : List AV), avEqs a b = true → a = b
  | [], b, h => by cases b <;> simp_all [avEqs]
  | a :: as, b, h => by
    cases b with
    | nil => simp [avEqs] at h
    | cons b bs =>
      simp only [avEqs, Bool.and_eq_true] at h
      rw [avEq_sound _ _ h.1, avEqs_sound _ _ h.2]
end
theorem blkEq_sound : ∀ (x y : Blk), blkEq x y = true → x = y
  | .cells .., y, h => by
    cases y <;> simp only [blkEq, Bool.false_eq_true, Bool.and_eq_true] at h
    obtain ⟨⟨⟨h1, h2⟩, h3⟩, h4⟩ := h
    rw [Nat.eq_of_beq_eq_true h1, avEqs_sound _ _ h2, Nat.eq_of_beq_eq_true h3, beq_iff_eq.1 h4]
  | .map [] c, y, h => by
    cases y with
    | map es c' => cases es with
      | nil => simp only [blkEq] at h; rw [Nat.eq_of_beq_eq_true h]
      | cons => simp [blkEq] at h
    | _ => simp [blkEq] at h
  | .map (_ :: _) _, y, h => by cases y <;> simp [blkEq] at h
  | .loop _, y, h => by cases y <;> simp [blkEq] at h
  | .dfr, y, h => by cases y <;> simp [blkEq] at h
  | .siter .., y, h => by cases y <;> simp [blkEq] at h

/-! ## What is looked at alone counts -/
theorem alight_congr {C : Cx} {ρ ρ' : Operand → AV} {H : AH} {o : Oper} (h : ∀ x ∈ o.op.operands.toList, ρ x = ρ' x) : alight C ρ H o = alight C ρ' H o := by
  obtain ⟨dst, op, type, pos, after, guard⟩ := o
  have pairs : ∀ ps : List (Nat × Operand), (∀ x ∈ ps.map (·.2), ρ x = ρ' x) → (ps.map fun p => (p.1, ρ p.2)) = (ps.map fun p => (p.1, ρ' p.2)) := fun ps hp =>
    List.map_congr_left fun p hm => by rw [hp p.2 (List.mem_map.2 ⟨p, hm, rfl⟩)]
  cases op <;> simp only [Op.operands] at h <;> simp only [alight]
  case build t ps => rw [pairs _ (by simpa using h)]
  case makeFunc fn first cap =>
    cases fn <;> simp only []
    rw [List.map_congr_left (l := first.toList) fun x hx => h x (by rw [Array.toList_append]; exact List.mem_append_left _ hx), List.map_congr_left (l := cap.toList) fun x hx => h x (by rw [Array.toList_append]; exact List.mem_append_right _ hx)]
  case call c =>
    obtain ⟨callee, args, argTypes⟩ := c
    cases callee <;> simp only []
    rw [List.map_congr_left (l := args.toList) fun x hx => h x (by unfold Call.operands; rw [Array.toList_append]; exact List.mem_append_right _ hx)]
  case slice t x lo hi mx => cases lo <;> cases hi <;> cases mx <;> simp_all
  all_goals (first | rfl | (simp_all; done))

theorem afresh_congr {C : Cx} {ρ ρ' : Operand → AV} {o : Oper} (h : ∀ x ∈ o.op.operands.toList, ρ x = ρ' x) : afresh C ρ o = afresh C ρ' o := by
  obtain ⟨dst, op, type, pos, after, guard⟩ := o
  have pairs : ∀ ps : List (Nat × Operand), (∀ x ∈ ps.map (·.2), ρ x = ρ' x) → (ps.map fun p => (p.1, ρ p.2)) = (ps.map fun p => (p.1, ρ' p.2)) := fun ps hp =>
    List.map_congr_left fun p hm => by rw [hp p.2 (List.mem_map.2 ⟨p, hm, rfl⟩)]
  cases op <;> simp only [Op.operands] at h <;> simp only [afresh]
  case buildSlice t n ps => rw [pairs _ (by simpa using h)]
  case makeMap t r => cases r <;> rfl
  all_goals (first | rfl | (simp_all; done))

theorem awanted_congr {ops : Array Oper} {T T' : PT AV} {o : Oper} (h : ∀ g w q d, o.guard = some (g, w) → ops[g]? = some q → q.dst = some d → PT.get TD T d = PT.get TD T' d) : awanted ops T o = awanted ops T' o := by
  unfold awanted
  cases hg : o.guard with
  | none => rfl
  | some gw =>
    obtain ⟨g, want⟩ := gw
    have : ayield ops T g = ayield ops T' g := by
      unfold ayield
      cases hq : ops[g]? with
      | none => rfl
      | some q =>
        cases hd : q.dst with
        | none => simp only [hd]
        | some d => simp only [hd, h g want q d hg hq hd]
    simp only [this]

theorem get_tset_ne {T : PT AV} {n d t : Nat} {a : AV} (h : t ≠ d) : PT.get TD (tset T n d a) t = PT.get TD T t := by
  unfold tset
  cases Nat.blt d n
  · rfl
  · exact PT.get_set_ne _ _ _ _ _ h
theorem get_tset_some {T : PT AV} {n d t : Nat} {a b : AV} (h : PT.get TD (tset T n d a) t = some b) (hb : ∀ t a, PT.get TD T t = some a → t < n) : (t = d ∧ b = a ∧ d < n) ∨ (t ≠ d ∧ PT.get TD T t = some b) := by
  by_cases ht : t = d
  · subst ht
    unfold tset at h
    cases hlt : Nat.blt t n
    · rw [hlt] at h
      simp only [cond_false] at h
      have h1 := hb _ _ h
      rw [← Nat.blt_eq] at h1
      rw [h1] at hlt; cases hlt
    · rw [hlt] at h
      simp only [cond_true] at h
      rcases PT.get_set_some h with ⟨_, h1⟩ | ⟨h1, _⟩
      · exact .inl ⟨rfl, (Option.some.inj h1).symm, by rwa [Nat.blt_eq] at hlt⟩
      · exact absurd rfl h1
  · rw [get_tset_ne ht] at h
    exact .inr ⟨ht, h⟩
theorem aev_tset {C : Cx} {T : PT AV} {n d : Nat} {a : AV} {x : Operand} (h : x ≠ .tmp d) : aev C (tset T n d a) x = aev C T x := by
  cases x with
  | tmp t => simp only [aev, tget]; rw [get_tset_ne (fun e => h (by rw [e]))]
  | const v => rfl
  | global g => rfl
  | func f => rfl

/-- two states of the temporaries that an operation cannot tell apart -/
structure Same (C : Cx) (ops : Array Oper) (T T' : PT AV) (o : Oper) : Prop where
  opd : ∀ x ∈ o.op.operands.toList, aev C T' x = aev C T x
  guard : ∀ g w q d, o.guard = some (g, w) → ops[g]? = some q → q.dst = some d → PT.get TD T' d = PT.get TD T d
  dst : ∀ d, o.dst = some d → PT.get TD T' d = PT.get TD T d
theorem Off.same {C : Cx} {ops : Array Oper} {T : PT AV} {n d : Nat} {a : AV} {o : Oper} (h : Off ops o d) : Same C ops T (tset T n d a) o :=
  ⟨fun x hx => aev_tset (fun e => h.opd (by rw [← e]; exact hx)), fun g w q t hg hq ht => get_tset_ne (fun e => h.guard g w q hg hq (by rw [ht, e])), fun t ht => get_tset_ne (fun e => h.dst (by rw [ht, e]))⟩
theorem Same.refl (C : Cx) (ops : Array Oper) (T : PT AV) (o : Oper) : Same C ops T T o := ⟨fun _ _ => rfl, fun _ _ _ _ _ _ _ => rfl, fun _ _ => rfl⟩
theorem same_put {C : Cx} {ops : Array Oper} {T : PT AV} {n : Nat} {dst : Option Nat} {a : AV} {o : Oper} (h : ∀ d, dst = some d → Off ops o d) : Same C ops T (tput T n dst a) o := by
  cases dst with
  | none => exact .refl C ops T o
  | some d => exact (h d rfl).same

/-- what is known of an operation that has been taken early -/
inductive Good (C : Cx) (ops : Array Oper) (E : Env) (T : PT AV) (H : AH) (i : Nat) : Prop
  | skip {o : Oper} (ho : ops[i]? = some o) (hw : awanted ops T o = some false) (hd : ∀ d b, o.dst = some d → PT.get TD T d = some b → b = undefA)
  | light {o : Oper} {a : AV} (ho : ops[i]? = some o) (hw : awanted ops T o = some true) (hl : lightOp C o = true) (ha : alight C (aev C T) H o = some a) (hd : ∀ d b, o.dst = some d → PT.get TD T d = some b → b = a)
  | fresh {o : Oper} {k : FK} {x : Blk} {d id : Nat} (ho : ops[i]? = some o) (hw : awanted ops T o = some true) (hl : lightOp C o = false) (ha : afresh C (aev C T) o = some (k, x)) (hd : o.dst = some d)
      (ht : PT.get TD T d = some (k.mk id)) (hx : H.get id = some x) (hi : E.ι id = none) (hn : id < H.nxt)

theorem idOf_mk (k : FK) (id : Nat) : idOf (k.mk id) = id := by cases k <;> rfl

/-- behind an operation that the others waited for -/
theorem Good.again {C : Cx} {ops : Array Oper} {E E' : Env} {T T' : PT AV} {H H' : AH} {i : Nat} (h : Good C ops E T H i) (hs : ∀ o, ops[i]? = some o → Same C ops T T' o) (hr : recheck C ops T' H' i = true)
    (hι : ∀ id, id < H.nxt → E.ι id = none → E'.ι id = none) (hn : H.nxt ≤ H'.nxt) : Good C ops E' T' H' i := by
  cases h with
  | @skip o ho hw hd =>
    have s := hs o ho
    refine .skip ho ?_ (fun d b h1 h2 => hd d b h1 (by rw [← s.dst d h1]; exact h2))
    rw [← hw]; exact awanted_congr s.guard
  | @light o a ho hw hl ha hd =>
    have s := hs o ho
    have hw' : awanted ops T' o = some true := by rw [← hw]; exact awanted_congr s.guard
    unfold recheck at hr
    simp only [ho, hw', hl, cond_true] at hr
    split at hr
    · rename_i a' d h1 h2
      have e := avEq_sound _ _ hr
      refine .light ho hw' hl h1 (fun d' b h3 h4 => ?_)
      rw [h2] at h3; cases h3
      rw [e, tget, h4]
    · rename_i a' h1 h2
      exact .light ho hw' hl h1 (fun d' b h3 _ => by rw [h2] at h3; cases h3)
    · cases hr
  | @fresh o k x d id ho hw hl ha hd ht hx hi hn' =>
    have s := hs o ho
    have hw' : awanted ops T' o = some true := by rw [← hw]; exact awanted_congr s.guard
    have ha' : afresh C (aev C T') o = some (k, x) := by rw [← ha]; exact afresh_congr s.opd
    have ht' : PT.get TD T' d = some (k.mk id) := by rw [s.dst d hd]; exact ht
    unfold recheck at hr
    simp only [ho, hw', hl, cond_false, ha', hd, tget, ht', idOf_mk, Bool.and_eq_true] at hr
    obtain ⟨_, hr⟩ := hr
    split at hr
    · rename_i y hy
      have := blkEq_sound _ _ hr
      subst this
      exact .fresh ho hw' hl ha' hd ht' hy (hι id hn' hi) (by omega)
    · cases hr
end Go.Am
