/-
  From a row's listed variables to what the machine knows; a call that runs closed whatever its arguments hold; a law's post. (Conditions: CxOK, GOK.)
-/
import Derived.Test.YtpnaeljbfnjghaaGreatDoorAmg
import Derived.Lib.LaidTab
import Derived.WalkKit
import Derived.ProofKit
import Derived.OpenShut
import Derived.WideKeyArgs
import Derived.Deep.DeepHandedRow
namespace Go.Am

/-! # From a row's list of variables to what the machine knows of them -/
section
variable (P : Program)
mutual
/-- the cells that a datum is laid as: numbers, texts, structs and arrays of them -/
def rdV : Nat → TypeId → DataW Unit → Option (List AV)
  | 0, _, _ => none
  | n + 1, t, d => match P.underlying t, d with
    | some .bool, .lit (.bool b) => some [.b b]
    | some (.int k), .lit (.int k' m) => if k' = k then some [.i k m] else none
    | some .string, .lit (.string s) => some [.str s]
    | some (.struct fs), .agg ds => rdFs n fs.toList ds 0 (P.cellsOf t)
    | some (.array len e), .agg ds => if ds.length = len ∧ len * P.cellsOf e = P.cellsOf t then rdEs n e ds else none
    | _, _ => none
def rdFs : Nat → List Field → List (DataW Unit) → Nat → Nat → Option (List AV)
  | 0, _, _, _, _ => none
  | _ + 1, [], [], off, size => if off = size then some [] else none
  | n + 1, f :: fs, d :: ds, off, size => if f.offset = off then (match rdV n f.type d, rdFs n fs ds (off + P.cellsOf f.type) size with
    | some a, some as => if a.length = P.cellsOf f.type then some (a ++ as) else none
    | _, _ => none) else none
  | _, _, _, _, _ => none
def rdEs : Nat → TypeId → List (DataW Unit) → Option (List AV)
  | 0, _, _ => none
  | _ + 1, _, [] => some []
  | n + 1, e, d :: ds => match rdV n e d, rdEs n e ds with
    | some a, some as => if a.length = P.cellsOf e then some (a ++ as) else none
    | _, _ => none
end
end

section
variable {P : Program} {E : Env} {enc : TypeId × Value → Unit} {w : World} {base : Nat} {sp : Nat → Bool} {held : Bool}

theorem rd_sound : ∀ n : Nat,
    (∀ t d as fuel cs p, rdV P n t d = some as → DataW.trod enc P w base sp held fuel t cs = some (d, p) → VRs E as cs) ∧
    (∀ (fs : List Field) ds off size as fuel (cs : List Value) xs, rdFs P n fs ds off size = some as → cs.length = size → fs.mapM (fun f => DataW.trod enc P w base sp held fuel f.type ((cs.drop f.offset).take (P.cellsOf f.type))) = some xs → xs.map (·.1) = ds → VRs E as (cs.drop off)) ∧
    (∀ e ds as fuel (cs : List Value) k m xs, rdEs P n e ds = some as → cs.length = (k + m) * P.cellsOf e → (List.range' k m).mapM (fun i => DataW.trod enc P w base sp held fuel e ((cs.drop (i * P.cellsOf e)).take (P.cellsOf e))) = some xs → xs.map (·.1) = ds → VRs E as (cs.drop (k * P.cellsOf e))) := by
  intro n
  induction n with
  | zero => exact ⟨fun _ _ _ _ _ _ h => by simp [rdV] at h, fun _ _ _ _ _ _ _ _ h => by simp [rdFs] at h, fun _ _ _ _ _ _ _ _ h => by simp [rdEs] at h⟩
  | succ n ih =>
    obtain ⟨ih1, ih2, ih3⟩ := ih
    refine ⟨?_, ?_, ?_⟩
    · intro t d as fuel cs p h ht
      cases fuel with
      | zero => simp [DataW.trod] at ht
      | succ fuel =>
        unfold rdV at h
        unfold DataW.trod at ht
        split at h <;> (try (cases h; done))
        · rename_i b hu
          cases h
          split at ht <;> simp_all
          obtain ⟨rfl, _⟩ := ht
          simp [VRs, VR]
        · rename_i k k' m hu
          split at h <;> (try (cases h; done))
          rename_i hk
          cases h
          subst hk
          split at ht <;> simp_all
          obtain ⟨_, rfl, _⟩ := ht
          simp_all [VRs, VR]
        · rename_i s hu
          cases h
          split at ht <;> simp_all
          obtain ⟨_, h2, _⟩ := ht
          subst h2
          simp [VRs, VR]
        · rename_i fs ds hu
          split at ht <;> (try (simp_all; done))
          rename_i fs' hu'
          rw [hu] at hu'
          simp only [Option.some.injEq, TypeDesc.struct.injEq] at hu'
          subst hu'
          split at ht <;> (try (cases ht; done))
          rename_i hl
          obtain ⟨xs, hm, hx⟩ := Option.map_eq_some_iff.1 ht
          simp only [Prod.mk.injEq, DataW.agg.injEq] at hx
          have := ih2 fs.toList ds 0 (P.cellsOf t) as fuel _ xs h hl hm hx.1
          simpa using this
        · rename_i len e ds hu
          split at h <;> (try (cases h; done))
          rename_i hc
          split at ht <;> (try (simp_all; done))
          rename_i n' e' hu'
          rw [hu] at hu'
          simp only [Option.some.injEq, TypeDesc.array.injEq] at hu'
          obtain ⟨rfl, rfl⟩ := hu'
          split at ht <;> (try (cases ht; done))
          rename_i hl
          obtain ⟨xs, hm, hx⟩ := Option.map_eq_some_iff.1 ht
          simp only [Prod.mk.injEq, DataW.agg.injEq] at hx
          rw [List.range_eq_range'] at hm
          have := ih3 e ds as fuel _ 0 len xs h (by rw [hl, Nat.zero_add]; exact hc.2.symm) hm hx.1
          simpa using this
    · intro fs ds off size as fuel cs xs h hl hm hx
      cases fs with
      | nil =>
        cases ds with
        | cons => simp [rdFs] at h
        | nil =>
          simp only [rdFs] at h
          split at h <;> (try (cases h; done))
          rename_i ho
          cases h
          simp only [VRs]
          exact List.drop_of_length_le (by omega)
      | cons f fs =>
        cases ds with
        | nil => simp [rdFs] at h
        | cons d ds =>
          simp only [rdFs] at h
          split at h <;> (try (cases h; done))
          rename_i ho
          split at h <;> (try (cases h; done))
          rename_i a as' ha has
          split at h <;> (try (cases h; done))
          rename_i hla
          cases h
          simp only [List.mapM_cons, Option.bind_eq_bind, Option.bind_eq_some_iff, Option.pure_def, Option.some.injEq] at hm
          obtain ⟨x, hx1, xs', hm', rfl⟩ := hm
          simp only [List.map_cons, List.cons.injEq] at hx
          obtain ⟨hx2, hx3⟩ := hx
          obtain ⟨xd, xp⟩ := x
          simp only at hx2
          subst hx2
          have v1 := ih1 _ _ _ _ _ _ ha hx1
          have v2 := ih2 fs ds _ _ _ _ _ _ has hl hm' hx3
          subst ho
          have : cs.drop f.offset = (cs.drop f.offset).take (P.cellsOf f.type) ++ cs.drop (f.offset + P.cellsOf f.type) := by
            rw [← List.drop_drop, List.take_append_drop]
          rw [this]
          exact v1.append v2
    · intro e ds as fuel cs k m xs h hl hm hx
      cases m with
      | zero =>
        simp only [List.range'_zero, List.mapM_nil, Option.pure_def, Option.some.injEq] at hm
        subst hm
        simp only [List.map_nil] at hx
        subst hx
        simp only [rdEs, Option.some.injEq] at h
        subst h
        simp only [VRs]
        exact List.drop_of_length_le (by rw [hl]; simp)
      | succ m =>
        rw [List.range'_succ] at hm
        simp only [List.mapM_cons, Option.bind_eq_bind, Option.bind_eq_some_iff, Option.pure_def, Option.some.injEq] at hm
        obtain ⟨x, hx1, xs', hm', rfl⟩ := hm
        obtain ⟨xd, xp⟩ := x
        cases ds with
        | nil => simp at hx
        | cons d ds =>
          simp only [List.map_cons, List.cons.injEq] at hx
          obtain ⟨hx2, hx3⟩ := hx
          subst hx2
          simp only [rdEs] at h
          split at h <;> (try (cases h; done))
          rename_i a as' ha has
          split at h <;> (try (cases h; done))
          rename_i hla
          cases h
          have v1 := ih1 _ _ _ _ _ _ ha hx1
          have v2 := ih3 e ds _ _ cs (k + 1) m _ has (by rw [hl]; congr 1; omega) hm' hx3
          have : cs.drop (k * P.cellsOf e) = (cs.drop (k * P.cellsOf e)).take (P.cellsOf e) ++ cs.drop ((k + 1) * P.cellsOf e) := by
            rw [show (k + 1) * P.cellsOf e = k * P.cellsOf e + P.cellsOf e by rw [Nat.add_mul, Nat.one_mul], ← List.drop_drop, List.take_append_drop]
          rw [this]
          exact v1.append v2

/-- a listed variable's cells -/
theorem laid_cells {laid : List (String × DataW Unit)} {ps : List MemPlace} {n : Nat} (h : DataW.LaidVars P w laid ps) : ∀ {name : String} {d : DataW Unit} {g : Nat} {t : TypeId} {as : List AV}, (name, d) ∈ laid → P.globalNamed name = some g → (P.globals[g]?).map (·.type) = some t → rdV P n t d = some as →
    ∃ vs, VRs E as vs ∧ ∀ j x, vs[j]? = some x → w.cell? ⟨g, j, none⟩ = some x := by
  induction laid generalizing ps with
  | nil => intro name d g t as hm; cases hm
  | cons x r ih =>
    intro name d g t as hm hg ht hr
    obtain ⟨n', d'⟩ := x
    obtain ⟨g', t', cs, fuel, p, q, h1, h2, h3, h4, h5, _⟩ := h
    rcases List.mem_cons.1 hm with he | hm
    · simp only [Prod.mk.injEq] at he
      obtain ⟨rfl, rfl⟩ := he
      rw [hg] at h1; cases h1
      rw [ht] at h2; cases h2
      refine ⟨cs.toList, (rd_sound n).1 _ _ _ _ _ _ hr h4, fun j x hx => ?_⟩
      have := World.var?_cell hg h3 j
      rw [this]
      simpa using hx
    · exact ih h5 hm hg ht hr
end

/-- the variables that the machine knows -/
theorem gok_of {C : Cx} {W : World} (hG : ∀ g cs, C.G g = some cs → ∃ vs, VRs (E0 W) cs vs ∧ ∀ j x, vs[j]? = some x → W.cell? ⟨g, j, none⟩ = some x) (hi : ∀ p ∈ C.ints, ∃ m : Int, W.cell? ⟨p.1, 0, none⟩ = some (.int p.2 m)) : GOK C (E0 W) :=
  ⟨fun g cs h => by
    obtain ⟨vs, h1, h2⟩ := hG g cs h
    simp only [VR]
    exact ⟨g, 0, vs, rfl, h1, fun j x hx => by rw [Nat.zero_add]; exact h2 j x hx⟩, fun p hp => hi p hp⟩

/-- **A CALL THAT RUNS CLOSED, WHATEVER ITS ARGUMENTS HOLD.** -/
theorem dn_calls {C : Cx} (hC : CxOK C) {f : FuncId} {n : Nat} {as : List AV} {vs : Array Value} {a : AV} {H' : AH} {v : Value} {w : World} (hrun : (cbs C n).call C f as ⟨.lf, 0⟩ = some (.val a, H')) (hv : VRs (E0 w) as vs.toList)
    (hav : ∀ E u, VR E a u → u = v) (hG : GOK C (E0 w)) :
    Calls C.P f vs w fun e w' => e = .returned v ∧ w'.tape = w.tape ∧ w'.os = w.os ∧ w'.output = w.output ∧ w.heap.size ≤ w'.heap.size ∧ ∀ b, b < w.heap.size → w'.heap[b]? = w.heap[b]? := by
  intro cs
  unfold CB.call at hrun
  split at hrun <;> (try (cases hrun; done))
  rename_i g hg
  split at hrun <;> (try (cases hrun; done))
  rename_i g' H1 hf
  obtain ⟨h1, h2, h3, h4, h5, h5'⟩ := (cbs_ok hC n).frame hf
  have h6 := h1 []
  simp only [List.append_nil] at h6
  have hfn0 : g.fn = f := (enter_kind hg).2.1
  have hent := enter_sound (C := C) (E := E0 w) hg hv
  obtain ⟨E', fr', cs', w', s1, s2, s3, s4⟩ := h6 (E0 w) (Frame.enter C.P f vs .normal) [] w cs ⟨_, _, rfl, hent, rfl⟩ (hr0 w) hG
  simp only [FRs] at s2
  obtain ⟨_, _, e, s2, s5⟩ := s2
  cases e
  subst s5
  split at hrun
  · rename_i hmode
    split at hrun <;> (try (cases hrun; done))
    rename_i a' ha
    cases hrun
    obtain ⟨fn, u, r1, r2, r3⟩ := results_sound ha s2 s3
    have hu := hav _ _ r3
    subst hu
    have m := s2.mode
    have d := s2.defers
    rw [hmode] at m
    rw [h3] at d
    refine ⟨.returned u, w', fr', ⟨rfl, s4.tape, s4.os, s4.out, s4.size, fun b hb => s4.keep b hb (fun id p h => by simp [E0] at h)⟩, s1, ?_⟩
    exact ⟨by rw [s2.fn, h5', hfn0], m, d, by rw [s2.kind, h5, (enter_kind hg).1], fn, r1, r2⟩
  · cases hrun
  · cases hrun
end Go.Am

namespace Go.Am
open Go.ChangeShapes Go.RowKit

section
variable {H : Type} {enc : TypeId × Value → H} {P : Program}

theorem trodAll_stays (hl : laidOutB P = true) {W W' : World} {sp : Nat → Bool} : ∀ {ts : List TypeId} {vs : List Value} {ds : List (DataW H)} {ps : List MemPlace}, (∀ t ∈ ts, P.readableRec t = true ∧ t < P.types.size) →
    DataW.TrodAll enc P W 0 (fun _ => true) true ts vs ds ps → (∀ p ∈ ps, W.sameAt W' p) → (∀ p ∈ ps, sp p.block = true) → DataW.TrodAll enc P W' 0 sp true ts vs ds ps
  | [], [], [], _, _, h, _, _ => h
  | [], [], _ :: _, _, _, h, _, _ => h.elim
  | [], _ :: _, _, _, _, h, _, _ => h.elim
  | _ :: _, [], _, _, _, h, _, _ => h.elim
  | _ :: _, _ :: _, [], _, _, h, _, _ => h.elim
  | t :: ts, v :: vs, d :: ds, _, hr, h, hs, hsp => by
    obtain ⟨p, q, h1, h2, rfl⟩ := h
    exact ⟨p, q, WideElems.Trod_stays hl (hr t (by simp)).1 (hr t (by simp)).2 h1 (fun x hx => hs x (by simp [hx])) (fun x hx => hsp x (by simp [hx])),
      trodAll_stays hl (fun t' ht => hr t' (by simp [ht])) h2 (fun x hx => hs x (by simp [hx])) (fun x hx => hsp x (by simp [hx])), rfl⟩

/-- what a closed call keeps -/
def Kept (W W' : World) : Prop := W'.os = W.os ∧ W'.output = W.output ∧ W.heap.size ≤ W'.heap.size ∧ ∀ b, b < W.heap.size → W'.heap[b]? = W.heap[b]?

theorem Kept.same {W W' : World} (h : Kept W W') {p : MemPlace} (hp : p.block < W.heap.size) : W.sameAt W' p := by
  cases p with
  | cell b off => exact cell?_congr (h.2.2.2 b hp)
  | map b => exact h.2.2.2 b hp
theorem Kept.but {W W' : World} (h : Kept W W') (may : MemPlace → Prop) : W.keptBut W' may := by
  refine ⟨h.1, h.2.1, fun i hi => ?_⟩
  rw [h.2.2.2 i hi]
  cases hx : W.heap[i]? with
  | none => trivial
  | some o =>
    cases o with
    | cells c t fr => exact ⟨rfl, rfl, rfl, fun _ _ => rfl⟩
    | map es clock => exact .inr ⟨rfl, rfl⟩
    | _ => rfl

/-- **A LAW's POST:** it returned true, and nothing that was there has turned. -/
theorem law_post {f : Func} {s : ChangeSpec} {apart : Bool} {W W' : World} {args : Array Value} {ds gs : List (DataW H)} {before : List MemPlace} {tb : TypeId}
    (hW : DataW.Whole enc P f.params.toList s.vars apart W args.toList ds gs before) (hv : s.vars = []) (hfn : s.fn H (ds ++ gs) = { results := [.lit (.bool true)], args := ds })
    (hrt : f.resultTypes = #[tb]) (htb : P.underlying tb = some .bool) (hl : laidOutB P = true) (hr : ∀ t ∈ f.params.toList, P.readableRec t = true ∧ t < P.types.size) (hk : Kept W W') :
    s.post enc P f apart true false false W args (.bool true) W' := by
  have hlt := fun p hp => hW.lt p hp
  refine ⟨ds, gs, before, [], before, [], hW, ?_, ?_, ?_, hk.but _, fun h => by cases h⟩
  · rw [hfn, hrt]
    exact trodAll_mk1 ⟨1, by simp [DataW.trod, Value.cells, htb]⟩
  · obtain ⟨p, q, hA, hV, rfl, _, _⟩ := hW
    rw [hv] at hV
    obtain ⟨rfl, rfl⟩ := trodVars_none hV
    rw [hfn, List.append_nil]
    rw [List.append_nil] at hlt
    exact trodAll_stays hl hr hA (fun p hp => hk.same (hlt p hp)) (fun p hp => by simpa using hlt p hp)
  · rw [hfn, hv]
    rfl
end
end Go.Am

namespace Go.Am
open Go.ChangeShapes Go.RowKit

/-- an argument of which nothing is known -/
def anyArg (P : Program) (t : TypeId) : AV := match P.underlying t with
  | some (.struct _) | some (.array _ _) => .agg (List.replicate (P.cellsOf t) .any)
  | _ => .any
theorem VRs_any {E : Env} : ∀ (vs : List Value), VRs E (List.replicate vs.length .any) vs
  | [] => rfl
  | v :: vs => ⟨v, vs, rfl, by simp [VR], VRs_any vs⟩
theorem VR_anyArg {E : Env} {P : Program} {w : World} {r : Reach} {base : Nat} {t : TypeId} {v : Value} (h : Value.okWide P w r base t v) : VR E (anyArg P t) v := by
  unfold anyArg
  unfold Value.okWide at h
  split
  · rename_i hu
    rw [hu] at h
    obtain ⟨cs, rfl, hs, _⟩ := h
    simp only [VR]
    refine ⟨cs, rfl, ?_⟩
    have := VRs_any (E := E) cs.toList
    rw [Array.length_toList, hs] at this
    exact this
  · rename_i hu
    rw [hu] at h
    obtain ⟨cs, rfl, hs, _⟩ := h
    simp only [VR]
    refine ⟨cs, rfl, ?_⟩
    have := VRs_any (E := E) cs.toList
    rw [Array.length_toList, hs] at this
    exact this
  · simp [VR]
theorem trodAll_length {H : Type} {enc : TypeId × Value → H} {P : Program} {w : World} {base : Nat} {sp : Nat → Bool} {held : Bool} : ∀ {ts : List TypeId} {vs : List Value} {ds : List (DataW H)} {ps : List MemPlace}, DataW.TrodAll enc P w base sp held ts vs ds ps → vs.length = ts.length ∧ ds.length = ts.length
  | [], [], [], _, _ => ⟨rfl, rfl⟩
  | [], [], _ :: _, _, h => h.elim
  | [], _ :: _, _, _, h => h.elim
  | _ :: _, [], _, _, h => h.elim
  | _ :: _, _ :: _, [], _, h => h.elim
  | _ :: _, _ :: _, _ :: _, _, h => by
    obtain ⟨p, q, _, h2, _⟩ := h
    obtain ⟨a, b⟩ := trodAll_length h2
    exact ⟨by simp [a], by simp [b]⟩
theorem VRs_anyArgs {E : Env} {P : Program} {w : World} {r : Reach} {base : Nat} {ts : List TypeId} {vs : List Value} (hl : vs.length = ts.length) (h : ∀ (j : Nat) t v, ts[j]? = some t → vs[j]? = some v → Value.okWide P w r base t v) :
    VRs E (ts.map (anyArg P)) vs :=
  VRs.mk (by simp [hl]) fun j a v ha hv => by
    simp only [List.getElem?_map, Option.map_eq_some_iff] at ha
    obtain ⟨t, ht, rfl⟩ := ha
    exact VR_anyArg (h j t v ht hv)

/-- the call returns true -/
noncomputable def endsTrue (r : Option (CR × AH)) : Bool :=
  Option.rec (motive := fun _ => Bool) false (fun p => Prod.rec (motive := fun _ => Bool) (fun c _ => CR.rec (motive := fun _ => Bool) (fun a => AV.rec (motive_1 := fun _ => Bool) (motive_2 := fun _ => Unit) (fun x => x) (fun _ _ => false) (fun _ => false) false false false false false (fun _ _ => false) (fun _ _ _ _ => false) false (fun _ _ => false) (fun _ _ _ => false) (fun _ => false) (fun _ _ _ _ _ => false) (fun _ => false) (fun _ _ _ => false) (fun _ _ => false) (fun _ _ => false) (fun _ => false) false () (fun _ _ _ _ => ()) a) (fun _ => false) c) p) r
theorem endsTrue_iff {r : Option (CR × AH)} (h : endsTrue r = true) : ∃ H, r = some (.val (.b true), H) := by
  cases r with
  | none => cases h
  | some p =>
    obtain ⟨c, H⟩ := p
    cases c with
    | pan => cases h
    | val a =>
      cases a <;> (try (cases h; done))
      rename_i x
      obtain rfl : x = true := h
      exact ⟨H, rfl⟩

/-- **A LAW THAT RUNS CLOSED, WHATEVER ITS ARGUMENTS HOLD:** from the machine's run to the call. -/
theorem law_calls {C : Cx} (hC : CxOK C) {f : FuncId} {n : Nat} {ts : List TypeId} {vs : Array Value} {w : World} (hrun : endsTrue (callQ C (cbsQ C n) f (ts.map (anyArg C.P)) ⟨.lf, 0⟩) = true) (hv : VRs (E0 w) (ts.map (anyArg C.P)) vs.toList) (hG : GOK C (E0 w)) :
    Calls C.P f vs w fun e w' => e = .returned (.bool true) ∧ Kept w w' := by
  rw [callQ_eq, cbsQ_eq] at hrun
  obtain ⟨H, hH⟩ := endsTrue_iff hrun
  refine (dn_calls hC hH hv (v := .bool true) (fun E u hu => by simpa [VR] using hu) hG).mono fun e w' h => ?_
  obtain ⟨h1, _, h3, h4, h5, h6⟩ := h
  exact ⟨h1, h3, h4, h5, h6⟩
end Go.Am
