/-
  The abstract machine is right, in every order of a region that draws; externs; closed calls. (Conditions: CxOK.)
-/
import Derived.Test.YtpnaeljbfnjghaaGreatDoorAmc
import Derived.Lib.Bytealg
import Derived.Lib.MakeNoZero
import Derived.Lib.Index
import Derived.Lib.Repeat
import Derived.Below
namespace Go.Am

inductive LOK (ops : Array Oper) : List Nat → Prop
  | nil : LOK ops []
  | cons {i : Nat} {L : List Nat} (hp : Preds ops i L) (h : LOK ops L) : LOK ops (i :: L)
theorem Preds.cons {ops : Array Oper} {k i : Nat} {L : List Nat} (h : Preds ops k L) : Preds ops k (i :: L) := fun o ho e he hb => List.mem_cons_of_mem _ (h o ho e he hb)
theorem LOK.closed {ops : Array Oper} {L : List Nat} (h : LOK ops L) : Closed ops L := by
  induction h with
  | nil => intro k hk; cases hk
  | cons hp h ih =>
    intro k hk
    rcases List.mem_cons.1 hk with rfl | hk
    · exact hp.cons
    · exact (ih k hk).cons
theorem LOK.ready {ops : Array Oper} {L LC : List Nat} (h : LOK ops L) (hops : ∀ i ∈ L, i ∉ LC → ∃ o, ops[i]? = some o) (hex : ∃ i ∈ L, i ∉ LC) : ∃ i ∈ L, i ∈ readyA ops LC := by
  induction h with
  | nil => obtain ⟨i, hi, _⟩ := hex; cases hi
  | @cons i L hp h ih =>
    by_cases hex' : ∃ j ∈ L, j ∉ LC
    · obtain ⟨j, h1, h2⟩ := ih (fun j hj hn => hops j (List.mem_cons_of_mem _ hj) hn) hex'
      exact ⟨j, List.mem_cons_of_mem _ h1, h2⟩
    · have all : ∀ j ∈ L, j ∈ LC := fun j hj => Classical.byContradiction fun hn => hex' ⟨j, hj, hn⟩
      have hi : i ∉ LC := by
        obtain ⟨j, hj, hn⟩ := hex
        rcases List.mem_cons.1 hj with rfl | hj
        · exact hn
        · exact absurd (all j hj) hn
      obtain ⟨o, ho⟩ := hops i (by simp) hi
      exact ⟨i, by simp, mem_readyA.2 ⟨hi, o, ho, fun o' ho' e he hb => all _ (hp o' ho' e he hb)⟩⟩

def FreshAt (C : Cx) (ops : Array Oper) (T : PT AV) (p id : Nat) : Prop :=
  ∃ o d, ops[p]? = some o ∧ lightOp C o = false ∧ awanted ops T o = some true ∧ o.dst = some d ∧ idOf (tget T d) = id

def LooksTo (ops : Array Oper) (o : Oper) (t : Nat) : Prop := Operand.tmp t ∈ o.op.operands.toList ∨ ∃ g w q, o.guard = some (g, w) ∧ ops[g]? = some q ∧ q.dst = some t
theorem Off.no {ops : Array Oper} {o : Oper} {t : Nat} (h : Off ops o t) : ¬ LooksTo ops o t := by
  rintro (h1 | ⟨g, w, q, h1, h2, h3⟩)
  · exact h.opd h1
  · exact h.guard g w q h1 h2 h3

structure DI (C : Cx) (ops : Array Oper) (af : AF) (E0 : Env) (w0 : World) (E : Env) (L hs : List Nat) (T : PT AV) (B : List AF) (H : AH) (LC : List Nat) (fr : Frame) (cs : List Frame) (w : World) : Prop where
  fn : fr.fn = af.fn
  defers : DRs E af.defers fr.defers
  mode : fr.mode = .run
  kind : fr.kind = af.kind
  roundOf : RoR E af.roundOf fr.roundOf
  size : fr.tmps.size = af.n
  bnd : ∀ t a, PT.get TD T t = some a → t < af.n
  tmps : ∀ t a, PT.get TD T t = some a → (∃ p o, p ∈ L ∧ p ∉ LC ∧ ops[p]? = some o ∧ o.dst = some t) ∨ ∃ v, fr.tmps[t]? = some v ∧ VR E a v
  below : FRs E B cs
  heap : HR E H w
  glob : GOK C E
  ext : Ext E0 w0 E w
  sub : ∀ i ∈ LC, i ∈ L
  lclosed : Closed ops LC
  order : LOK ops L
  hsOK : ∀ i ∈ L, i ∉ LC → i ∈ hs
  good : ∀ i ∈ L, i ∉ LC → Good C ops E T H i
  pp : ∀ p ∈ L, p ∉ LC → ∀ q ∈ L, q ∉ LC → p ≠ q → ∀ o o' d, ops[p]? = some o → ops[q]? = some o' → o.dst = some d → Off ops o' d ∨ Anc ops p q
  self : ∀ p ∈ L, p ∉ LC → ∀ o d, ops[p]? = some o → o.dst = some d → ¬ LooksTo ops o d
  dist : ∀ p ∈ L, p ∉ LC → ∀ q ∈ L, q ∉ LC → ∀ id, FreshAt C ops T p id → FreshAt C ops T q id → p = q
  outer : ∀ p ∈ L, p ∉ LC → ∀ id, FreshAt C ops T p id → E0.N ≤ id

section
variable {C : Cx} {ops : Array Oper} {af : AF} {E0 E : Env} {w0 w : World} {L hs LC : List Nat} {T : PT AV} {B : List AF} {H : AH} {fr : Frame} {cs : List Frame}

/-- what an operation looks at when its time has come is there -/
theorem DI.looks (h : DI C ops af E0 w0 E L hs T B H LC fr cs w) (hap : apartOK ops = true) {i : Nat} {o : Oper} (ho : ops[i]? = some o) (hn : i ∉ LC) (hp : Preds ops i LC) {t : Nat} (hl : LooksTo ops o t) {a : AV} (ha : PT.get TD T t = some a) :
    ∃ v, fr.tmps[t]? = some v ∧ VR E a v := by
  rcases h.tmps t a ha with ⟨p, q, p1, p2, p3, p4⟩ | hv
  · exfalso
    by_cases hpi : p = i
    · subst hpi
      rw [ho] at p3; cases p3
      exact h.self p p1 p2 o t ho p4 hl
    · by_cases hiL : i ∈ L
      · rcases h.pp p p1 p2 i hiL hn hpi q o t p3 ho p4 with hoff | hanc
        · exact hoff.no hl
        · exact p2 (hanc.mem' h.lclosed hp)
      · rcases apartOK_sound hap p3 ho hpi with hanc | hanc | ⟨hx, _⟩
        · exact p2 (hanc.mem' h.lclosed hp)
        · exact hiL (hanc.mem h.order.closed p1)
        · exact (apartD_sound hx p4).no hl
  · exact hv

theorem DI.opds (h : DI C ops af E0 w0 E L hs T B H LC fr cs w) (hap : apartOK ops = true) {i : Nat} {o : Oper} (ho : ops[i]? = some o) (hn : i ∉ LC) (hp : Preds ops i LC) : Opds E o (aev C T) (Act.eval ⟨fr.tmps, fr.defers⟩) := by
  intro x hx
  cases x with
  | tmp t =>
    simp only [aev, Act.eval, tget]
    split
    · rename_i a ha
      obtain ⟨v, h1, h2⟩ := h.looks hap ho hn hp (.inl hx) ha
      simpa [Array.getD_eq_getD_getElem?, h1] using h2
    · simp [VR]
  | const v => exact ofV_sound 3 v
  | global g =>
    simp only [aev, Act.eval]
    split
    · rename_i cs hg; exact h.glob.1 g cs hg
    · simp [VR]
  | func f => simp only [aev, Act.eval, VR]; exact ⟨#[], #[], rfl, by simp [VRs], by simp [VRs]⟩

theorem DI.wants (h : DI C ops af E0 w0 E L hs T B H LC fr cs w) (hap : apartOK ops = true) {i : Nat} {o : Oper} (ho : ops[i]? = some o) (hn : i ∉ LC) (hp : Preds ops i LC) {b : Bool} (hw : awanted ops T o = some b) : Region.wanted o (yielded ops fr.tmps) = b := by
  unfold awanted at hw
  split at hw
  · rename_i hg; cases hw; simp [Region.wanted, hg]
  · rename_i j want hg
    simp only [Region.wanted, hg]
    have key : ∀ r, ayield ops T j = some r → yielded ops fr.tmps j = r := by
      intro r hr
      unfold ayield at hr
      split at hr <;> (try (cases hr; done))
      rename_i q hq
      split at hr <;> (try (cases hr; done))
      rename_i d hd
      have hl : LooksTo ops o d := .inr ⟨j, want, q, hg, hq, hd⟩
      split at hr <;> (try (cases hr; done))
      · rename_i x hx
        cases hr
        obtain ⟨v, h1, h2⟩ := h.looks hap ho hn hp hl hx
        simp only [VR] at h2; subst h2
        simp [yielded, hq, hd, h1]
      · rename_i l hx
        cases hr
        obtain ⟨v, h1, h2⟩ := h.looks hap ho hn hp hl hx
        simp only [VR] at h2
        obtain ⟨y, rfl, _⟩ := h2
        simp [yielded, hq, hd, h1]
    split at hw <;> (try (cases hw; done))
    · rename_i x hx
      cases hw
      rw [key _ hx]
      simp
    · rename_i hx
      cases hw
      rw [key _ hx]
      simp

theorem finish_eq {fr : Frame} {i : Nat} {l : List Nat} {k' : List Item} {o : Oper} (htodo : fr.todo = .inRegion ops (i :: l) :: k') (ho : ops[i]? = some o) (v : Value) :
    (fr.finish v).fn = fr.fn ∧ (fr.finish v).defers = fr.defers ∧ (fr.finish v).mode = fr.mode ∧ (fr.finish v).kind = fr.kind ∧ (fr.finish v).roundOf = fr.roundOf ∧ (fr.finish v).todo = .inRegion ops l :: k' ∧
      (fr.finish v).tmps = (match o.dst with | some d => fr.tmps.setIfInBounds d v | none => fr.tmps) := by
  unfold Frame.finish
  rw [htodo]
  cases hd : o.dst <;> simp [ho, hd]

/-- an operation that was taken early has come up -/
theorem DI.done (h : DI C ops af E0 w0 E L hs T B H LC fr cs w) {i : Nat} {l : List Nat} {k' : List Item} {o : Oper} (hi : i ∈ L) (hn : i ∉ LC) (hp : Preds ops i LC) (ho : ops[i]? = some o) (htodo : fr.todo = .inRegion ops (i :: l) :: k')
    {E' : Env} {w' : World} {a : AV} {v : Value} (hle : E.le E') (hr : HR E' H w') (hx : Ext E0 w0 E' w') (hv : VR E' a v) (hd : ∀ d b, o.dst = some d → PT.get TD T d = some b → b = a)
    (hg : ∀ q ∈ L, q ∉ LC → q ≠ i → Good C ops E' T H q) : DI C ops af E0 w0 E' L hs T B H (i :: LC) (fr.finish v) cs w' := by
  obtain ⟨f1, f2, f3, f4, f5, f6, f7⟩ := finish_eq htodo ho v
  have pend : ∀ {q : Nat}, q ∉ i :: LC → q ≠ i ∧ q ∉ LC := fun {q} hq => by simpa using hq
  refine ⟨by rw [f1]; exact h.fn, by rw [f2]; exact h.defers.mono hle, by rw [f3]; exact h.mode, by rw [f4]; exact h.kind, by rw [f5]; exact h.roundOf.mono hle, ?_, h.bnd, ?_, h.below.mono hle, hr, h.glob.mono hle, hx, ?_, ?_, h.order, ?_, ?_, ?_, ?_, ?_, ?_⟩
  · rw [f7]; cases o.dst <;> simp [h.size]
  · intro t b hb
    by_cases ht : o.dst = some t
    · have e := hd t b ht hb
      right
      refine ⟨v, ?_, by rw [e]; exact hv⟩
      rw [f7, ht]
      simp only
      rw [Array.getElem?_setIfInBounds_self, if_pos (by rw [h.size]; exact h.bnd t b hb)]
    · rcases h.tmps t b hb with ⟨p, q, p1, p2, p3, p4⟩ | ⟨u, u1, u2⟩
      · by_cases hpi : p = i
        · subst hpi; rw [ho] at p3; cases p3; exact absurd p4 ht
        · exact .inl ⟨p, q, p1, by simp [hpi, p2], p3, p4⟩
      · right
        refine ⟨u, ?_, VR.mono hle _ _ u2⟩
        rw [f7]
        cases hdst : o.dst with
        | none => exact u1
        | some d =>
          simp only
          rw [Array.getElem?_setIfInBounds_ne (fun e => ht (by rw [hdst, e]))]
          exact u1
  · intro j hj
    rcases List.mem_cons.1 hj with rfl | hj
    · exact hi
    · exact h.sub j hj
  · intro k hk
    rcases List.mem_cons.1 hk with rfl | hk
    · exact hp.cons
    · exact (h.lclosed k hk).cons
  · intro j hj hjn; exact h.hsOK j hj (pend hjn).2
  · intro j hj hjn; exact hg j hj (pend hjn).2 (pend hjn).1
  · intro p p1 p2 q q1 q2; exact h.pp p p1 (pend p2).2 q q1 (pend q2).2
  · intro p p1 p2; exact h.self p p1 (pend p2).2
  · intro p p1 p2 q q1 q2; exact h.dist p p1 (pend p2).2 q q1 (pend q2).2
  · intro p p1 p2; exact h.outer p p1 (pend p2).2

theorem Good.mono_add {i : Nat} {id : Nat} {x : Nat × Nat × Nat} (h : Good C ops E T H i) (hne : ¬ FreshAt C ops T i id) : Good C ops (E.add id x) T H i := by
  cases h with
  | skip ho hw hd => exact .skip ho hw hd
  | light ho hw hl ha hd => exact .light ho hw hl ha hd
  | @fresh o k y d id' ho hw hl ha hd ht hx hi hn =>
    refine .fresh ho hw hl ha hd ht hx ?_ hn
    have hid : id' ≠ id := fun e => hne ⟨o, d, ho, hl, hw, hd, by simp only [tget, ht, idOf_mk, e]⟩
    simp only [Env.add, hid, if_false]
    exact hi

/-- the step of an operation that was taken early -/
theorem DI.late (h : DI C ops af E0 w0 E L hs T B H LC fr cs w) (hap : apartOK ops = true) {i : Nat} {l : List Nat} {k' : List Item} (hi : i ∈ L) (hr : i ∈ readyA ops LC) (htodo : fr.todo = .inRegion ops (i :: l) :: k') (rest : List Frame) :
    ∃ E' fr' w', step C.P (lone fr (cs ++ rest) w) = .next (lone fr' (cs ++ rest) w') ∧ fr'.todo = .inRegion ops l :: k' ∧ DI C ops af E0 w0 E' L hs T B H (i :: LC) fr' cs w' := by
  obtain ⟨hn, o, ho, hp⟩ := mem_readyA.1 hr
  have hself := atR_self h.mode
  have hgd := h.good i hi hn
  have opw : Region.wanted o (yielded ops fr.tmps) = true → ∀ v w', (execOp (Act.eval ⟨fr.tmps, fr.defers⟩) o).run C.P w = .ok (.value v) w' → (∀ c, o.op ≠ .defer c) → step C.P (lone fr (cs ++ rest) w) = .next (lone (fr.finish v) (cs ++ rest) w') := by
    intro hw v w' hrun hnd
    have hg0 := stepGR_op (P := C.P) (b := fr) (a := ⟨fr.tmps, fr.defers⟩) (k := k') (cs := cs ++ rest) (w := w) (rest := l) ho hw
    rw [← htodo, ← hself, Oper.semAt_eq _ _ _ hnd] at hg0
    exact step_lone_go (by rw [hg0]; simp [stepG.apply, Sem.runT_eq, hrun])
  have gmono : ∀ q ∈ L, q ∉ LC → q ≠ i → Good C ops E T H q := fun q q1 q2 _ => h.good q q1 q2
  cases hgd with
  | @skip o' ho' hw hd =>
    rw [ho] at ho'; cases ho'
    have hwc := h.wants hap ho hn hp hw
    have hs := stepR_op_skip (P := C.P) (b := fr) (a := ⟨fr.tmps, fr.defers⟩) (k := k') (cs := cs ++ rest) (w := w) (ops := ops) (i := i) (rest := l) (by simp [ho, hwc])
    rw [← Frame.finish_atR, ← htodo, ← hself] at hs
    exact ⟨E, fr.finish undef, w, hs, (finish_eq htodo ho _).2.2.2.2.2.1, h.done hi hn hp ho htodo (.refl E) h.heap h.ext undef_sound hd gmono⟩
  | @light o' a ho' hw hl ha hd =>
    rw [ho] at ho'; cases ho'
    have hwc := h.wants hap ho hn hp hw
    obtain ⟨v, v1, v2⟩ := alight_sound ha h.heap (h.opds hap ho hn hp)
    exact ⟨E, fr.finish v, w, opw hwc v w v1 (fun c hc => by simp [lightOp, hc] at hl), (finish_eq htodo ho _).2.2.2.2.2.1, h.done hi hn hp ho htodo (.refl E) h.heap h.ext v2 hd gmono⟩
  | @fresh o' k x d id ho' hw hl ha hd ht hx hι hid =>
    rw [ho] at ho'; cases ho'
    have hwc := h.wants hap ho hn hp hw
    obtain ⟨s, s1, obj, m, v, s2, s3⟩ := fresh_sound (w := w) ha (h.opds hap ho hn hp)
    obtain ⟨q1, q2⟩ := s3 id hι
    have hfr : FreshAt C ops T i id := ⟨o, d, ho, hl, hw, hd, by simp only [tget, ht, idOf_mk]⟩
    have hget : ∀ j y, H.get j = some y → (j = id ∧ y = x) ∨ (j ≠ id ∧ H.get j = some y) := fun j y hy => by
      by_cases e : j = id
      · subst e; rw [hx] at hy; cases hy; exact .inl ⟨rfl, rfl⟩
      · exact .inr ⟨e, hy⟩
    have E00 : (⟨E.ι, E.I, 0⟩ : Env) = ⟨E.ι, E.I, 0⟩ := rfl
    -- the bound on new numbers plays no part here
    have hr0 : HR ⟨E.ι, E.I, 0⟩ H w := by
      have mono : E.le ⟨E.ι, E.I, 0⟩ := ⟨fun _ _ h => h, fun _ _ _ h => h⟩
      exact ⟨fun id x b s n hx hi => BR.mono mono _ (h.heap.blks id x b s n hx hi), h.heap.inj, h.heap.nxt, h.heap.bnd, h.heap.imm, h.heap.disj, Nat.zero_le _⟩
    have m01 : (Env.add E id (w.heap.size, 0, m)).le (Env.add ⟨E.ι, E.I, 0⟩ id (w.heap.size, 0, m)) := ⟨fun _ _ h => h, fun _ _ _ h => h⟩
    have m10 : (Env.add ⟨E.ι, E.I, 0⟩ id (w.heap.size, 0, m)).le (Env.add E id (w.heap.size, 0, m)) := ⟨fun _ _ h => h, fun _ _ _ h => h⟩
    obtain ⟨r1, r2⟩ := hr0.allocAt id hι (Nat.zero_le _) hid (Nat.le_refl _) obj x m hget (BR.mono m01 _ q1)
    have r1' : HR (E.add id (w.heap.size, 0, m)) H (w.alloc obj) :=
      ⟨fun j y b s n hy hi => BR.mono m10 _ (r1.blks j y b s n hy hi), r1.inj, r1.nxt, r1.bnd, r1.imm, r1.disj, h.heap.N⟩
    have hle : E.le (E.add id (w.heap.size, 0, m)) := Env.le_add hι
    have hout := h.outer i hi hn id hfr
    have hx' : Ext E0 w0 (E.add id (w.heap.size, 0, m)) (w.alloc obj) := by
      have e := h.ext
      refine ⟨e.le.trans hle, Nat.le_trans e.size r2.size, fun b hb hnb => ?_, fun j b p hj => ?_, e.tape, e.os, e.out, fun j hj hne => ?_, e.N⟩
      · rw [← e.keep b hb hnb]
        exact heap_alloc_lt (Nat.lt_of_lt_of_le hb e.size)
      · simp only [Env.add] at hj
        split at hj
        · simp only [Option.some.injEq, Prod.mk.injEq] at hj
          exact .inr (by rw [← hj.1]; exact e.size)
        · exact e.new j b p hj
      · simp only [Env.add] at hne
        split at hne
        · rename_i hj'; rw [hj']; exact hout
        · exact e.ids j hj hne
    refine ⟨E.add id (w.heap.size, 0, m), fr.finish v, w.alloc obj, opw hwc v _ (by rw [s1]; simp [s2]) (fun c hc => by simp [afresh, hc] at ha), (finish_eq htodo ho _).2.2.2.2.2.1,
      h.done hi hn hp ho htodo hle r1' hx' q2 (fun d' b h1 h2 => by rw [hd] at h1; cases h1; rw [ht] at h2; cases h2; rfl) (fun q q1 q2 q3 => (h.good q q1 q2).mono_add (fun hq => q3 (h.dist q q1 q2 i hi hn id hq hfr)))⟩
end
end Go.Am

namespace Go.Am
section
variable {C : Cx} {ops : Array Oper} {af : AF} {E0 E : Env} {w0 w : World} {L hs LC : List Nat} {T : PT AV} {B : List AF} {H : AH} {fr : Frame} {cs : List Frame}

def Env.up (E : Env) (n : Nat) : Env := { E with N := n }
theorem Env.le_up (E : Env) (n : Nat) : E.le (E.up n) := ⟨fun _ _ h => h, fun _ _ _ h => h⟩
theorem Env.up_le (E : Env) (n : Nat) : (E.up n).le E := ⟨fun _ _ h => h, fun _ _ _ h => h⟩
theorem HR.up (h : HR E H w) : HR (E.up H.nxt) H w :=
  ⟨fun id x b s n hx hi => BR.mono (E.le_up _) _ (h.blks id x b s n hx hi), h.inj, h.nxt, h.bnd, h.imm, h.disj, Nat.le_refl _⟩
theorem Ext.up {n : Nat} (h : E.N ≤ n) : Ext E w (E.up n) w := ⟨E.le_up n, Nat.le_refl _, fun _ _ _ => rfl, fun id _ p h => .inl ⟨id, p, h⟩, rfl, rfl, rfl, fun _ h k => absurd h k, h⟩

/-- an operation in lockstep -/
theorem DI.lockRun (h : DI C ops af E0 w0 E L hs T B H LC fr cs w) (hC : CxOK C) {sub : AM → Option AM} (hsub : SubOK C sub) (hap : apartOK ops = true) {j : Nat} {l : List Nat} {k' : List Item} {o : Oper} (hr : j ∈ readyA ops LC)
    (ho : ops[j]? = some o) (hw : awanted ops T o = some true) (htodo : fr.todo = .inRegion ops (j :: l) :: k') {r : AO} {B' : List AF} {H' : AH} (hrun : runOp C sub af T B H o = some (r, B', H')) (rest : List Frame) :
    ∃ E' cs' w', FRs E' B' cs' ∧ HR E' H' w' ∧ Ext (E.up H.nxt) w E' w' ∧ (match r with
      | .val a => ∃ v, VR E' a v ∧ Steps C.P (lone fr (cs ++ rest) w) (lone (fr.finish v) (cs' ++ rest) w')
      | .panic ch => ∃ es, ChR E' ch es ∧ Steps C.P (lone fr (cs ++ rest) w) (lone (fr.raise es) (cs' ++ rest) w')) := by
  obtain ⟨hn, o', ho', hp⟩ := mem_readyA.1 hr
  rw [ho] at ho'; cases ho'
  have hself := atR_self h.mode
  have hwc := h.wants hap ho hn hp hw
  have hop := h.opds hap ho hn hp
  have hle1 := E.le_up H.nxt
  have hop1 : Opds (E.up H.nxt) o (aev C T) (Act.eval ⟨fr.tmps, fr.defers⟩) := fun x hx => VR.mono hle1 _ _ (hop x hx)
  have hr1 := h.heap.up
  have hb1 := h.below.mono hle1
  have hg0 := stepGR_op (P := C.P) (b := fr) (a := ⟨fr.tmps, fr.defers⟩) (k := k') (cs := cs ++ rest) (w := w) (rest := l) ho hwc
  rw [← htodo, ← hself] at hg0
  unfold runOp at hrun
  cases haop : aop C (aev C T) H o with
  | none => rw [haop] at hrun; cases hrun
  | some p =>
    obtain ⟨n, H1⟩ := p
    rw [haop] at hrun
    have hN := aop_sound hC (h.glob.mono hle1) haop hr1 hop1
    have hsem : (∀ d, n ≠ .defer d) → o.semAt fr.roundOf (Act.eval ⟨fr.tmps, fr.defers⟩) = execOp (Act.eval ⟨fr.tmps, fr.defers⟩) o := by
      intro hd
      refine Oper.semAt_eq _ _ _ (fun c hc => ?_)
      have hlight : lightOp C o = false := by simp [lightOp, hc]
      have ha := haop
      unfold aop at ha
      rw [hlight] at ha
      simp only [cond_false] at ha
      unfold aheavy at ha
      rw [hc] at ha
      simp only at ha
      split at ha <;> (try (cases ha; done))
      split at ha <;> (try (cases ha; done))
      cases ha
      exact hd _ rfl
    cases n with
    | val a =>
      cases hrun
      obtain ⟨E', v, w', h1, h2, h3, h4⟩ := hN
      rw [hsem (by intro d e; cases e)] at hg0
      exact ⟨E', cs, w', hb1.mono h3.le, h2, h3, v, h4, .one (step_lone_go (by rw [hg0]; simp [stepG.apply, Sem.runT_eq, h1]))⟩
    | skip =>
      cases hrun
      obtain ⟨E', w', h1, h2, h3⟩ := hN
      rw [hsem (by intro d e; cases e)] at hg0
      exact ⟨E', cs, w', hb1.mono h3.le, h2, h3, undef, undef_sound, .one (step_lone_go (by rw [hg0]; simp [stepG.apply, Sem.runT_eq, h1]))⟩
    | known f a =>
      cases hrun
      obtain ⟨vs, h1, h2⟩ := hN
      obtain ⟨fr', E', v, w', k1, k2, k3, k4, k5⟩ := h2 (fr :: (cs ++ rest))
      rw [hsem (by intro d e; cases e)] at hg0
      exact ⟨E', cs, w', hb1.mono k4.le, k3, k4, v, k5, .head (step_lone_go (by rw [hg0]; simp [stepG.apply, Sem.runT_eq, h1, htodo])) (k1.trans (.one (step_leave_returned k2)))⟩
    | enter f args =>
      simp only at hrun
      obtain ⟨vs, h1, h2, h3⟩ := hN
      rw [hsem (by intro d e; cases e)] at hg0
      split at hrun <;> (try (cases hrun; done))
      rename_i g hg
      split at hrun <;> (try (cases hrun; done))
      rename_i g' H2 hs2
      have hent : step C.P (lone fr (cs ++ rest) w) = .next (lone (Frame.enter C.P f vs .normal) (fr :: (cs ++ rest)) w) := step_lone_go (by rw [hg0]; simp [stepG.apply, Sem.runT_eq, h1, htodo])
      obtain ⟨E', fr', cs', w', s1, s2, s3, s4⟩ := hsub _ _ hs2 (E.up H.nxt) (Frame.enter C.P f vs .normal) [] w (fr :: (cs ++ rest)) ⟨_, _, rfl, enter_sound hg h2, rfl⟩ h3 (h.glob.mono hle1)
      simp only [FRs] at s2
      obtain ⟨_, _, e, s2, s5⟩ := s2
      cases e
      subst s5
      have hm := s2.mode
      have hd := s2.defers
      split at hrun <;> (try (cases hrun; done))
      · rename_i hmode hdef hkind
        split at hrun <;> (try (cases hrun; done))
        rename_i a ha
        cases hrun
        obtain ⟨fn, v, r1, r2, r3⟩ := results_sound ha s2 s3
        rw [hmode] at hm
        rw [hdef] at hd
        exact ⟨E', cs, w', hb1.mono s4.le, s3, s4, v, r3, .head hent (s1.trans (.one (step_leave_returned ⟨hm, hd, by rw [s2.kind, hkind], fn, r1, r2⟩)))⟩
      · rename_i chain fn hmode hdef hfn
        cases hrun
        rw [hmode] at hm
        rw [hdef] at hd
        obtain ⟨es, e1, e2⟩ := hm
        exact ⟨E', cs, w', hb1.mono s4.le, s3, s4, es, e2, .head hent (s1.trans (.one (step_leave_panicked ⟨e1, hd, fn, by rw [s2.fn]; exact hfn⟩)))⟩
    | round id args => cases hrun
    | defer d => cases hrun
    | recover =>
      simp only at hrun
      split at hrun <;> (try (cases hrun; done))
      rename_i v below' hrec
      cases hrun
      obtain ⟨h1, h3⟩ := hN
      rw [hsem (by intro d e; cases e)] at hg0
      have hff : FR (E.up H.nxt) { af with tmps := .lf, todo := [], mode := .ret } { fr with mode := .returning } :=
        ⟨h.fn, ⟨h.size, fun t a ha => by rw [PT.get_lf] at ha; cases ha⟩, (fun e => by cases e), h.defers.mono hle1, rfl, h.kind, h.roundOf.mono hle1⟩
      have hrec' : arecover { af with tmps := .lf, todo := [], mode := .ret } B = some (v, _) := hrec
      obtain ⟨u, cs', r1, r2, r3, r4⟩ := recover_sound hrec' hff hb1
      have htr : ∀ cs, tryRecover { fr with mode := .returning } cs = tryRecover fr cs := fun cs => by unfold tryRecover; rfl
      have hro1 : fr.roundOf = none := r1
      rcases r4 rest with r4 | ⟨r4, r5, r6⟩
      · rw [htr] at r4
        exact ⟨E.up H.nxt, cs', w, r3, h3, .refl _ w, u, r2, .one (step_lone_go (by rw [hg0]; simp [stepG.apply, Sem.runT_eq, h1, hro1, r4]))⟩
      · rw [htr] at r4
        rw [r5] at r2
        rw [r6] at r3
        exact ⟨E.up H.nxt, cs, w, r3, h3, .refl _ w, .nilIface, r2, .one (step_lone_go (by rw [hg0]; simp [stepG.apply, Sem.runT_eq, h1, hro1, r4]))⟩
    | panic a =>
      cases hrun
      obtain ⟨v, h1, h2, h3⟩ := hN
      rw [hsem (by intro d e; cases e)] at hg0
      exact ⟨E.up H.nxt, cs, w, hb1, h3, .refl _ w, [{ v, recovered := false }], chR_one h2, .one (step_lone_go (by rw [hg0]; simp [stepG.apply, Sem.runT_eq, h1]))⟩
end
end Go.Am

namespace Go.Am
section
variable {C : Cx} {ops : Array Oper} {af : AF} {E0 E : Env} {w0 w : World} {L hs LC : List Nat} {T : PT AV} {B : List AF} {H : AH} {fr : Frame} {cs : List Frame}

theorem tput_same {o o' : Oper} (ho : ∀ d, o.dst = some d → Off ops o' d) (n : Nat) (a : AV) : Same C ops T (tput T n o.dst a) o' := same_put ho

theorem tput_some {n t : Nat} {dst : Option Nat} {a b : AV} (h : PT.get TD (tput T n dst a) t = some b) (hb : ∀ t a, PT.get TD T t = some a → t < n) : (dst = some t ∧ b = a ∧ t < n) ∨ (dst ≠ some t ∧ PT.get TD T t = some b) := by
  cases dst with
  | none => exact .inr ⟨by simp, h⟩
  | some d =>
    rcases get_tset_some h hb with ⟨rfl, h1, h2⟩ | ⟨h1, h2⟩
    · exact .inl ⟨rfl, h1, h2⟩
    · exact .inr ⟨fun e => h1 (Option.some.inj e).symm, h2⟩

theorem DI.freshLt (h : DI C ops af E0 w0 E L hs T B H LC fr cs w) {q id : Nat} (h1 : q ∈ L) (h2 : q ∉ LC) (hf : FreshAt C ops T q id) : id < H.nxt := by
  obtain ⟨o, d, ho, hl, hw, hd, hid⟩ := hf
  cases h.good q h1 h2 with
  | skip ho' hw' _ => rw [ho] at ho'; cases ho'; rw [hw] at hw'; cases hw'
  | light ho' _ hl' _ _ => rw [ho] at ho'; cases ho'; rw [hl] at hl'; cases hl'
  | fresh ho' _ _ _ hd' ht _ _ hn =>
    rw [ho] at ho'; cases ho'
    rw [hd] at hd'; cases hd'
    rw [tget, ht] at hid
    simp only [idOf_mk] at hid
    rw [← hid]; exact hn

theorem FreshAt.same {T' : PT AV} {q id : Nat} (hs : ∀ o, ops[q]? = some o → Same C ops T T' o) (h : FreshAt C ops T' q id) : FreshAt C ops T q id := by
  obtain ⟨o, d, ho, hl, hw, hd, hid⟩ := h
  have s := hs o ho
  refine ⟨o, d, ho, hl, ?_, hd, ?_⟩
  · rw [← hw]; exact (awanted_congr s.guard).symm
  · rw [← hid]; simp only [tget, s.dst d hd]

/-- an operation that did not wait for the others -/
theorem DI.lock (h : DI C ops af E0 w0 E L hs T B H LC fr cs w) (hap : apartOK ops = true) {j : Nat} {l : List Nat} {k' : List Item} {o : Oper} (hjL : j ∉ L) (hr : j ∈ readyA ops LC) (hrL : Preds ops j L)
    (ho : ops[j]? = some o) (htodo : fr.todo = .inRegion ops (j :: l) :: k') {a : AV} {v : Value} {E' : Env} {B' : List AF} {H' : AH} {cs' : List Frame} {w' : World} (hv : VR E' a v) (hb : FRs E' B' cs') (hh : HR E' H' w') (hx : Ext (E.up H.nxt) w E' w')
    {hs' : List Nat} (hhs : ∀ i ∈ hs, i ∉ hs' → Anc ops i j) (hall : ∀ i ∈ hs', recheck C ops (tput T af.n o.dst a) H' i = true) :
    DI C ops af E0 w0 E' (j :: L) hs' (tput T af.n o.dst a) B' H' (j :: LC) (fr.finish v) cs' w' := by
  obtain ⟨hn, o', ho', hp⟩ := mem_readyA.1 hr
  rw [ho] at ho'; cases ho'
  obtain ⟨f1, f2, f3, f4, f5, f6, f7⟩ := finish_eq htodo ho v
  have hle : E.le E' := (E.le_up _).trans hx.le
  have hext : Ext E0 w0 E' w' := (h.ext.trans (Ext.up h.heap.N)).trans hx
  have hnxt : H.nxt ≤ H'.nxt := Nat.le_trans hx.N hh.N
  have pend : ∀ {q : Nat}, q ∈ j :: L → q ∉ j :: LC → q ∈ L ∧ q ∉ LC ∧ q ≠ j := fun {q} h1 h2 => by
    simp only [List.mem_cons, not_or] at h2
    rcases List.mem_cons.1 h1 with rfl | h1
    · exact absurd rfl h2.1
    · exact ⟨h1, h2.2, h2.1⟩
  have off : ∀ {q : Nat} {oq : Oper} {d : Nat}, q ∈ L → q ∉ LC → ops[q]? = some oq → o.dst = some d → Off ops oq d := fun {q oq d} q1 q2 q3 hd => by
    have hne : j ≠ q := fun e => hjL (e ▸ q1)
    rcases apartOK_sound hap ho q3 hne with hanc | hanc | ⟨h1, _⟩
    · exact absurd (hanc.mem h.order.closed q1) hjL
    · exact absurd (hanc.mem' h.lclosed hp) q2
    · exact apartD_sound h1 hd
  have same : ∀ {q : Nat}, q ∈ L → q ∉ LC → ∀ oq, ops[q]? = some oq → Same C ops T (tput T af.n o.dst a) oq := fun {q} q1 q2 oq q3 => tput_same (fun d hd => off q1 q2 q3 hd) af.n a
  have inhs : ∀ {q : Nat}, q ∈ L → q ∉ LC → q ∈ hs' := fun {q} q1 q2 => Classical.byContradiction fun hq => q2 ((hhs q (h.hsOK q q1 q2) hq).mem' h.lclosed hp)
  refine ⟨by rw [f1]; exact h.fn, by rw [f2]; exact h.defers.mono hle, by rw [f3]; exact h.mode, by rw [f4]; exact h.kind, by rw [f5]; exact h.roundOf.mono hle, ?_, ?_, ?_, hb, hh, h.glob.mono hle, hext, ?_, ?_, .cons hrL h.order, ?_, ?_, ?_, ?_, ?_, ?_⟩
  · rw [f7]; cases o.dst <;> simp [h.size]
  · intro t b hb
    rcases tput_some hb h.bnd with ⟨_, _, h3⟩ | ⟨_, h2⟩
    · exact h3
    · exact h.bnd t b h2
  · intro t b hb
    rcases tput_some hb h.bnd with ⟨h1, rfl, h3⟩ | ⟨h1, h2⟩
    · right
      refine ⟨v, ?_, hv⟩
      rw [f7, h1]
      simp only
      rw [Array.getElem?_setIfInBounds_self, if_pos (by rw [h.size]; exact h3)]
    · rcases h.tmps t b h2 with ⟨p, q, p1, p2, p3, p4⟩ | ⟨u, u1, u2⟩
      · have hpj : p ≠ j := fun e => hjL (e ▸ p1)
        exact .inl ⟨p, q, List.mem_cons_of_mem _ p1, by simp [hpj, p2], p3, p4⟩
      · right
        refine ⟨u, ?_, VR.mono hle _ _ u2⟩
        rw [f7]
        cases hdst : o.dst with
        | none => exact u1
        | some d =>
          simp only
          rw [Array.getElem?_setIfInBounds_ne (fun e => h1 (by rw [hdst, e]))]
          exact u1
  · intro i hi
    rcases List.mem_cons.1 hi with rfl | hi
    · simp
    · exact List.mem_cons_of_mem _ (h.sub i hi)
  · intro k hk
    rcases List.mem_cons.1 hk with rfl | hk
    · exact hp.cons
    · exact (h.lclosed k hk).cons
  · intro i hi hin
    obtain ⟨q1, q2, _⟩ := pend hi hin
    exact inhs q1 q2
  · intro i hi hin
    obtain ⟨q1, q2, _⟩ := pend hi hin
    refine (h.good i q1 q2).again (same q1 q2) (hall i (inhs q1 q2)) (fun id hid hn => ?_) hnxt
    exact Classical.byContradiction fun hne => by
      have := hx.ids id hn hne
      simp only [Env.up] at this
      omega
  · intro p p1 p2 q q1 q2
    obtain ⟨p1, p2, _⟩ := pend p1 p2
    obtain ⟨q1, q2, _⟩ := pend q1 q2
    exact h.pp p p1 p2 q q1 q2
  · intro p p1 p2
    obtain ⟨p1, p2, _⟩ := pend p1 p2
    exact h.self p p1 p2
  · intro p p1 p2 q q1 q2 id i1 i2
    obtain ⟨p1, p2, _⟩ := pend p1 p2
    obtain ⟨q1, q2, _⟩ := pend q1 q2
    exact h.dist p p1 p2 q q1 q2 id (i1.same (same p1 p2)) (i2.same (same q1 q2))
  · intro p p1 p2 id i1
    obtain ⟨p1, p2, _⟩ := pend p1 p2
    exact h.outer p p1 p2 id (i1.same (same p1 p2))

theorem looksAt_iff {o : Oper} {d : Nat} (h : looksAtT ops o d = false) : ¬ LooksTo ops o d := by
  unfold looksAtT at h
  simp only [Bool.or_eq_false_iff] at h
  obtain ⟨h1, h2⟩ := h
  rintro (h3 | ⟨g, w, q, h3, h4, h5⟩)
  · exact namesT_sound h1 h3
  · rw [h3] at h2
    simp only [h4, h5] at h2
    simp at h2

theorem get_mono {x : Blk} (h0 : H.get H.nxt = none) : ∀ id y, H.get id = some y → (H.new x).get id = some y := by
  intro id y hy
  have hne : id ≠ H.nxt := fun e => by rw [e, h0] at hy; cases hy
  unfold AH.get AH.new at *
  simp only
  rw [PT.get_set_ne _ _ _ _ _ hne]
  exact hy
end
end Go.Am

namespace Go.Am
section
variable {C : Cx} {P : Program} {ops : Array Oper} {af : AF} {E0 E : Env} {w0 w : World} {L hs LC : List Nat} {T : PT AV} {B : List AF} {H H' : AH} {fr : Frame} {cs : List Frame}

theorem aload_mono (hm : ∀ id y, H.get id = some y → H'.get id = some y) {t : TypeId} {x a : AV} (h : aload P H t x = some a) : aload P H' t x = some a := by
  unfold aload at *
  split at h
  · split at h
    · rename_i hg; simp only [hm _ _ hg]; exact h
    · cases h
  · exact h
  · cases h
theorem aslice_mono (hm : ∀ id y, H.get id = some y → H'.get id = some y) {t : TypeId} {x a : AV} {lo hi mx : Option AV} (h : aslice P H t x lo hi mx = some a) : aslice P H' t x lo hi mx = some a := by
  unfold aslice at *
  split at h
  · exact h
  · split at h <;> (try (exact h))
    rename_i n e id off hu
    split at h <;> (try (cases h; done))
    rename_i l hh st h1 h2
    split at h <;> (try (cases h; done))
    rename_i hg
    simp only [hm _ _ hg]
    exact h
theorem alookup_mono (hm : ∀ id y, H.get id = some y → H'.get id = some y) {t : TypeId} {x k a : AV} {ok : Bool} (h : alookup P H t x k ok = some a) : alookup P H' t x k ok = some a := by
  unfold alookup at *
  split at h <;> (try (cases h; done))
  rename_i kt e hu
  split at h <;> (try (cases h; done))
  rename_i hk
  rw [if_pos hk]
  cases x <;> (try (exact h))
  rename_i id
  cases hg : H.get id with
  | none =>
    simp only [hg] at h
    split at h <;> (try (cases h; done))
    rename_i h1; cases h1
  | some b =>
    simp only [hg] at h
    simp only [hm _ _ hg]
    exact h
theorem alenB_mono (hm : ∀ id y, H.get id = some y → H'.get id = some y) {t : TypeId} {x a : AV} (h : alenB P H t x = some a) : alenB P H' t x = some a := by
  unfold alenB at *
  split at h <;> (try (exact h))
  split at h <;> (try (cases h; done))
  rename_i hg
  simp only [hm _ _ hg]; exact h
theorem alightB_mono (hm : ∀ id y, H.get id = some y → H'.get id = some y) {b : Builtin} {ts : List TypeId} {args : List AV} {a : AV} (h : alightB P H b ts args = some a) : alightB P H' b ts args = some a := by
  unfold alightB at *
  split at h <;> (try (exact h))
  exact alenB_mono hm h
theorem alight_mono (hm : ∀ id y, H.get id = some y → H'.get id = some y) {ρ : Operand → AV} {o : Oper} {a : AV} (h : alight C ρ H o = some a) : alight C ρ H' o = some a := by
  obtain ⟨dst, op, type, pos, after, guard⟩ := o
  cases op
  case makeFunc fn first cap => cases fn <;> exact h
  all_goals (simp only [alight] at h ⊢)
  all_goals (try (exact h))
  case load t x => exact aload_mono hm h
  case slice t x lo hi mx => exact aslice_mono hm h
  case lookup t x ix ok => exact alookup_mono hm h
  case call c =>
    obtain ⟨callee, args, argTypes⟩ := c
    cases callee <;> simp only [reduceCtorEq] at h ⊢
    exact alightB_mono hm h
theorem Good.mono_heap (hm : ∀ id y, H.get id = some y → H'.get id = some y) (hn : H.nxt ≤ H'.nxt) {i : Nat} (h : Good C ops E T H i) : Good C ops E T H' i := by
  cases h with
  | skip ho hw hd => exact .skip ho hw hd
  | light ho hw hl ha hd => exact .light ho hw hl (alight_mono hm ha) hd
  | fresh ho hw hl ha hd ht hx hi hn' => exact .fresh ho hw hl ha hd ht (hm _ _ hx) hi (by omega)
theorem Good.same {T' : PT AV} {i : Nat} (hs : ∀ o, ops[i]? = some o → Same C ops T T' o) (h : Good C ops E T H i) : Good C ops E T' H i := by
  cases h with
  | @skip o ho hw hd =>
    have s := hs o ho
    exact .skip ho (by rw [← hw]; exact awanted_congr s.guard) (fun d b h1 h2 => hd d b h1 (by rw [← s.dst d h1]; exact h2))
  | @light o a ho hw hl ha hd =>
    have s := hs o ho
    exact .light ho (by rw [← hw]; exact awanted_congr s.guard) hl (by rw [← ha]; exact alight_congr s.opd) (fun d b h1 h2 => hd d b h1 (by rw [← s.dst d h1]; exact h2))
  | @fresh o k x d id ho hw hl ha hd ht hx hi hn =>
    have s := hs o ho
    exact .fresh ho (by rw [← hw]; exact awanted_congr s.guard) hl (by rw [← ha]; exact afresh_congr s.opd) hd (by rw [s.dst d hd]; exact ht) hx hi hn

theorem Same.self {o : Oper} {n d : Nat} {a : AV} (hd : ¬ LooksTo ops o d) : (∀ x ∈ o.op.operands.toList, aev C (tset T n d a) x = aev C T x) ∧ awanted ops (tset T n d a) o = awanted ops T o := by
  refine ⟨fun x hx => aev_tset (fun e => hd (.inl (by rw [← e]; exact hx))), awanted_congr fun g w q t hg hq ht => get_tset_ne (fun e => hd (.inr ⟨g, w, q, hg, hq, by rw [ht, e]⟩))⟩

/-- an operation is taken early -/
theorem DI.early (h : DI C ops af E0 w0 E L hs T B H LC fr cs w) (hap : apartOK ops = true) {i : Nat} {o : Oper} (hr : i ∈ readyA ops L) (ho : ops[i]? = some o) {a : AV} {H' : AH}
    (hse : ∀ d, o.dst = some d → ¬ LooksTo ops o d) (hoff : ∀ d, o.dst = some d → ∀ q ∈ hs, ∀ oq, ops[q]? = some oq → Off ops oq d)
    (hm : ∀ id y, H.get id = some y → H'.get id = some y) (hn : H.nxt ≤ H'.nxt) (hh : HR E H' w) (hg : Good C ops E (tput T af.n o.dst a) H' i)
    (hfr : ∀ id, FreshAt C ops (tput T af.n o.dst a) i id → H.nxt ≤ id) :
    DI C ops af E0 w0 E (i :: L) (i :: hs) (tput T af.n o.dst a) B H' LC fr cs w := by
  obtain ⟨hiL, o', ho', hp⟩ := mem_readyA.1 hr
  rw [ho] at ho'; cases ho'
  have hiC : i ∉ LC := fun e => hiL (h.sub i e)
  have same : ∀ {q : Nat}, q ∈ L → q ∉ LC → ∀ oq, ops[q]? = some oq → Same C ops T (tput T af.n o.dst a) oq := fun {q} q1 q2 oq q3 => tput_same (fun d hd => hoff d hd q (h.hsOK q q1 q2) oq q3) af.n a
  refine ⟨h.fn, h.defers, h.mode, h.kind, h.roundOf, h.size, ?_, ?_, h.below, hh, h.glob, h.ext, fun j hj => List.mem_cons_of_mem _ (h.sub j hj), h.lclosed, .cons hp h.order, ?_, ?_, ?_, ?_, ?_, ?_⟩
  · intro t b hb
    rcases tput_some hb h.bnd with ⟨_, _, h3⟩ | ⟨_, h2⟩
    · exact h3
    · exact h.bnd t b h2
  · intro t b hb
    rcases tput_some hb h.bnd with ⟨h1, rfl, h3⟩ | ⟨h1, h2⟩
    · exact .inl ⟨i, o, by simp, hiC, ho, h1⟩
    · rcases h.tmps t b h2 with ⟨p, q, p1, p2, p3, p4⟩ | hu
      · exact .inl ⟨p, q, List.mem_cons_of_mem _ p1, p2, p3, p4⟩
      · exact .inr hu
  · intro j hj hjn
    rcases List.mem_cons.1 hj with rfl | hj
    · simp
    · exact List.mem_cons_of_mem _ (h.hsOK j hj hjn)
  · intro j hj hjn
    rcases List.mem_cons.1 hj with rfl | hj
    · exact hg
    · exact ((h.good j hj hjn).same (same hj hjn)).mono_heap hm hn
  · intro p p1 p2 q q1 q2 hne op oq d hop hoq hd
    rcases List.mem_cons.1 p1 with e1 | p1'
    · subst e1
      rw [ho] at hop; cases hop
      rcases List.mem_cons.1 q1 with e2 | q1'
      · exact absurd e2.symm hne
      · exact .inl (hoff d hd q (h.hsOK q q1' q2) oq hoq)
    · rcases List.mem_cons.1 q1 with e2 | q1'
      · subst e2
        rw [ho] at hoq; cases hoq
        rcases apartOK_sound hap hop ho hne with hanc | hanc | ⟨h1, _⟩
        · exact .inr hanc
        · exact absurd (hanc.mem h.order.closed p1') hiL
        · exact .inl (apartD_sound h1 hd)
      · exact h.pp p p1' p2 q q1' q2 hne op oq d hop hoq hd
  · intro p p1 p2 op d hop hd
    rcases List.mem_cons.1 p1 with rfl | p1
    · rw [ho] at hop; cases hop; exact hse d hd
    · exact h.self p p1 p2 op d hop hd
  · intro p p1 p2 q q1 q2 id i1 i2
    rcases List.mem_cons.1 p1 with e1 | p1' <;> rcases List.mem_cons.1 q1 with e2 | q1'
    · rw [e1, e2]
    · subst e1
      have := hfr id i1
      have := h.freshLt q1' q2 (i2.same (same q1' q2))
      omega
    · subst e2
      have := hfr id i2
      have := h.freshLt p1' p2 (i1.same (same p1' p2))
      omega
    · exact h.dist p p1' p2 q q1' q2 id (i1.same (same p1' p2)) (i2.same (same q1' q2))
  · intro p p1 p2 id i1
    rcases List.mem_cons.1 p1 with e1 | p1
    · subst e1
      have := hfr id i1
      have := h.heap.N
      have := h.ext.N
      omega
    · exact h.outer p p1 p2 id (i1.same (same p1 p2))

/-- the region's end -/
theorem DI.finis (h : DI C ops af E0 w0 E L hs T B H LC fr cs w) (hend : readyA ops LC = []) {k : List AI} {k' : List Item} (hm : af.mode = .run) (htodo : fr.todo = .inRegion ops [] :: k') (hk : IRs E k k') (rest : List Frame) :
    ∃ E' fr' cs' w', Steps C.P (lone fr (cs ++ rest) w) (lone fr' (cs' ++ rest) w') ∧ FRs E' ({ af with tmps := T, todo := k } :: B) (fr' :: cs') ∧ HR E' H w' ∧ Ext E0 w0 E' w' := by
  have none_left : ∀ i ∈ L, i ∈ LC := by
    intro i hi
    refine Classical.byContradiction fun hn => ?_
    obtain ⟨j, _, hj⟩ := h.order.ready (LC := LC) (fun i hi hn => by
      cases h.good i hi hn with
      | skip ho _ _ => exact ⟨_, ho⟩
      | light ho _ _ _ _ => exact ⟨_, ho⟩
      | fresh ho _ _ _ _ _ _ _ _ => exact ⟨_, ho⟩) ⟨i, hi, hn⟩
    rw [hend] at hj; cases hj
  have hself := atR_self h.mode
  have hs := stepR_region_end (P := C.P) (b := fr) (a := ⟨fr.tmps, fr.defers⟩) (k := k') (cs := cs ++ rest) (w := w) (ops := ops)
  rw [← htodo, ← hself] at hs
  refine ⟨E, _, cs, w, .one hs, ⟨_, _, rfl, ⟨h.fn, ⟨h.size, fun t a ha => ?_⟩, fun _ => hk, h.defers, by simp only [hm]; rfl, h.kind, h.roundOf⟩, h.below⟩, h.heap, h.ext⟩
  rcases h.tmps t a ha with ⟨p, q, p1, p2, _⟩ | hv
  · exact absurd (none_left p p1) p2
  · exact hv
end
end Go.Am

namespace Go.Am
section
variable {C : Cx} {ops : Array Oper} {af : AF} {E0 E : Env} {w0 w : World} {L hs LC : List Nat} {T : PT AV} {B : List AF} {H : AH} {fr : Frame} {cs : List Frame}

/-- where a region that draws comes out -/
def Fin (C : Cx) (E0 : Env) (w0 : World) (fr : Frame) (cs rest : List Frame) (w : World) (st : List AF) (H' : AH) : Prop :=
  ∃ E' fr' cs' w', Steps C.P (lone fr (cs ++ rest) w) (lone fr' (cs' ++ rest) w') ∧ FRs E' st (fr' :: cs') ∧ HR E' H' w' ∧ Ext E0 w0 E' w'

theorem Fin.head {st : List AF} {H' : AH} {fr' : Frame} {cs' rest : List Frame} {w' : World} (hs : Steps C.P (lone fr (cs ++ rest) w) (lone fr' (cs' ++ rest) w')) (h : Fin C E0 w0 fr' cs' rest w' st H') : Fin C E0 w0 fr cs rest w st H' := by
  obtain ⟨E', fr2, cs2, w2, s, r⟩ := h
  exact ⟨E', fr2, cs2, w2, hs.trans s, r⟩

theorem ready_up {L LC : List Nat} {i : Nat} (hsub : ∀ j ∈ LC, j ∈ L) (h : i ∈ readyA ops LC) (hn : i ∉ L) : i ∈ readyA ops L := by
  obtain ⟨_, o, ho, hp⟩ := mem_readyA.1 h
  exact mem_readyA.2 ⟨hn, o, ho, fun o' ho' e he hb => hsub _ (hp o' ho' e he hb)⟩

theorem HR.less {H' : AH} (h : HR E H w) (hg : ∀ id x, H'.get id = some x → H.get id = some x) (hn : H'.nxt = H.nxt) : HR E H' w :=
  ⟨fun id x b s n hx hi => h.blks id x b s n (hg id x hx) hi, fun i i' x x' b p p' hx hx' => h.inj i i' x x' b p p' (hg i x hx) (hg i' x' hx'), fun id x hi => by rw [hn]; exact h.nxt id x hi, h.bnd, h.imm,
    fun id x b p o v hx => h.disj id x b p o v (hg id x hx), by rw [hn]; exact h.N⟩

/-- all that is left waits for its step alone -/
theorem late_all (hap : apartOK ops = true) {k : List AI} {k' : List Item} (hm : af.mode = .run) (hk : IRs E0 k k') (rest : List Frame) {H' : AH} (hg : ∀ id x, H'.get id = some x → H.get id = some x) (hn : H'.nxt = H.nxt) (hall : readyA ops L = []) :
    ∀ {LC l : List Nat}, Sched ops LC l → ∀ {E : Env} {fr : Frame} {cs : List Frame} {w : World}, DI C ops af E0 w0 E L hs T B H LC fr cs w → fr.todo = .inRegion ops l :: k' → Fin C E0 w0 fr cs rest w ({ af with tmps := T, todo := k } :: B) H' := by
  intro LC l hs'
  induction hs' with
  | done hd =>
    intro E fr cs w h htodo
    obtain ⟨E', fr', cs', w', s1, s2, s3, s4⟩ := h.finis hd hm htodo (hk.mono h.ext.le) rest
    exact ⟨E', fr', cs', w', s1, s2, s3.less hg hn, s4⟩
  | @step LC l i hi hl ih =>
    intro E fr cs w h htodo
    have hiL : i ∈ L := Classical.byContradiction fun hno => by
      have := ready_up h.sub hi hno
      rw [hall] at this; cases this
    obtain ⟨E', fr', w', s1, s2, s3⟩ := h.late hap hiL hi htodo rest
    exact Fin.head (.one s1) (ih s3 s2)

/-- what is ready is not there for ever -/
theorem not_done {j : Nat} (h : DI C ops af E0 w0 E L hs T B H LC fr cs w) (hj : j ∈ readyA ops L) (hd : readyA ops LC = []) : False := by
  by_cases hex : ∃ i ∈ L, i ∉ LC
  · obtain ⟨i, _, hi⟩ := h.order.ready (LC := LC) (fun i hi hn => by
      cases h.good i hi hn with
      | skip ho _ _ => exact ⟨_, ho⟩
      | light ho _ _ _ _ => exact ⟨_, ho⟩
      | fresh ho _ _ _ _ _ _ _ _ => exact ⟨_, ho⟩) hex
    rw [hd] at hi; cases hi
  · obtain ⟨h1, o, h2, h3⟩ := mem_readyA.1 hj
    have : j ∈ readyA ops LC := mem_readyA.2 ⟨fun e => h1 (h.sub j e), o, h2, fun o' ho' e he hb => Classical.byContradiction fun hno => hex ⟨_, h3 o' ho' e he hb, hno⟩⟩
    rw [hd] at this; cases this

/-- one operation in lockstep, whenever it comes up -/
theorem lock_all (hC : CxOK C) {sub : AM → Option AM} (hsub : SubOK C sub) (hap : apartOK ops = true) {k' : List Item} (rest : List Frame) {j : Nat} {o : Oper} (hj : j ∈ readyA ops L) (hother : ∀ i ∈ readyA ops L, i = j) (ho : ops[j]? = some o) (hw : awanted ops T o = some true)
    {a : AV} {B' : List AF} {H' : AH} (hrun : runOp C sub af T B H o = some (.val a, B', H')) {hs' : List Nat} (hhs : ∀ i ∈ hs, i ∉ hs' → Anc ops i j) (hall : ∀ i ∈ hs', recheck C ops (tput T af.n o.dst a) H' i = true) {st : List AF} {HF : AH}
    (next : ∀ {LC l : List Nat}, Sched ops LC l → ∀ {E : Env} {fr : Frame} {cs : List Frame} {w : World}, DI C ops af E0 w0 E (j :: L) hs' (tput T af.n o.dst a) B' H' LC fr cs w → fr.todo = .inRegion ops l :: k' → Fin C E0 w0 fr cs rest w st HF) :
    ∀ {LC l : List Nat}, Sched ops LC l → ∀ {E : Env} {fr : Frame} {cs : List Frame} {w : World}, DI C ops af E0 w0 E L hs T B H LC fr cs w → fr.todo = .inRegion ops l :: k' → Fin C E0 w0 fr cs rest w st HF := by
  intro LC l hs1
  induction hs1 with
  | done hd => intro E fr cs w h htodo; exact (not_done h hj hd).elim
  | @step LC l i hi hl ih =>
    intro E fr cs w h htodo
    by_cases hiL : i ∈ L
    · obtain ⟨E', fr', w', s1, s2, s3⟩ := h.late hap hiL hi htodo rest
      exact Fin.head (.one s1) (ih s3 s2)
    · have := hother i (ready_up h.sub hi hiL)
      subst this
      obtain ⟨_, o', ho', hpL⟩ := mem_readyA.1 hj
      obtain ⟨E', cs', w', b1, b2, b3, v, b4, b5⟩ := h.lockRun hC hsub hap hi ho hw htodo hrun rest
      have hd := h.lock hap hiL hi hpL ho htodo b4 b1 b2 b3 hhs hall
      exact Fin.head b5 (next hl hd (finish_eq htodo ho v).2.2.2.2.2.1)

/-- one operation in lockstep that panics -/
theorem lock_pan (hC : CxOK C) {sub : AM → Option AM} (hsub : SubOK C sub) (hap : apartOK ops = true) {k' : List Item} (_hm : af.mode = .run) (rest : List Frame) {j : Nat} {o : Oper} (hj : j ∈ readyA ops L) (hother : ∀ i ∈ readyA ops L, i = j) (ho : ops[j]? = some o) (hw : awanted ops T o = some true)
    {ch : List (AV × Bool)} {B' : List AF} {H' : AH} (hrun : runOp C sub af T B H o = some (.panic ch, B', H')) :
    ∀ {LC l : List Nat}, Sched ops LC l → ∀ {E : Env} {fr : Frame} {cs : List Frame} {w : World}, DI C ops af E0 w0 E L hs T B H LC fr cs w → fr.todo = .inRegion ops l :: k' → Fin C E0 w0 fr cs rest w ({ af with mode := .pan ch, tmps := .lf } :: B') H' := by
  intro LC l hs1
  induction hs1 with
  | done hd => intro E fr cs w h htodo; exact (not_done h hj hd).elim
  | @step LC l i hi hl ih =>
    intro E fr cs w h htodo
    by_cases hiL : i ∈ L
    · obtain ⟨E', fr', w', s1, s2, s3⟩ := h.late hap hiL hi htodo rest
      exact Fin.head (.one s1) (ih s3 s2)
    · have := hother i (ready_up h.sub hi hiL)
      subst this
      obtain ⟨E', cs', w', b1, b2, b3, es, b4, b5⟩ := h.lockRun hC hsub hap hi ho hw htodo hrun rest
      have hle : E.le E' := (E.le_up _).trans b3.le
      have e2 : fr.raise es = { fr with mode := .panicking es } := by simp [Frame.raise, h.mode]
      refine ⟨E', fr.raise es, cs', w', b5, ⟨_, _, rfl, ?_, b1⟩, b2, (h.ext.trans (Ext.up h.heap.N)).trans b3⟩
      rw [e2]
      exact ⟨h.fn, ⟨h.size, fun t a ha => by rw [PT.get_lf] at ha; cases ha⟩, (fun e => by cases e), h.defers.mono hle, ⟨_, rfl, b4⟩, h.kind, h.roundOf.mono hle⟩

theorem astore_get {P : Program} {H H' : AH} {t : TypeId} {a x : AV} (h : astore P H t a x = some H') : (∀ n, n ≠ idOf a → H'.get n = H.get n) ∧ H'.nxt = H.nxt := by
  unfold astore at h
  split at h <;> (try (cases h; done))
  split at h <;> (try (cases h; done))
  split at h <;> (try (cases h; done))
  simp only [Option.some.injEq] at h
  subst h
  exact ⟨fun n hn => PT.get_set_ne _ _ _ _ _ hn, rfl⟩

theorem runOp_store {sub : AM → Option AM} {o : Oper} {t : TypeId} {a x : Operand} {H1 : AH} (ho : o.op = .store t a x) (h : astore C.P H t (aev C T a) (aev C T x) = some H1) : runOp C sub af T B H o = some (.val undefA, B, H1) := by
  have hl : lightOp C o = false := by simp [lightOp, ho]
  simp [runOp, aop, hl, aheavy, ho, h]

theorem readyA_nodup (L : List Nat) : (readyA ops L).Nodup := List.Pairwise.filter _ List.nodup_range
end
end Go.Am

namespace Go.Am
section
variable {C : Cx} {ops : Array Oper} {af : AF} {E0 E : Env} {w0 w : World} {L hs LC : List Nat} {T : PT AV} {B : List AF} {H : AH} {fr : Frame} {cs : List Frame}

theorem filter_anc (ops : Array Oper) (hs : List Nat) (j : Nat) : ∀ i ∈ hs, i ∉ hs.filter (fun i => !((masks ops).getD j 0).testBit i) → Anc ops i j := by
  intro i hi hn
  refine masks_sound ops j i ?_
  cases hb : ((masks ops).getD j 0).testBit i
  · exact absurd (List.mem_filter.2 ⟨hi, by simpa using hb⟩) hn
  · rfl

theorem recheck_mono {H H' : AH} (hm : ∀ id y, H.get id = some y → H'.get id = some y) {i : Nat} (h : recheck C ops T H i = true) : recheck C ops T H' i = true := by
  unfold recheck at h ⊢
  cases ho : ops[i]? with
  | none => rw [ho] at h; cases h
  | some o =>
    rw [ho] at h
    simp only at h ⊢
    cases hw : awanted ops T o with
    | none => rw [hw] at h; cases h
    | some b =>
      rw [hw] at h
      cases b with
      | false => rfl
      | true =>
        simp only at h ⊢
        cases hl : lightOp C o
        · rw [hl] at h
          simp only [cond_false] at h ⊢
          cases hf : afresh C (aev C T) o with
          | none => rw [hf] at h; cases h
          | some kx =>
            obtain ⟨k, x⟩ := kx
            cases hd : o.dst with
            | none => rw [hf, hd] at h; cases h
            | some d =>
              rw [hf, hd] at h
              simp only [Bool.and_eq_true] at h ⊢
              refine ⟨h.1, ?_⟩
              cases hy : H.get (idOf (tget T d)) with
              | none => rw [hy] at h; exact absurd h.2 (by simp)
              | some y =>
                rw [hy] at h
                rw [hm _ _ hy]
                exact h.2
        · rw [hl] at h
          simp only [cond_true] at h ⊢
          cases ha : alight C (aev C T) H o with
          | none => rw [ha] at h; cases hd : o.dst <;> rw [hd] at h <;> cases h
          | some a =>
            rw [ha] at h
            rw [alight_mono hm ha]
            exact h

/-- two stores: the one order -/
theorem two_one (hC : CxOK C) {sub : AM → Option AM} (hsub : SubOK C sub) (hap : apartOK ops = true) {k : List AI} {k' : List Item} (hm : af.mode = .run) (hk : IRs E0 k k') (rest : List Frame) {ja jb : Nat} {oa ob : Oper} (hne : ja ≠ jb) (hoa : ops[ja]? = some oa) (hob : ops[jb]? = some ob)
    (hra : ja ∈ readyA ops L) (hrb : jb ∈ readyA ops L) (hall : ∀ i, i < ops.size → i = ja ∨ i = jb ∨ i ∈ L) (hwb : ob.guard = none) (hda : oa.dst = none) (hdb : ob.dst = none)
    {HA HAB H' : AH} (hrunB : runOp C sub af T B HA ob = some (.val undefA, B, HAB)) {h1 : List Nat} (hrec2 : ∀ i ∈ h1.filter (fun i => !((masks ops).getD jb 0).testBit i), recheck C ops T HAB i = true)
    (hg : ∀ id x, H'.get id = some x → HAB.get id = some x) (hn : H'.nxt = HAB.nxt) :
    ∀ {LC l : List Nat}, Sched ops LC l → ∀ {E : Env} {fr : Frame} {cs : List Frame} {w : World}, DI C ops af E0 w0 E (ja :: L) h1 (tput T af.n oa.dst undefA) B HA LC fr cs w → fr.todo = .inRegion ops l :: k' → Fin C E0 w0 fr cs rest w ({ af with tmps := T, todo := k } :: B) H' := by
  rw [hda]
  simp only [tput]
  obtain ⟨hbL, ob', hob', hpb⟩ := mem_readyA.1 hrb
  have hrb' : jb ∈ readyA ops (ja :: L) := mem_readyA.2 ⟨by simp [Ne.symm hne, hbL], ob', hob', hpb.cons⟩
  have only : ∀ i ∈ readyA ops (ja :: L), i = jb := by
    intro i hi
    obtain ⟨h2, o, h3, _⟩ := mem_readyA.1 hi
    rcases hall i (Array.getElem?_eq_some_iff.1 h3).1 with rfl | rfl | h4
    · simp at h2
    · rfl
    · exact absurd (List.mem_cons_of_mem _ h4) h2
  have none : readyA ops (jb :: ja :: L) = [] := by
    rw [List.eq_nil_iff_forall_not_mem]
    intro i hi
    obtain ⟨h2, o, h3, _⟩ := mem_readyA.1 hi
    rcases hall i (Array.getElem?_eq_some_iff.1 h3).1 with rfl | rfl | h4
    · simp at h2
    · simp at h2
    · exact h2 (by simp [h4])
  have hw : awanted ops T ob = some true := by simp [awanted, hwb]
  intro LC l hsch E fr cs w h htodo
  refine lock_all hC hsub hap rest hrb' only hob hw hrunB (filter_anc ops h1 jb) ?_ ?_ hsch h htodo
  · rw [hdb]; exact hrec2
  · rw [hdb]
    intro LC l hsch E fr cs w h htodo
    exact late_all hap hm hk rest hg hn none hsch h htodo

/-- two stores -/
theorem two_all (hC : CxOK C) {sub : AM → Option AM} (hsub : SubOK C sub) (hap : apartOK ops = true) {k : List AI} {k' : List Item} (hm : af.mode = .run) (hk : IRs E0 k k') (rest : List Frame) {j1 j2 : Nat} {H' : AH} (hr : readyA ops L = [j1, j2])
    (h2 : twoStores C (masks ops) ops L hs T H j1 j2 = some H') :
    ∀ {LC l : List Nat}, Sched ops LC l → ∀ {E : Env} {fr : Frame} {cs : List Frame} {w : World}, DI C ops af E0 w0 E L hs T B H LC fr cs w → fr.todo = .inRegion ops l :: k' → Fin C E0 w0 fr cs rest w ({ af with tmps := T, todo := k } :: B) H' := by
  have hnd := readyA_nodup (ops := ops) L
  rw [hr] at hnd
  have hne : j1 ≠ j2 := by
    intro e; subst e; simp at hnd
  have hr1 : j1 ∈ readyA ops L := by rw [hr]; simp
  have hr2 : j2 ∈ readyA ops L := by rw [hr]; simp
  obtain ⟨hL1, _, _, hp1⟩ := mem_readyA.1 hr1
  obtain ⟨hL2, _, _, hp2⟩ := mem_readyA.1 hr2
  unfold twoStores at h2
  split at h2 <;> (try (cases h2; done))
  rename_i o1 o2 ho1 ho2
  split at h2 <;> (try (cases h2; done))
  rename_i t1 a1 x1 t2 a2 x2 hop1 hop2
  simp only at h2
  cases hc : (o1.dst.isNone && o2.dst.isNone && o1.guard.isNone && o2.guard.isNone && ((List.range ops.size).all fun i => Nat.beq i j1 || Nat.beq i j2 || L.contains i))
  · rw [hc] at h2; cases h2
  · rw [hc] at h2
    simp only [cond_true] at h2
    simp only [Bool.and_eq_true, Option.isNone_iff_eq_none, List.all_eq_true, List.mem_range, Bool.or_eq_true] at hc
    obtain ⟨⟨⟨⟨d1, d2⟩, g1⟩, g2⟩, hall0⟩ := hc
    have hall : ∀ i, i < ops.size → i = j1 ∨ i = j2 ∨ i ∈ L := fun i hi => by
      rcases hall0 i hi with (h | h) | h
      · exact .inl (Nat.eq_of_beq_eq_true h)
      · exact .inr (.inl (Nat.eq_of_beq_eq_true h))
      · exact .inr (.inr (by simpa using h))
    split at h2 <;> (try (cases h2; done))
    rename_i H1 H2 hs1 hs2
    split at h2 <;> (try (cases h2; done))
    rename_i H12 H21 hs12 hs21
    split at h2 <;> (try (cases h2; done))
    rename_i u u' v v' hu hu' hv hv'
    cases hq : (blkEq u u' && blkEq v v' && (hs.filter fun i => !((masks ops).getD j1 0).testBit i).all (recheck C ops T H1) && (hs.filter fun i => !((masks ops).getD j2 0).testBit i).all (recheck C ops T H2) &&
        ((hs.filter fun i => !((masks ops).getD j1 0).testBit i).filter fun i => !((masks ops).getD j2 0).testBit i).all (recheck C ops T H12))
    · rw [hq] at h2; cases h2
    · rw [hq] at h2
      simp only [cond_true, Option.some.injEq] at h2
      subst h2
      simp only [Bool.and_eq_true, List.all_eq_true] at hq
      obtain ⟨⟨⟨⟨e1, e2⟩, r1⟩, r2⟩, r12⟩ := hq
      have e1 := blkEq_sound _ _ e1
      have e2 := blkEq_sound _ _ e2
      subst e1 e2
      have q1 := astore_get hs1
      have q2 := astore_get hs2
      have q12 := astore_get hs12
      have q21 := astore_get hs21
      have heq : ∀ id, H12.get id = H21.get id := by
        intro id
        by_cases ha : id = idOf (aev C T a1)
        · rw [ha, hu, hu']
        · by_cases hb : id = idOf (aev C T a2)
          · rw [hb, hv, hv']
          · rw [q12.1 id hb, q1.1 id ha, q21.1 id ha, q2.1 id hb]
      have hnx : H12.nxt = H21.nxt := by rw [q12.2, q1.2, q21.2, q2.2]
      have w1 : awanted ops T o1 = some true := by simp [awanted, g1]
      have w2 : awanted ops T o2 = some true := by simp [awanted, g2]
      have run1 := runOp_store (C := C) (sub := sub) (af := af) (B := B) (T := T) hop1 hs1
      have run2 := runOp_store (C := C) (sub := sub) (af := af) (B := B) (T := T) hop2 hs2
      have run12 := runOp_store (C := C) (sub := sub) (af := af) (B := B) (T := T) hop2 hs12
      have run21 := runOp_store (C := C) (sub := sub) (af := af) (B := B) (T := T) hop1 hs21
      -- what is looked at again behind both, in the other order
      have r21 : ∀ i ∈ ((hs.filter fun i => !((masks ops).getD j2 0).testBit i).filter fun i => !((masks ops).getD j1 0).testBit i), recheck C ops T H21 i = true := by
        intro i hi
        have hi' : i ∈ ((hs.filter fun i => !((masks ops).getD j1 0).testBit i).filter fun i => !((masks ops).getD j2 0).testBit i) := by
          simp only [List.mem_filter] at hi ⊢
          exact ⟨⟨hi.1.1, hi.2⟩, hi.1.2⟩
        exact recheck_mono (fun id y h => by rw [← heq]; exact h) (r12 i hi')
      intro LC l hsch
      induction hsch with
      | done hd => intro E fr cs w h htodo; exact (not_done h hr1 hd).elim
      | @step LC l i hi hl ih =>
        intro E fr cs w h htodo
        by_cases hiL : i ∈ L
        · obtain ⟨E', fr', w', s1, s2, s3⟩ := h.late hap hiL hi htodo rest
          exact Fin.head (.one s1) (ih s3 s2)
        · have hi2 := ready_up h.sub hi hiL
          rw [hr] at hi2
          simp only [List.mem_cons, List.not_mem_nil, or_false] at hi2
          rcases hi2 with rfl | rfl
          · obtain ⟨E', cs', w', b1, b2, b3, v, b4, b5⟩ := h.lockRun hC hsub hap hi ho1 w1 htodo run1 rest
            have hd := h.lock hap hL1 hi hp1 ho1 htodo b4 b1 b2 b3 (filter_anc ops hs _) (by rw [d1]; exact r1)
            exact Fin.head b5 (two_one hC hsub hap hm hk rest hne ho1 ho2 hr1 hr2 hall g2 d1 d2 run12 r12 (fun _ _ h => h) rfl hl hd (finish_eq htodo ho1 v).2.2.2.2.2.1)
          · obtain ⟨E', cs', w', b1, b2, b3, v, b4, b5⟩ := h.lockRun hC hsub hap hi ho2 w2 htodo run2 rest
            have hd := h.lock hap hL2 hi hp2 ho2 htodo b4 b1 b2 b3 (filter_anc ops hs _) (by rw [d2]; exact r2)
            exact Fin.head b5 (two_one hC hsub hap hm hk rest (Ne.symm hne) ho2 ho1 hr2 hr1 (fun i hi => (hall i hi).elim (fun h => .inr (.inl h)) (fun h => h.elim .inl (fun h => .inr (.inr h)))) g1 d2 d1 run21 r21 (fun id x h => by rw [← heq]; exact h) hnx hl hd (finish_eq htodo ho2 v).2.2.2.2.2.1)
end
end Go.Am

namespace Go.Am
section
variable {C : Cx} {ops : Array Oper} {af : AF} {E0 : Env} {w0 : World}

theorem draw_claim (hC : CxOK C) {sub : AM → Option AM} (hsub : SubOK C sub) (hap : apartOK ops = true) {k : List AI} {k' : List Item} (hm : af.mode = .run) (hk : IRs E0 k k') (rest : List Frame) :
    ∀ (fuel : Nat) (L hs : List Nat) (T : PT AV) (B : List AF) (H : AH) (r : AO) (T' : PT AV) (B' : List AF) (H' : AH), drawRun C sub af (masks ops) ops fuel L hs T B H = some (r, T', B', H') →
    ∀ {LC l : List Nat}, Sched ops LC l → ∀ {E : Env} {fr : Frame} {cs : List Frame} {w : World}, DI C ops af E0 w0 E L hs T B H LC fr cs w → fr.todo = .inRegion ops l :: k' →
      Fin C E0 w0 fr cs rest w (match r with | .val _ => { af with tmps := T', todo := k } :: B' | .panic ch => { af with mode := .pan ch, tmps := .lf } :: B') H' := by
  intro fuel
  induction fuel with
  | zero => intro L hs T B H r T' B' H' h; simp [drawRun] at h
  | succ fuel ih =>
    intro L hs T B H r T' B' H' h LC l hsch E fr cs w hd htodo
    unfold drawRun at h
    simp only at h
    split at h
    · -- taken early
      rename_i i hfind
      have hi : i ∈ readyA ops L := List.mem_of_find?_eq_some hfind
      have hear : early C ops hs T i = true := List.find?_some hfind
      split at h <;> (try (cases h; done))
      rename_i o ho
      unfold early at hear
      simp only [ho, Bool.and_eq_true] at hear
      obtain ⟨hcls, hdst⟩ := hear
      have hse : ∀ d, o.dst = some d → ¬ LooksTo ops o d := fun d hd' => by
        rw [hd'] at hdst
        simp only [Bool.and_eq_true] at hdst
        exact looksAt_iff (by simpa using hdst.1)
      have hoff : ∀ d, o.dst = some d → ∀ q ∈ hs, ∀ oq, ops[q]? = some oq → Off ops oq d := fun d hd' q hq oq hoq => by
        rw [hd'] at hdst
        simp only [Bool.and_eq_true, List.all_eq_true] at hdst
        have := hdst.2 q hq
        simp only [hoq] at this
        exact apartD_sound this hd'
      have wsame : ∀ a, awanted ops (tput T af.n o.dst a) o = awanted ops T o := fun a => by
        cases hd' : o.dst with
        | none => rfl
        | some d => exact (Same.self (C := C) (hse d hd')).2
      have osame : ∀ a, ∀ x ∈ o.op.operands.toList, aev C (tput T af.n o.dst a) x = aev C T x := fun a x hx => by
        cases hd' : o.dst with
        | none => rfl
        | some d => exact (Same.self (C := C) (hse d hd')).1 x hx
      have dval : ∀ a d b, o.dst = some d → PT.get TD (tput T af.n o.dst a) d = some b → b = a := fun a d b hd' hb => by
        rcases tput_some hb hd.bnd with ⟨_, h2, _⟩ | ⟨h1, _⟩
        · exact h2
        · exact absurd hd' h1
      split at h
      · -- not carried out
        rename_i hw
        refine ih _ _ _ _ _ r T' B' H' h hsch (hd.early hap hi ho hse hoff (fun _ _ h => h) (Nat.le_refl _) hd.heap (.skip ho (by rw [wsame]; exact hw) (dval _)) ?_) htodo
        rintro id ⟨o', d, h1, _, h3, _⟩
        rw [ho] at h1; cases h1
        rw [wsame, hw] at h3; cases h3
      · rename_i hw
        cases hl : lightOp C o
        · rw [hl] at h
          simp only [cond_false] at h
          split at h <;> (try (cases h; done))
          rename_i kx x d hfr hdd
          cases hcond : (blkHere x (H.new x) H.nxt && (H.get H.nxt).isNone && (PT.get TD (tset T af.n d (kx.mk H.nxt)) d).isSome)
          · rw [hcond] at h; cases h
          · rw [hcond] at h
            simp only [cond_true] at h
            simp only [Bool.and_eq_true, Option.isNone_iff_eq_none] at hcond
            obtain ⟨⟨c1, c2⟩, c3⟩ := hcond
            have hx : (H.new x).get H.nxt = some x := by
              unfold blkHere at c1
              split at c1
              · rename_i y hy
                rcases AH.get_new hy with ⟨_, e⟩ | ⟨e, _⟩
                · rw [← e] at hy; exact hy
                · exact absurd rfl e
              · cases c1
            have hput : tset T af.n d (kx.mk H.nxt) = tput T af.n o.dst (kx.mk H.nxt) := by rw [hdd]; rfl
            rw [hput] at h
            -- the temporary is there, or the operation's result is nowhere
            have hthere : PT.get TD (tput T af.n o.dst (kx.mk H.nxt)) d = some (kx.mk H.nxt) := by
              rw [← hput]
              obtain ⟨b, hb⟩ := Option.isSome_iff_exists.1 c3
              rw [hb]
              rw [hput] at hb
              rw [dval _ d b hdd hb]
            · refine ih _ _ _ _ _ r T' B' H' h hsch (hd.early hap hi ho hse hoff (get_mono c2) (by simp [AH.new]) (hd.heap.think x)
                (.fresh ho (by rw [wsame]; exact hw) hl (by rw [← hfr]; exact afresh_congr (osame _)) hdd hthere hx hd.heap.fresh (by simp [AH.new])) ?_) htodo
              rintro id ⟨o', d', h1, _, _, h4, h5⟩
              rw [ho] at h1; cases h1
              rw [hdd] at h4; cases h4
              rw [tget, hthere] at h5
              simp only [idOf_mk] at h5
              omega
        · rw [hl] at h
          simp only [cond_true] at h
          split at h <;> (try (cases h; done))
          rename_i a ha
          refine ih _ _ _ _ _ r T' B' H' h hsch (hd.early hap hi ho hse hoff (fun _ _ h => h) (Nat.le_refl _) hd.heap (.light ho (by rw [wsame]; exact hw) hl (by rw [← ha]; exact alight_congr (osame _)) (dval _)) ?_) htodo
          rintro id ⟨o', d, h1, h2, _⟩
          rw [ho] at h1; cases h1
          rw [hl] at h2; cases h2
      · cases h
    · split at h
      · rename_i hr
        cases h
        exact late_all hap hm hk rest (fun _ _ h => h) rfl hr hsch hd htodo
      · rename_i j hr
        have hj : j ∈ readyA ops L := by rw [hr]; simp
        have only : ∀ i ∈ readyA ops L, i = j := fun i hi => by rw [hr] at hi; simpa using hi
        split at h <;> (try (cases h; done))
        rename_i o ho
        split at h <;> (try (cases h; done))
        rename_i hw
        split at h <;> (try (cases h; done))
        · rename_i a B1 H1 hrun
          cases hrc : (hs.filter fun i => !((masks ops).getD j 0).testBit i).all (recheck C ops (tput T af.n o.dst a) H1)
          · rw [hrc] at h; cases h
          · rw [hrc] at h
            simp only [cond_true] at h
            exact lock_all hC hsub hap rest hj only ho hw hrun (filter_anc ops hs j) (fun i hi => List.all_eq_true.1 hrc i hi)
              (fun {LC l} hsch {E fr cs w} hd htodo => ih _ _ _ _ _ r T' B' H' h hsch hd htodo) hsch hd htodo
        · rename_i ch B1 H1 hrun
          cases h
          exact lock_pan hC hsub hap hm rest hj only ho hw hrun hsch hd htodo
      · rename_i j1 j2 hr
        split at h <;> (try (cases h; done))
        rename_i H12 h12
        cases h
        exact two_all hC hsub hap hm hk rest hr h12 hsch hd htodo
      · cases h

theorem draw_sound (hC : CxOK C) {sub : AM → Option AM} (hsub : SubOK C sub) : DrawSound C sub := by
  intro af below H id ops k a T below' H' hm htodo hap hdr E fr cs w rest hf hb hr hG
  have hfm : fr.mode = .run := by have := hf.mode; rw [hm] at this; exact this
  have hself := atR_self hfm
  have ht := hf.todo hm
  rw [htodo] at ht
  obtain ⟨_, k', hft, rfl, hk⟩ := ht
  have hs := stepR_region_draw (P := C.P) (b := fr) (a := ⟨fr.tmps, fr.defers⟩) (k := k') (cs := cs ++ rest) (w := w) (ops := ops) (id := id)
  rw [← hft, ← hself, hC.mixed] at hs
  have hd : DI C ops af E w E [] [] af.tmps below H [] (fr.atR ⟨fr.tmps, fr.defers⟩ (.inRegion ops (Region.schedule true ops (w.tape w.drawn (.order fr.fn id))) :: k')) cs { w with drawn := w.drawn + 1 } :=
    { fn := hf.fn, defers := hf.defers, mode := rfl, kind := hf.kind, roundOf := hf.roundOf, size := hf.tmps.1
      bnd := fun t a ha => by
        obtain ⟨v, h1, _⟩ := hf.tmps.2 t a ha
        have := (Array.getElem?_eq_some_iff.1 h1).1
        rw [hf.tmps.1] at this; exact this
      tmps := fun t a ha => .inr (hf.tmps.2 t a ha), below := hb, heap := hr.draw rfl, glob := hG, ext := Ext.draw E w
      sub := fun i h => by cases h
      lclosed := fun k h => by cases h
      order := .nil
      hsOK := fun i h => by cases h
      good := fun i h => by cases h
      pp := fun p h => by cases h
      self := fun p h => by cases h
      dist := fun p h => by cases h
      outer := fun p h => by cases h }
  have hc := draw_claim hC hsub hap hm hk rest _ _ _ _ _ _ a T below' H' hdr (sched_of ops (w.tape w.drawn (.order fr.fn id))) hd rfl
  obtain ⟨E', fr', cs', w', s1, s2, s3, s4⟩ := Fin.head (.one hs) hc
  cases a with
  | val v => exact ⟨E', fr', cs', w', s1, s2, s3, s4⟩
  | panic ch => exact ⟨E', fr', cs', w', s1, s2, s3, s4⟩

/-- **THE ABSTRACT MACHINE IS RIGHT.** -/
theorem arun_sound (hC : CxOK C) (n : Nat) : SubOK C (arun C n) := run_sound hC (fun _ h => draw_sound hC h) n
end
end Go.Am

namespace Go.Am
section
variable {C : Cx} {P : Program} {E : Env} {H : AH} {w : World}

theorem callFunc_extern {f : FuncId} {fn : Func} {vs : Array Value} {e : Array Value → Sem Value} (hf : C.P.funcs[f]? = some fn) (hng : (fn.name == "runtime.NumGoroutine") = false) (hb : fn.body = none) (hn : Extern.findNext fn = none) (he : Extern.find fn = some e) :
    (callFunc f vs).run C.P w = (do pure (.value (← e vs)) : Sem Next).run C.P w := by
  have hng' : ¬ fn.name = "runtime.NumGoroutine" := by simpa using hng
  simp [callFunc, program, Sem.run, hf, hng', hb, hn, he]

/-- a function without a body of its own -/
structure Ext1 (P : Program) (f : FuncId) (fn : Func) (e : Array Value → Sem Value) : Prop where
  here : P.funcs[f]? = some fn
  name : (fn.name == "runtime.NumGoroutine") = false
  body : fn.body = none
  next : Extern.findNext fn = none
  find : Extern.find fn = some e

theorem xok_of {f : FuncId} {fn : Func} {e : Array Value → Sem Value} {k : XK} (h : Ext1 C.P f fn e)
    (he : ∀ (E : Env) (H : AH) (w : World) (args : List AV) (vs : Array Value) (a : AV) (H' : AH), GOK C E → ax C.P H k fn.resultTypes args = some (a, H') → HR E H w → VRs E args vs.toList → Gives C.P E w (e vs) a H') : XOK C f k := by
  intro fn' hf E H w args vs a H' hG ha hr hv
  rw [h.here] at hf; cases hf
  rw [h.body]
  obtain ⟨E', v, w', h1, h2⟩ := he E H w args vs a H' hG ha hr hv
  exact ⟨E', v, w', by rw [callFunc_extern h.here h.name h.body h.next h.find]; simp [h1], h2⟩

theorem arr_one {vs : Array Value} {v : Value} (h : vs.toList = [v]) : vs = #[v] := Array.ext' (by simpa using h)
theorem arr_two {vs : Array Value} {u v : Value} (h : vs.toList = [u, v]) : vs = #[u, v] := Array.ext' (by simpa using h)

theorem xok_noEscape {f : FuncId} {fn : Func} (h : Ext1 C.P f fn Extern.AbiNoEscape.same) : XOK C f .noEscape := xok_of h (by
  intro E H w args vs a H' _ ha hr hv
  unfold ax at ha
  split at ha <;> (try (first | (rename_i he; cases he; done) | (cases ha; done)))
  · rename_i x _
    simp only [Option.some.injEq, Prod.mk.injEq] at ha
    obtain ⟨rfl, rfl⟩ := ha
    simp only [VRs] at hv
    obtain ⟨v, _, e1, hx, rfl⟩ := hv
    rw [arr_one e1]
    exact .of_pure hr (v := v) rfl hx)

theorem indexByteOf_find (c : UInt8) (full : List UInt8) : ∀ (s pre : List UInt8), full = pre ++ s → indexByteOf c s pre.length = (match (List.range' pre.length s.length).find? (fun i => (⟨⟨full⟩⟩ : ByteArray)[i]! == c) with | some i => (i : Int) | none => -1)
  | [], pre, _ => by simp [indexByteOf]
  | b :: s, pre, he => by
    have hb : (⟨⟨full⟩⟩ : ByteArray)[pre.length]! = b := by
      have hlt : pre.length < (⟨⟨full⟩⟩ : ByteArray).size := by show pre.length < full.length; rw [he]; simp
      rw [getElem!_pos (⟨⟨full⟩⟩ : ByteArray) pre.length hlt]
      show full[pre.length]'_ = b
      simp [he]
    simp only [List.length_cons, List.range'_succ, List.find?_cons, hb, indexByteOf]
    by_cases hc : (b == c) = true
    · simp [hc]
    · have hc' : (b == c) = false := by simpa using hc
      have ih := indexByteOf_find c full s (pre ++ [b]) (by rw [he]; simp)
      simp only [List.length_append, List.length_singleton] at ih
      rw [hc']
      simp only [Bool.false_eq_true, if_false]
      exact ih

theorem xok_indexByte {f : FuncId} {fn : Func} (h : Ext1 C.P f fn Extern.BytealgIndexByte.indexByte) : XOK C f .indexByte := xok_of h (by
  intro E H w args vs a H' _ ha hr hv
  unfold ax at ha
  split at ha <;> (try (first | (rename_i he; cases he; done) | (cases ha; done)))
  · rename_i s c _
    simp only [Option.some.injEq, Prod.mk.injEq] at ha
    obtain ⟨rfl, rfl⟩ := ha
    simp only [VRs, VR] at hv
    obtain ⟨v, _, e1, rfl, u, _, rfl, rfl, rfl⟩ := hv
    rw [arr_two e1]
    have hi := indexByteOf_find (UInt8.ofNat c.toNat) s s [] rfl
    simp only [List.length_nil] at hi
    refine .of_pure hr (v := goInt (indexByteOf (UInt8.ofNat c.toNat) s 0)) ?_ (by simp only [VR]; rfl)
    have hsz : (⟨⟨s⟩⟩ : ByteArray).size = s.length := rfl
    have hto : c.toNat.toUInt8 = UInt8.ofNat c.toNat := rfl
    rw [hi]
    refine Eq.trans (congrArg (fun m : Sem Value => m.run C.P w) (show Extern.BytealgIndexByte.indexByte #[.string ⟨⟨s⟩⟩, .int .u8 c] = (Extern.Bytes.bytesOf (.string ⟨⟨s⟩⟩) >>= fun _ => Extern.Bytes.asByte (.int .u8 c) >>= _) from rfl)) ?_
    simp only [Extern.Bytes.bytesOf, Extern.Bytes.asByte, Sem.run_bind, Sem.run_pure, Result.andThen_ok, hsz, List.range_eq_range', hto]
    cases (List.range' 0 s.length).find? (fun i => (⟨⟨s⟩⟩ : ByteArray)[i]! == UInt8.ofNat c.toNat) <;> rfl)

theorem xok_makeNoZero {f : FuncId} {fn : Func} (h : Ext1 C.P f fn (Extern.BytealgMakeNoZero.makeNoZero fn.params fn.resultTypes)) (hone : fn.resultTypes.size = 1) : XOK C f .makeNoZero := xok_of h (by
  intro E H w args vs a H' _ ha hr hv
  unfold ax at ha
  split at ha <;> (try (first | (rename_i he; cases he; done) | (cases ha; done)))
  · rename_i n _
    split at ha <;> (try (cases ha; done))
    rename_i t ht
    split at ha <;> (try (cases ha; done))
    rename_i e m hu hm
    split at ha <;> (try (cases ha; done))
    rename_i hle
    simp only [Option.some.injEq, Prod.mk.injEq] at ha
    obtain ⟨rfl, rfl⟩ := ha
    have := asNat_eq hm
    subst this
    simp only [VRs, VR] at hv
    obtain ⟨v, _, e1, rfl, rfl⟩ := hv
    rw [arr_one e1]
    have hrt : fn.resultTypes = #[t] := by
      apply Array.ext
      · simpa using hone
      · intro i h1 h2
        obtain rfl : i = 0 := by simp at h2; omega
        have := (Array.getElem?_eq_some_iff.1 ht).2
        simpa using this
    obtain ⟨cs, hrun, hge, _⟩ := Lib.run_makeNoZero (P := C.P) w fn.params t e hu m (by omega)
    have hd : HR E H w.drew.drew := hr.draw rfl
    obtain ⟨r1, r2⟩ := hd.alloc (.cells cs e) (.cells e (List.replicate m .any) 0 true) cs.size
      ⟨_, (0, 0), heap_alloc_new, by simp, by simpa using hge, fun _ => ⟨rfl, .inl rfl⟩, fun k _ _ hk => by omega, fun j a ha => by
        have hj : j < m := by have := (List.getElem?_eq_some_iff.1 ha).1; simpa using this
        have hav : a = .any := by
          rw [List.getElem?_replicate] at ha
          split at ha <;> simp_all
        refine ⟨cs[j]'(by omega), ?_, by rw [hav]; simp [VR]⟩
        rw [Nat.zero_add]
        exact Array.getElem?_eq_getElem _⟩
    refine ⟨_, .slice (some ⟨w.heap.size, 0, none⟩) m cs.size, _, ?_, r1, (Ext.draw E w).trans ((Ext.draw E w.drew).trans r2), ?_⟩
    · rw [hrt]; exact hrun
    · simp only [VR]
      exact ⟨_, _, _, _, _, Env.add_same, rfl, hge, by simp, fun _ => rfl⟩)

theorem xok_count {f : FuncId} {fn : Func} (h : Ext1 C.P f fn Extern.BytealgCount.count) : XOK C f .count := xok_of h (by
  intro E H w args vs a H' _ ha hr hv
  unfold ax at ha
  split at ha <;> (try (first | (rename_i he; cases he; done) | (cases ha; done)))
  · rename_i s c _
    simp only [Option.some.injEq, Prod.mk.injEq] at ha
    obtain ⟨rfl, rfl⟩ := ha
    simp only [VRs, VR] at hv
    obtain ⟨v, _, e1, rfl, u, _, rfl, rfl, rfl⟩ := hv
    rw [arr_two e1]
    refine .of_pure hr (Lib.run_countString ⟨⟨s⟩⟩ c w) ?_
    simp only [VR]
    have : Lib.countByte s c.toNat.toUInt8 = (s.filter (· == UInt8.ofNat c.toNat)).length := by
      simp only [Lib.countByte, List.count, List.countP_eq_length_filter]
    rw [this])
end
end Go.Am

namespace Go.Am
section
variable {C : Cx} {E : Env} {H : AH} {w : World}

theorem take_prefix (sub : List UInt8) : ∀ s : List UInt8, (s.take sub.length == sub) = sub.isPrefixOf s := by
  induction sub with
  | nil => intro s; simp
  | cons c sub ih =>
    intro s
    cases s with
    | nil => simp [List.isPrefixOf]
    | cons b s =>
      have := ih s
      simp only [List.length_cons, List.take_succ_cons, List.isPrefixOf]
      rw [show ((b :: s.take sub.length) == (c :: sub)) = ((b == c) && (s.take sub.length == sub)) from rfl, this]
      rcases Decidable.em (b = c) with rfl | h
      · simp
      · have h1 : (b == c) = false := beq_eq_false_iff_ne.2 h
        have h2 : (c == b) = false := beq_eq_false_iff_ne.2 (Ne.symm h)
        rw [h1, h2]

theorem indexOf_eq (sub : List UInt8) : ∀ (s : List UInt8) (f i : Nat), s.length < f → indexOf s sub f i = if Lib.index s sub = -1 then -1 else Lib.index s sub + i
  | [], 0, _, h => by simp at h
  | _ :: _, 0, _, h => by simp at h
  | [], f + 1, i, _ => by
    simp only [indexOf, take_prefix, Lib.index]
    cases sub <;> simp [List.isPrefixOf]
  | b :: s, f + 1, i, h => by
    have hge := Lib.index_ge s sub
    have ih := indexOf_eq sub s f (i + 1) (by simpa using h)
    simp only [indexOf, take_prefix, Lib.index]
    by_cases hp : sub.isPrefixOf (b :: s) = true
    · simp only [hp, if_true]; simp
    · simp only [hp, ih]
      by_cases hi : Lib.index s sub = -1
      · simp [hi]
      · have hi' : ¬ ((Lib.index s sub == -1) = true) := by simpa using hi
        have h2 : ¬ (Lib.index s sub + 1 = -1) := by omega
        simp only [hi, hi', if_false, Bool.false_eq_true, h2]
        omega

theorem xok_index {f : FuncId} {fn : Func} {g : Nat} (hf : C.P.funcs[f]? = some fn) (hb : fn.body.isSome = true) (hg : (g, IntKind.i64) ∈ C.ints)
    (hidx : ∀ (s sub : ByteArray) (m : Int) (w : World), s.size < 4294967281 → w.cell? ⟨g, 0, none⟩ = some (.int .i64 m) → Calls C.P f #[.string s, .string sub] w fun e w' => e = .returned (.int .i64 (Lib.index s.data.toList sub.data.toList)) ∧ w' = w) : XOK C f .index := by
  intro fn' hf' E H w args vs a H' hG ha hr hv
  rw [hf] at hf'; cases hf'
  obtain ⟨c, hc⟩ := Option.isSome_iff_exists.1 hb
  rw [hc]
  intro cs
  unfold ax at ha
  split at ha <;> (try (first | (rename_i he; cases he; done) | (cases ha; done)))
  · rename_i s sub _
    split at ha <;> (try (cases ha; done))
    rename_i hlen
    simp only [Option.some.injEq, Prod.mk.injEq] at ha
    obtain ⟨rfl, rfl⟩ := ha
    simp only [VRs, VR] at hv
    obtain ⟨v, _, e1, rfl, u, _, rfl, rfl, rfl⟩ := hv
    rw [arr_two e1]
    obtain ⟨m, hm⟩ := hG.2 _ hg
    have hcell := hr.imm _ _ _ hm
    obtain ⟨e, w', fr, ⟨rfl, rfl⟩, h2, h3, h4⟩ := hidx ⟨⟨s⟩⟩ ⟨⟨sub⟩⟩ m w (by show s.length < _; omega) hcell cs
    refine ⟨fr, E, _, w', h2, h4, hr, .refl E w', ?_⟩
    have := indexOf_eq sub s (s.length + 1) 0 (Nat.lt_succ_self _)
    simp only [VR, this]
    split
    · rename_i h; rw [h]
    · simp

/-- what is known of a world at a call's start -/
def E0 (w : World) : Env := { ι := fun _ => none, I := fun b o => w.cell? ⟨b, o, none⟩, N := 0 }
theorem hr0 (w : World) : HR (E0 w) ⟨.lf, 0⟩ w :=
  ⟨fun id x b s n h _ => by simp [AH.get, PT.get_lf] at h, fun id id' x x' b p p' h => by simp [AH.get, PT.get_lf] at h, fun id x h => by simp [E0] at h, fun id b p h => by simp [E0] at h, fun b o v h => h, fun id x b p o v h => by simp [AH.get, PT.get_lf] at h, Nat.le_refl _⟩

/-- **A CLOSED CALL, RUN BY THE ABSTRACT MACHINE.** -/
theorem closed_calls (hC : CxOK C) {f : FuncId} {n : Nat} {g fr : AF} {H' : AH} {a : AV} {v : Value} (hg : aenter C f [] .normal = some g) (hrun : arun C n { st := [g], H := ⟨.lf, 0⟩ } = some { st := [fr], H := H' })
    (hm : fr.mode = .ret) (hd : fr.defers = []) (hk : fr.kind = .normal) (hfn : fr.fn = f) (hres : aresults C fr H' = some a) (hav : ∀ E u, VR E a u → u = v) (hG : GOK C (E0 w)) :
    Calls C.P f #[] w fun e w' => e = .returned v ∧ w'.tape = w.tape ∧ w'.os = w.os ∧ w'.output = w.output ∧ w.heap.size ≤ w'.heap.size ∧ ∀ b, b < w.heap.size → w'.heap[b]? = w.heap[b]? := by
  intro cs
  have hent := enter_sound (C := C) (E := E0 w) hg (vs := #[]) (by simp [VRs])
  obtain ⟨E', fr', cs', w', s1, s2, s3, s4⟩ := arun_sound hC n _ _ hrun (E0 w) (Frame.enter C.P f #[] .normal) [] w cs ⟨_, _, rfl, hent, rfl⟩ (hr0 w) hG
  simp only [FRs] at s2
  obtain ⟨_, _, e, s2, s5⟩ := s2
  cases e
  subst s5
  obtain ⟨fn, u, r1, r2, r3⟩ := results_sound hres s2 s3
  have hu := hav _ _ r3
  subst hu
  have m := s2.mode
  have d := s2.defers
  rw [hm] at m
  rw [hd] at d
  refine ⟨.returned u, w', fr', ⟨rfl, s4.tape, s4.os, s4.out, s4.size, fun b hb => s4.keep b hb (fun id p h => by simp [E0] at h)⟩, s1, by rw [s2.fn, hfn], m, d, by rw [s2.kind, hk], fn, r1, r2⟩
end
end Go.Am

namespace Go.Am
section
variable {C : Cx} {E : Env} {H : AH} {w : World}

theorem repS_eq (s : List UInt8) : ∀ n, repS s n = Lib.repeatL s n
  | 0 => rfl
  | n + 1 => congrArg (s ++ ·) (repS_eq s n)

/-- new blocks alone -/
theorem HR.below {w' : World} (h : HR E H w) (hb : Go.RowKit.Below w.heap.size w w') : HR E H w' ∧ Ext E w E w' :=
  ⟨⟨fun id x b s n hx hi => BR.congr (hb.block b (h.bnd _ _ _ hi)) (h.blks id x b s n hx hi), h.inj, h.nxt, fun id b p hi => Nat.lt_of_lt_of_le (h.bnd id b p hi) hb.size,
    fun b o v hv => by
      have h1 := h.imm b o v hv
      rw [cell?_congr (hb.block b (World.block_lt_of_cell? _ _ h1))]; exact h1, h.disj, h.N⟩,
   ⟨.refl E, hb.size, fun b hlt _ => hb.block b hlt, fun id b p hi => .inl ⟨id, p, hi⟩, hb.tape, hb.os, hb.output, fun id h1 h2 => absurd h1 h2, Nat.le_refl _⟩⟩

theorem xok_rep {f : FuncId} {fn : Func} (hf : C.P.funcs[f]? = some fn) (hb : fn.body.isSome = true)
    (hrep : ∀ (s : ByteArray) (c : Nat) (w : World), c ≤ 9223372036854775807 → s.size * c ≤ 140737488355328 → Calls C.P f #[.string s, .int .i64 c] w fun e w' => e = .returned (.string ⟨(Lib.repeatL s.data.toList c).toArray⟩) ∧ Go.RowKit.Below w.heap.size w w') : XOK C f .rep := by
  intro fn' hf' E H w args vs a H' hG ha hr hv
  rw [hf] at hf'; cases hf'
  obtain ⟨c, hc⟩ := Option.isSome_iff_exists.1 hb
  rw [hc]
  intro cs
  unfold ax at ha
  split at ha <;> (try (first | (rename_i he; cases he; done) | (cases ha; done)))
  · rename_i s c _
    split at ha <;> (try (cases ha; done))
    rename_i n hn
    split at ha <;> (try (cases ha; done))
    rename_i hlen
    simp only [Option.some.injEq, Prod.mk.injEq] at ha
    obtain ⟨rfl, rfl⟩ := ha
    simp only [VRs, VR] at hv
    obtain ⟨v, _, e1, rfl, u, _, rfl, rfl, rfl⟩ := hv
    rw [arr_two e1]
    have hcn := asNat_eq hn
    subst hcn
    obtain ⟨e, w', fr, ⟨rfl, hbl⟩, h2, h3, h4⟩ := hrep ⟨⟨s⟩⟩ n w (by omega) (by show s.length * n ≤ _; omega) cs
    obtain ⟨q1, q2⟩ := hr.below hbl
    refine ⟨fr, E, _, w', h2, h4, q1, q2, ?_⟩
    simp only [VR, repS_eq]
end
end Go.Am
