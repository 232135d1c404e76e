/-
  The abstract machine, read big step by big step, and that this reading is right. (Conditions: CxOK.)
-/
import Derived.Test.YtpnaeljbfnjghaaGreatDoorAmd
namespace Go.Am

/-! # What a frame's code comes to, big step by big step -/

/-- what does not change while a frame's code runs -/
structure FI where
  fn : FuncId
  n : Nat
  kind : CallKind
  roundOf : Option Nat

structure DS where
  T : PT AV
  D : List ADef
  B : List AF
  H : AH

def mkF (F : FI) (s : DS) (todo : List AI) : AF := { fn := F.fn, tmps := s.T, n := F.n, todo := todo, defers := s.D, mode := .run, kind := F.kind, roundOf := F.roundOf }
def mkL (F : FI) (s : DS) (m : AMode) : AF := { fn := F.fn, tmps := s.T, n := F.n, todo := [], defers := s.D, mode := m, kind := F.kind, roundOf := F.roundOf }
def mkM (F : FI) (s : DS) (R : List AF) (todo : List AI) : AM := { st := mkF F s todo :: (s.B ++ R), H := s.H }

inductive Out where
  | norm
  | exit (id : Nat)
  | ret
  | pan (ch : List (AV × Bool))

inductive CR where
  | val (a : AV)
  | pan (ch : List (AV × Bool))

/-- what may be called: a frame that is run to its end; a round of a range over a function -/
structure CB where
  frame : AF → List AF → AH → Option (AF × List AF × AH)
  round : Nat → List AV → AH → Option (CR × AH)

section
variable (C : Cx) (cb : CB)

def CB.call (f : FuncId) (args : List AV) (H : AH) : Option (CR × AH) :=
  match aenter C f args .normal with
  | some g => (match cb.frame g [] H with
    | some (g', [], H') => (match g'.mode, C.P.funcs[g'.fn]? with
      | .ret, _ => (match aresults C g' H' with | some a => some (.val a, H') | none => none)
      | .pan ch, some _ => some (.pan ch, H')
      | _, _ => none)
    | _ => none)
  | none => none

def CB.sub (M : AM) : Option AM :=
  match M.st with
  | [g] => (match cb.frame g [] M.H with | some (g', [], H') => some { st := [g'], H := H' } | _ => none)
  | _ => none

/-- behind an operation -/
def doAN (F : FI) (o : Oper) (s : DS) : AN → Option (Out × DS)
  | .val a => some (.norm, { s with T := tput s.T F.n o.dst a })
  | .skip => some (.norm, { s with T := tput s.T F.n o.dst undefA })
  | .known _ a => some (.norm, { s with T := tput s.T F.n o.dst a })
  | .enter f args => (match cb.call C f args s.H with
    | some (.val a, H) => some (.norm, { s with T := tput s.T F.n o.dst a, H := H })
    | some (.pan ch, H) => some (.pan ch, { s with H := H })
    | none => none)
  | .round id args => (match cb.round id args s.H with
    | some (.val a, H) => some (.norm, { s with T := tput s.T F.n o.dst a, H := H })
    | some (.pan ch, H) => some (.pan ch, { s with H := H })
    | none => none)
  | .defer d => (match F.roundOf with
    | none => some (.norm, { s with T := tput s.T F.n o.dst undefA, D := d :: s.D })
    | some _ => none)
  | .recover => (match arecover (mkF F s []) s.B with
    | some (v, B) => some (.norm, { s with T := tput s.T F.n o.dst v, B := B })
    | none => none)
  | .panic a => some (.pan [(a, false)], s)

def execOps (F : FI) (ops : Array Oper) : List Nat → DS → Option (Out × DS)
  | [], s => some (.norm, s)
  | i :: l, s => match ops[i]? with
    | none => execOps F ops l s
    | some o => match awanted ops s.T o with
      | none => none
      | some false => execOps F ops l { s with T := tput s.T F.n o.dst undefA }
      | some true => match aop C (aev C s.T) s.H o with
        | none => none
        | some (n, H) => match doAN C cb F o { s with H := H } n with
          | some (.norm, s) => execOps F ops l s
          | r => r

def iter (f : DS → Option (Out × DS)) : Nat → DS → Option (Out × DS)
  | 0, _ => none
  | n + 1, s => match f s with
    | some (.norm, s) => iter f n s
    | r => r

def outOf : Code → Option Out
  | .ret => some .ret
  | .exit id => some (.exit id)
  | _ => none

/-- a statement 'for range f' -/
def execRF (F : FI) (f : Operand) (ps : Array Tmp) (asg body : Code) (s : DS) : Option (Out × DS) :=
  match aev C s.T f with
  | .fn g first cap =>
    let go (df id : Nat) (D : List ADef) (H : AH) : Option (Out × DS) :=
      match C.X g with
      | some _ => none
      | none => (match cb.call C g (first ++ [.yld id] ++ cap) (H.new (.loop { state := .ready, pending := none, fn := F.fn, tmps := s.T, n := F.n, params := ps, assign := asg, body := body, defers := df })) with
        | some (.pan ch, H) => some (.pan ch, { s with D := D, H := H })
        | some (.val _, H) => (match H.get id with
          | some (.loop l) => (match l.state with
            | .busy => none
            | _ => (match l.pending with
              | none => some (.norm, { s with D := D, H := H.put id (.loop { l with state := .exhausted }) })
              | some c => (match outOf c with
                | some o => some (o, { s with D := D, H := H.put id (.loop { l with state := .exhausted }) })
                | none => none)))
          | _ => none)
        | none => none)
    (match F.roundOf with
    | none => go s.H.nxt (s.H.nxt + 1) (.coll s.H.nxt :: s.D) (s.H.new .dfr)
    | some id => (match s.H.get id with
      | some (.loop l) => go l.defers s.H.nxt s.D s.H
      | _ => none))
  | _ => none

def exec (n : Nat) (F : FI) : Code → DS → Option (Out × DS)
  | .skip, s | .label _, s => some (.norm, s)
  | .region _ ops false, s => execOps C cb F ops (List.range ops.size) s
  | .region _ ops true, s => cond (apartOK ops) (match drawRun C cb.sub (mkF F s []) (masks ops) ops (ops.size + 1) [] [] s.T s.B s.H with
    | some (.val _, T, B, H) => some (.norm, { s with T := T, B := B, H := H })
    | some (.panic ch, _, B, H) => some (.pan ch, { s with T := .lf, B := B, H := H })
    | none => none) none
  | .seq a b, s => (match exec n F a s with
    | some (.norm, s) => exec n F b s
    | r => r)
  | .cond c a b, s => (match aev C s.T c with
    | .b true => exec n F a s
    | .b false => exec n F b s
    | _ => none)
  | .block id b, s => (match exec n F b s with
    | some (.exit i, s) => cond (id == i) (some (.norm, s)) (some (.exit i, s))
    | r => r)
  | .loop b, s => iter (exec n F b) n s
  | .scope b, s => exec n F b s
  | .exit id, s => some (.exit id, s)
  | .ret, s => some (.ret, s)
  | .rangeFunc f ps asg body, s => execRF C cb F f ps asg body s
  | .goto _, _ | .refuse _, _ => none

/-- the frame below is as it was, but for how it is being left -/
def okLeft (g g1 : AF) : Bool :=
  Nat.beq g.fn g1.fn && (match g1.mode with | .run => false | _ => true) && g1.roundOf.isNone && (match g.kind, g1.kind with | .normal, .normal => true | .deferred, .deferred => true | _, _ => false)

/-- a frame into which a deferred call has returned -/
def settleA (c : AF) : AF := match c.mode with | .pan ((_, true) :: _) => { c with mode := .ret } | _ => c

/-- the deferred calls of a frame that is being left -/
def unwindD : Nat → AF → List AF → AH → Option (AF × List AF × AH)
  | 0, _, _, _ => none
  | k + 1, g, B, H => match g.defers with
    | [] => some (g, B, H)
    | .coll id :: ds => (match H.get id with
      | some .dfr => unwindD k { g with defers := ds } B (H.kill id)
      | _ => none)
    | .fn f args :: ds => (match C.X f, aenter C f args .deferred with
      | none, some d => (match cb.frame d [{ g with defers := ds }] H with
        | some (d', [g1], H1) => cond (okLeft g g1) (match d'.mode with
          | .ret => (match aresults C d' H1 with
            | some _ => unwindD k (settleA g1) B H1
            | none => none)
          | .pan ch => (match C.P.funcs[d'.fn]? with
            | some _ => unwindD k (araise g1 ch) B H1
            | none => none)
          | .run => none) none
        | _ => none)
      | _, _ => none)

/-- a frame, from its code's start to its end -/
def frameD (n : Nat) (g : AF) (B : List AF) (H : AH) : Option (AF × List AF × AH) :=
  match g.todo, g.mode, g.roundOf with
  | [.code c], .run, none =>
    let F : FI := { fn := g.fn, n := g.n, kind := g.kind, roundOf := none }
    (match exec C cb n F c { T := g.tmps, D := g.defers, B := B, H := H } with
    | some (.norm, s) | some (.ret, s) => unwindD C cb n (mkL F s .ret) s.B s.H
    | some (.pan ch, s) => unwindD C cb n (mkL F s (.pan ch)) s.B s.H
    | _ => none)
  | _, _, _ => none

/-- a round of a range over a function -/
def roundD (n : Nat) (id : Nat) (args : List AV) (H : AH) : Option (CR × AH) :=
  match H.get id with
  | some (.loop l) => if l.params.size = args.length then
      let F : FI := { fn := l.fn, n := l.n, kind := .normal, roundOf := some id }
      (match exec C cb n F l.assign { T := (l.params.toList.zip args).foldl (fun T p => tset T l.n p.1 p.2) l.tmps, D := [], B := [], H := H } with
      | some (.norm, s) => (match s.H.get id with
        | some (.loop l1) => (match l1.state with
          | .ready => (match exec C cb n F l.body { s with H := s.H.put id (.loop { l1 with state := .busy }) } with
            | some (o, { T := _, D := [], B := [], H := H3 }) =>
              let fin (jump : Option Code) : Option (CR × AH) := (match H3.get id with
                | some (.loop l3) => some (.val (.b jump.isNone), H3.put id (.loop { l3 with state := if jump.isNone then .ready else .done, pending := jump }))
                | _ => none)
              (match o with
              | .norm => fin none
              | .ret => fin (some .ret)
              | .exit i => fin (some (.exit i))
              | .pan ch => (match C.P.funcs[l.fn]? with | some _ => some (.pan ch, H3) | none => none))
            | _ => none)
          | _ => none)
        | _ => none)
      | _ => none) else none
  | _ => none

/-- calls to some depth -/
def cbs : Nat → CB
  | 0 => { frame := fun _ _ _ => none, round := fun _ _ _ => none }
  | n + 1 => { frame := frameD C (cbs n) (n + 1), round := roundD C (cbs n) (n + 1) }
end
end Go.Am

namespace Go.Am

/-- from wherever the first machine is met, the second is come to -/
def Sim (C : Cx) (M M' : AM) : Prop :=
  ∀ E fr cs w rest, FRs E M.st (fr :: cs) → HR E M.H w → GOK C E → Goes C E fr cs rest w M'

section
variable {C : Cx}

theorem Sim.refl (M : AM) : Sim C M M := fun E fr cs w _ hF hr _ => ⟨E, fr, cs, w, .refl _ _, hF, hr, .refl E w⟩
theorem Sim.trans {M M1 M2 : AM} (h : Sim C M M1) (k : Sim C M1 M2) : Sim C M M2 := by
  intro E fr cs w rest hF hr hG
  obtain ⟨E1, fr1, cs1, w1, s1, f1, r1, e1⟩ := h E fr cs w rest hF hr hG
  obtain ⟨E2, fr2, cs2, w2, s2, f2, r2, e2⟩ := k E1 fr1 cs1 w1 rest f1 r1 (hG.mono e1.le)
  exact ⟨E2, fr2, cs2, w2, s1.trans s2, f2, r2, e1.trans e2⟩
theorem SubOK.none : SubOK C (fun _ => none) := by intro M M' h; cases h
theorem Sim.of_step (hC : CxOK C) {sub : AM → Option AM} (hsub : SubOK C sub) {M M' : AM} (h : astep C sub M = some M') : Sim C M M' :=
  fun E fr cs w rest hF hr hG => step_sound hC (draw_sound hC hsub) M M' h E fr cs w rest hF hr hG
theorem Sim.head (hC : CxOK C) {sub : AM → Option AM} (hsub : SubOK C sub) {M M1 M' : AM} (h : astep C sub M = some M1) (k : Sim C M1 M') : Sim C M M' :=
  (Sim.of_step hC hsub h).trans k
theorem Sim.head0 (hC : CxOK C) {M M1 M' : AM} (h : astep C (fun _ => none) M = some M1) (k : Sim C M1 M') : Sim C M M' :=
  Sim.head hC .none h k

theorem FRs.split {E : Env} : ∀ {a b : List AF} {xs : List Frame}, FRs E (a ++ b) xs → ∃ ys zs, xs = ys ++ zs ∧ FRs E a ys ∧ FRs E b zs
  | [], _, xs, h => ⟨[], xs, rfl, rfl, h⟩
  | _ :: _, _, _, h => by
    simp only [List.cons_append, FRs] at h
    obtain ⟨x, rest, rfl, h1, h2⟩ := h
    obtain ⟨ys, zs, rfl, h3, h4⟩ := FRs.split h2
    exact ⟨x :: ys, zs, rfl, ⟨x, ys, rfl, h1, h3⟩, h4⟩
theorem FRs.append {E : Env} : ∀ {a b : List AF} {xs ys : List Frame}, FRs E a xs → FRs E b ys → FRs E (a ++ b) (xs ++ ys)
  | [], _, _, _, h, k => by simp only [FRs] at h; subst h; exact k
  | _ :: _, _, _, _, h, k => by
    simp only [FRs] at h
    obtain ⟨x, rest, rfl, h1, h2⟩ := h
    exact ⟨x, _, rfl, h1, FRs.append h2 k⟩

/-- what stands below stays -/
theorem Sim.app {a : AF} {B st' : List AF} {H H' : AH} (h : Sim C { st := a :: B, H := H } { st := st', H := H' }) (R : List AF) : Sim C { st := a :: (B ++ R), H := H } { st := st' ++ R, H := H' } := by
  intro E fr cs w rest hF hr hG
  simp only [FRs] at hF
  obtain ⟨_, _, e, h1, h2⟩ := hF
  cases e
  obtain ⟨ys, zs, rfl, h3, h4⟩ := FRs.split h2
  obtain ⟨E', fr', cs', w', s1, s2, s3, s4⟩ := h E fr ys w (zs ++ rest) ⟨_, _, rfl, h1, h3⟩ hr hG
  refine ⟨E', fr', cs' ++ zs, w', by simpa using s1, ?_, s3, s4⟩
  have := FRs.append s2 (h4.mono s4.le)
  simpa using this

/-- a frame that is being left may have any code left -/
theorem Sim.todo {a b : AF} {B : List AF} {H : AH} {M' : AM} (hm : a.mode ≠ .run) (hb : b = { a with todo := b.todo }) (h : Sim C { st := a :: B, H := H } M') : Sim C { st := b :: B, H := H } M' := by
  intro E fr cs w rest hF hr hG
  refine h E fr cs w rest ?_ hr hG
  simp only [FRs] at hF ⊢
  obtain ⟨x, r, e, h1, h2⟩ := hF
  rw [hb] at h1
  exact ⟨x, r, e, ⟨h1.fn, h1.tmps, fun hm' => absurd hm' hm, h1.defers, h1.mode, h1.kind, h1.roundOf⟩, h2⟩

/-- what is known of temporaries may be forgotten -/
theorem TR.none {E : Env} {T : PT AV} {n : Nat} {t : Array Value} (h : TR E T n t) : TR E .lf n t := ⟨h.1, fun t a ha => by rw [PT.get_lf] at ha; cases ha⟩

def Cont (C : Cx) (F : FI) (R : List AF) (k : List AI) (M' : AM) : Out → DS → Prop
  | .norm, s => Sim C (mkM F s R k) M'
  | .exit id, s => match aexitTo id k with
    | some k' => Sim C (mkM F s R k') M'
    | none => ∃ X, aleave (mkF F s []) (s.B ++ R) s.H (some (.exit id)) = some X ∧ Sim C X M'
  | .ret, s => ∃ X, aleave (mkF F s []) (s.B ++ R) s.H (some .ret) = some X ∧ Sim C X M'
  | .pan ch, s => Sim C { st := mkL F s (.pan ch) :: (s.B ++ R), H := s.H } M'

/-- **the code does this** -/
def Ex (C : Cx) (F : FI) (c : Code) (s : DS) (o : Out) (s' : DS) : Prop :=
  ∀ R k M', Cont C F R k M' o s' → Sim C (mkM F s R (.code c :: k)) M'
/-- what is left of a region does this -/
def ExOps (C : Cx) (F : FI) (ops : Array Oper) (l : List Nat) (s : DS) (o : Out) (s' : DS) : Prop :=
  ∀ R k M', Cont C F R k M' o s' → Sim C (mkM F s R (.inRegion ops l :: k)) M'

theorem leave_sim {F : FI} {s : DS} {B : List AF} {H : AH} {j : Option Code} {X M' : AM} (h : aleave (mkF F s []) B H j = some X) (todo : List AI) (hs : Sim C X M') :
    ∃ Y, aleave (mkF F s todo) B H j = some Y ∧ Sim C Y M' := by
  cases hr : F.roundOf with
  | none =>
    simp only [aleave, mkF, hr] at h ⊢
    split at h
    · cases h; exact ⟨_, rfl, hs.todo (by simp) rfl⟩
    · cases h; exact ⟨_, rfl, hs.todo (by simp) rfl⟩
    · cases h
  | some id =>
    simp only [aleave, mkF, hr, areturn] at h ⊢
    exact ⟨X, h, hs⟩

/-- a way out of the code does not look at what was left of it -/
theorem Cont.swap {F : FI} {R : List AF} {k k' : List AI} {M' : AM} {o : Out} {s : DS} (ho : o ≠ .norm) (hk : ∀ id, o = .exit id → aexitTo id k' = aexitTo id k) (h : Cont C F R k M' o s) : Cont C F R k' M' o s := by
  cases o with
  | norm => exact absurd rfl ho
  | exit id => simp only [Cont] at h ⊢; rw [hk id rfl]; exact h
  | ret => exact h
  | pan ch => exact h

section
variable (hC : CxOK C) {F : FI} {s s1 s' : DS} {o : Out}
include hC

theorem Ex.skip : Ex C F .skip s .norm s := fun R k _ h => Sim.head0 hC (M1 := mkM F s R k) (by simp [astep, mkM, mkF, acode]) h
theorem Ex.label {l : Nat} : Ex C F (.label l) s .norm s := fun R k _ h => Sim.head0 hC (M1 := mkM F s R k) (by simp [astep, mkM, mkF, acode]) h
theorem Ex.seq {a b : Code} (h1 : Ex C F a s .norm s1) (h2 : Ex C F b s1 o s') : Ex C F (.seq a b) s o s' := fun R k M' h =>
  Sim.head0 hC (M1 := mkM F s R (.code a :: .code b :: k)) (by simp [astep, mkM, mkF, acode]) (h1 R _ M' (h2 R k M' h))
theorem Ex.seq_out {a b : Code} (h1 : Ex C F a s o s') (ho : o ≠ .norm) : Ex C F (.seq a b) s o s' := fun R k M' h =>
  Sim.head0 hC (M1 := mkM F s R (.code a :: .code b :: k)) (by simp [astep, mkM, mkF, acode]) (h1 R _ M' (Cont.swap (k := k) ho (fun _ _ => rfl) h))
theorem Ex.cond_true {c : Operand} {a b : Code} (hc : aev C s.T c = .b true) (h1 : Ex C F a s o s') : Ex C F (.cond c a b) s o s' := fun R k M' h =>
  Sim.head0 hC (M1 := mkM F s R (.code a :: k)) (by simp [astep, mkM, mkF, acode, hc]) (h1 R _ M' h)
theorem Ex.cond_false {c : Operand} {a b : Code} (hc : aev C s.T c = .b false) (h1 : Ex C F b s o s') : Ex C F (.cond c a b) s o s' := fun R k M' h =>
  Sim.head0 hC (M1 := mkM F s R (.code b :: k)) (by simp [astep, mkM, mkF, acode, hc]) (h1 R _ M' h)
theorem Ex.block_norm {id : Nat} {b : Code} (h1 : Ex C F b s .norm s') : Ex C F (.block id b) s .norm s' := fun R k M' h =>
  Sim.head0 hC (M1 := mkM F s R (.code b :: .inBlock id :: k)) (by simp [astep, mkM, mkF, acode]) (h1 R _ M' (Sim.head0 hC (M1 := mkM F s' R k) (by simp [astep, mkM, mkF, acode]) h))
theorem Ex.block_exit {id : Nat} {b : Code} (h1 : Ex C F b s (.exit id) s') : Ex C F (.block id b) s .norm s' := fun R k M' h =>
  Sim.head0 hC (M1 := mkM F s R (.code b :: .inBlock id :: k)) (by simp [astep, mkM, mkF, acode]) (h1 R _ M' (by simp only [Cont, aexitTo, beq_self_eq_true, if_true]; exact h))
theorem Ex.block_out {id : Nat} {b : Code} (h1 : Ex C F b s o s') (ho : o ≠ .norm) (hi : o ≠ .exit id) : Ex C F (.block id b) s o s' := fun R k M' h =>
  Sim.head0 hC (M1 := mkM F s R (.code b :: .inBlock id :: k)) (by simp [astep, mkM, mkF, acode]) (h1 R _ M' (Cont.swap (k := k) ho (h := h) fun i hi' => by
    have : (id == i) = false := by simp only [beq_eq_false_iff_ne]; intro e; subst e; exact hi hi'
    simp [aexitTo, this]))
theorem Ex.scope {b : Code} (h1 : Ex C F b s o s') : Ex C F (.scope b) s o s' := fun R k M' h =>
  Sim.head0 hC (M1 := mkM F s R (.code b :: .inScope b :: k)) (by simp [astep, mkM, mkF, acode]) (h1 R _ M' (by
    by_cases ho : o = .norm
    · subst ho; exact Sim.head0 hC (M1 := mkM F s' R k) (by simp [astep, mkM, mkF, acode]) h
    · exact Cont.swap (k := k) ho (fun _ _ => rfl) h))
theorem Ex.exit {id : Nat} : Ex C F (.exit id) s (.exit id) s := by
  intro R k M' h
  simp only [Cont] at h
  cases hx : aexitTo id k with
  | some k' =>
    rw [hx] at h
    exact Sim.head0 hC (M1 := mkM F s R k') (by simp [astep, mkM, mkF, acode, hx]) h
  | none =>
    rw [hx] at h
    obtain ⟨X, h1, h2⟩ := h
    obtain ⟨Y, h3, h4⟩ := leave_sim h1 (.code (.exit id) :: k) h2
    exact Sim.head0 hC (M1 := Y) (by simp only [astep, mkM]; show acode _ _ _ _ _ = _; simp only [acode, mkF] at h3 ⊢; simp only [hx]; exact h3) h4
theorem Ex.ret : Ex C F .ret s .ret s := by
  intro R k M' h
  obtain ⟨X, h1, h2⟩ := h
  obtain ⟨Y, h3, h4⟩ := leave_sim h1 (.code .ret :: k) h2
  exact Sim.head0 hC (M1 := Y) (by simp only [astep, mkM]; show acode _ _ _ _ _ = _; simp only [acode, mkF] at h3 ⊢; exact h3) h4

/-- a loop's body, and the loop again -/
def ExLoop (C : Cx) (F : FI) (b : Code) (s : DS) (o : Out) (s' : DS) : Prop :=
  ∀ R k M', Cont C F R k M' o s' → Sim C (mkM F s R (.code b :: .inLoop b :: k)) M'
theorem ExLoop.back {b : Code} (h : Ex C F b s .norm s1) (h2 : ExLoop C F b s1 o s') : ExLoop C F b s o s' := fun R k M' hk =>
  h R _ M' (Sim.head0 hC (M1 := mkM F s1 R (.code b :: .inLoop b :: k)) (by simp [astep, mkM, mkF, acode]) (h2 R k M' hk))
omit hC in
theorem ExLoop.out {b : Code} (h : Ex C F b s o s') (ho : o ≠ .norm) : ExLoop C F b s o s' := fun R k M' hk =>
  h R _ M' (Cont.swap (k := k) ho (fun _ _ => rfl) hk)
theorem Ex.loop {b : Code} (h : ExLoop C F b s o s') : Ex C F (.loop b) s o s' := fun R k M' hk =>
  Sim.head0 hC (M1 := mkM F s R (.code b :: .inLoop b :: k)) (by simp [astep, mkM, mkF, acode]) (h R k M' hk)
end
end
end Go.Am

namespace Go.Am

/-- where a call leads: back into the frame that called -/
def backTo (fr : AF) (B : List AF) (H : AH) : CR → AM
  | .val a => { st := afin fr a :: B, H := H }
  | .pan ch => { st := araise fr ch :: B, H := H }

structure CBOK (C : Cx) (cb : CB) : Prop where
  frame : ∀ {g B H g' B' H'}, cb.frame g B H = some (g', B', H') → (∀ R, Sim C { st := g :: (B ++ R), H := H } { st := g' :: (B' ++ R), H := H' }) ∧ g'.mode ≠ .run ∧ g'.defers = [] ∧ g'.roundOf = none ∧ g'.kind = g.kind ∧ g'.fn = g.fn
  round : ∀ {id args H r H'}, cb.round id args H = some (r, H') → ∃ g, around H id args = some g ∧ ∀ (fr : AF) B, fr.mode = .run → Sim C { st := g :: fr :: B, H := H } (backTo fr B H' r)

section
variable {C : Cx} {cb : CB}

theorem enter_kind {f : FuncId} {args : List AV} {kd : CallKind} {g : AF} (h : aenter C f args kd = some g) : g.kind = kd ∧ g.fn = f ∧ g.mode = .run ∧ g.defers = [] ∧ g.roundOf = none := by
  unfold aenter at h
  split at h <;> (try (cases h; done))
  split at h <;> (try (cases h; done))
  split at h <;> (try (cases h; done))
  cases h
  exact ⟨rfl, rfl, rfl, rfl, rfl⟩

theorem call_ok (hC : CxOK C) (hcb : CBOK C cb) {f : FuncId} {args : List AV} {H H' : AH} {r : CR} (h : cb.call C f args H = some (r, H')) :
    ∃ g, aenter C f args .normal = some g ∧ ∀ (fr : AF) B, fr.mode = .run → Sim C { st := g :: fr :: B, H := H } (backTo fr B H' r) := by
  unfold CB.call at h
  split at h <;> (try (cases h; done))
  rename_i g hg
  refine ⟨g, hg, fun fr B hm => ?_⟩
  split at h <;> (try (cases h; done))
  rename_i g' H1 hf
  obtain ⟨h1, h2, h3, h4, h5, _⟩ := hcb.frame hf
  have h6 := h1 (fr :: B)
  simp only [List.nil_append] at h6
  have hk : g'.kind = .normal := by rw [h5, (enter_kind hg).1]
  refine h6.trans ?_
  split at h
  · rename_i hmode
    split at h <;> (try (cases h; done))
    rename_i a ha
    cases h
    refine Sim.of_step hC .none ?_
    simp only [astep, hmode, aunwind, h3, h4, ha, areturn, hk, hm, backTo]
  · rename_i ch fn hmode hfn
    cases h
    refine Sim.of_step hC .none ?_
    simp only [astep, hmode, aunwind, h3, hfn, backTo]
  · cases h

theorem sub_ok (hcb : CBOK C cb) : SubOK C cb.sub := by
  intro M M' h
  unfold CB.sub at h
  split at h <;> (try (cases h; done))
  rename_i g hst
  split at h <;> (try (cases h; done))
  rename_i g' H' hf
  cases h
  have := (hcb.frame hf).1 []
  obtain ⟨st, H⟩ := M
  simp only at hst
  subst hst
  exact this

theorem recover_app {fr fr' : AF} {B B' R : List AF} {v : AV} (h : arecover fr B = some (v, B')) (hk : fr'.kind = fr.kind) (hr : fr'.roundOf = fr.roundOf) : arecover fr' (B ++ R) = some (v, B' ++ R) := by
  unfold arecover at h ⊢
  rw [hk, hr]
  split at h
  · rename_i c rest h1 h2
    simp only [h1, h2, List.cons_append]
    split at h
    · rename_i h3
      cases h
      simp only [List.cons_append]
    · rename_i hn
      cases h
      rfl
  · rename_i h1 h2
    cases h
    simp only [h1, h2]
  · cases h

theorem runOp_app {sub : AM → Option AM} {fr fr' : AF} {T : PT AV} {B B' R : List AF} {H H' : AH} {o : Oper} {a : AO} (h : runOp C sub fr T B H o = some (a, B', H')) (hk : fr'.kind = fr.kind) (hr : fr'.roundOf = fr.roundOf) :
    runOp C sub fr' T (B ++ R) H o = some (a, B' ++ R, H') := by
  unfold runOp at h ⊢
  split at h <;> (try (cases h; done))
  · cases h; rfl
  · cases h; rfl
  · cases h; rfl
  · split at h <;> (try (cases h; done))
    rename_i h2
    try simp only [h2]
    split at h <;> (try (cases h; done))
    rename_i h3
    try simp only [h3]
    split at h <;> (try (cases h; done))
    · split at h <;> (try (cases h; done))
      cases h
      rfl
    · cases h
      rfl
  · cases h; rfl
  · split at h <;> (try (cases h; done))
    rename_i h2
    cases h
    simp only [recover_app h2 hk hr]

theorem drawRun_app {sub : AM → Option AM} {fr fr' : AF} {ms : List Nat} {ops : Array Oper} {R : List AF} (hn : fr'.n = fr.n) (hk : fr'.kind = fr.kind) (hr : fr'.roundOf = fr.roundOf) :
    ∀ (fuel : Nat) (L hs : List Nat) (T : PT AV) (B : List AF) (H : AH) (a : AO) (T' : PT AV) (B' : List AF) (H' : AH),
      drawRun C sub fr ms ops fuel L hs T B H = some (a, T', B', H') → drawRun C sub fr' ms ops fuel L hs T (B ++ R) H = some (a, T', B' ++ R, H') := by
  intro fuel
  induction fuel with
  | zero => intro L hs T B H a T' B' H' h; simp [drawRun] at h
  | succ fuel ih =>
    intro L hs T B H a T' B' H' h
    unfold drawRun at h ⊢
    simp only at h ⊢
    rw [hn]
    split at h
    · rename_i i hf
      try simp only [hf]
      split at h <;> (try (cases h; done))
      rename_i o ho
      try simp only [ho]
      split at h
      · rename_i hw
        try simp only [hw]
        exact ih _ _ _ _ _ _ _ _ _ h
      · rename_i hw
        try simp only [hw]
        cases hl : lightOp C o
        · rw [hl] at h
          simp only [cond_false] at h ⊢
          split at h <;> (try (cases h; done))
          rename_i kx x d hfr hdd
          try simp only [hfr, hdd]
          cases hcond : (blkHere x (H.new x) H.nxt && (H.get H.nxt).isNone && (PT.get TD (tset T fr.n d (kx.mk H.nxt)) d).isSome)
          · rw [hcond] at h; cases h
          · rw [hcond] at h
            simp only [cond_true] at h ⊢
            exact ih _ _ _ _ _ _ _ _ _ h
        · rw [hl] at h
          simp only [cond_true] at h ⊢
          split at h <;> (try (cases h; done))
          rename_i v hv
          try simp only [hv]
          exact ih _ _ _ _ _ _ _ _ _ h
      · cases h
    · rename_i hf
      try simp only [hf]
      split at h
      · rename_i h1
        cases h
        simp only
      · rename_i j h1
        try simp only [h1]
        split at h <;> (try (cases h; done))
        rename_i o ho
        try simp only [ho]
        split at h <;> (try (cases h; done))
        rename_i hw
        try simp only [hw]
        split at h <;> (try (cases h; done))
        · rename_i a1 B1 H1 hrun
          rw [runOp_app hrun hk hr]
          simp only
          cases hrc : (hs.filter fun i => !(ms.getD j 0).testBit i).all (recheck C ops (tput T fr.n o.dst a1) H1)
          · rw [hrc] at h; cases h
          · rw [hrc] at h
            simp only [cond_true] at h ⊢
            exact ih _ _ _ _ _ _ _ _ _ h
        · rename_i ch B1 H1 hrun
          rw [runOp_app hrun hk hr]
          cases h
          rfl
      · rename_i j1 j2 h1
        try simp only [h1]
        split at h <;> (try (cases h; done))
        rename_i h12
        cases h
        simp only
      · cases h

section
variable (hC : CxOK C) (hcb : CBOK C cb) {F : FI}
include hC hcb

/-- the next operation -/
theorem ExOps.cons {ops : Array Oper} {i : Nat} {l : List Nat} {o : Oper} {s s1 s' : DS} {n : AN} {H1 : AH} {r : Out} (hoi : ops[i]? = some o) (hw : awanted ops s.T o = some true) (ha : aop C (aev C s.T) s.H o = some (n, H1))
    (hn : doAN C cb F o { s with H := H1 } n = some (.norm, s1)) (h : ExOps C F ops l s1 r s') : ExOps C F ops (i :: l) s r s' := by
  intro R k M' hk
  have h := h R k M' hk
  have step : ∀ {X : AM}, aoper C (mkF F s (.inRegion ops (i :: l) :: k)) (s.B ++ R) H1 n = some X → Sim C X M' → Sim C (mkM F s R (.inRegion ops (i :: l) :: k)) M' := fun {X} hX hs =>
    Sim.head0 hC (M1 := X) (by simp only [astep, mkM]; show acode _ _ _ _ _ = _; simp only [acode, mkF, hoi, hw] at hX ⊢; simp only [ha]; exact hX) hs
  have fin : ∀ a, afin (mkF F s (.inRegion ops (i :: l) :: k)) a = mkF F { s with T := tput s.T F.n o.dst a } (.inRegion ops l :: k) := fun a => by simp [afin, mkF, hoi]
  unfold doAN at hn
  cases n with
  | val a => cases hn; exact step (by simp only [aoper, fin]; rfl) h
  | skip => cases hn; exact step (by simp only [aoper, fin]; rfl) h
  | known f a => cases hn; exact step (by simp only [aoper, fin]; rfl) h
  | enter f args =>
    simp only at hn
    split at hn <;> (try (cases hn; done))
    rename_i a H2 hcall
    cases hn
    obtain ⟨g, hg, hs⟩ := call_ok hC hcb hcall
    refine step (X := { st := g :: mkF F s (.inRegion ops (i :: l) :: k) :: (s.B ++ R), H := H1 }) (by simp only [aoper, hg]) ((hs _ _ rfl).trans ?_)
    simp only [backTo, fin]
    exact h
  | round id args =>
    simp only at hn
    split at hn <;> (try (cases hn; done))
    rename_i a H2 hcall
    cases hn
    obtain ⟨g, hg, hs⟩ := hcb.round hcall
    refine step (X := { st := g :: mkF F s (.inRegion ops (i :: l) :: k) :: (s.B ++ R), H := H1 }) (by simp only [aoper, hg]) ((hs _ _ rfl).trans ?_)
    simp only [backTo, fin]
    exact h
  | defer d =>
    simp only at hn
    split at hn <;> (try (cases hn; done))
    rename_i hro
    cases hn
    refine step (X := mkM F { s with T := tput s.T F.n o.dst undefA, D := d :: s.D, H := H1 } R (.inRegion ops l :: k)) ?_ h
    simp only [aoper, mkF, hro, afin, hoi, mkM]
  | recover =>
    simp only at hn
    split at hn <;> (try (cases hn; done))
    rename_i v B hrec
    cases hn
    refine step (X := mkM F { s with T := tput s.T F.n o.dst v, B := B, H := H1 } R (.inRegion ops l :: k)) ?_ h
    have := recover_app (fr' := mkF F s (.inRegion ops (i :: l) :: k)) (R := R) hrec rfl rfl
    simp only [aoper, this, fin]
    rfl
  | panic a => cases hn

/-- an operation that ends the region by a panic -/
theorem ExOps.pan {ops : Array Oper} {i : Nat} {l : List Nat} {o : Oper} {s s' : DS} {n : AN} {H1 : AH} {r : Out} (hoi : ops[i]? = some o) (hw : awanted ops s.T o = some true) (ha : aop C (aev C s.T) s.H o = some (n, H1))
    (hn : doAN C cb F o { s with H := H1 } n = some (r, s')) (hr : r ≠ .norm) : ExOps C F ops (i :: l) s r s' := by
  intro R k M' hk
  have step : ∀ {X : AM}, aoper C (mkF F s (.inRegion ops (i :: l) :: k)) (s.B ++ R) H1 n = some X → Sim C X M' → Sim C (mkM F s R (.inRegion ops (i :: l) :: k)) M' := fun {X} hX hs =>
    Sim.head0 hC (M1 := X) (by simp only [astep, mkM]; show acode _ _ _ _ _ = _; simp only [acode, mkF, hoi, hw] at hX ⊢; simp only [ha]; exact hX) hs
  unfold doAN at hn
  cases n with
  | val a => cases hn; exact absurd rfl hr
  | skip => cases hn; exact absurd rfl hr
  | known f a => cases hn; exact absurd rfl hr
  | enter f args =>
    simp only at hn
    split at hn <;> (try (cases hn; done))
    · cases hn; exact absurd rfl hr
    · rename_i ch H2 hcall
      cases hn
      obtain ⟨g, hg, hs⟩ := call_ok hC hcb hcall
      refine step (X := { st := g :: mkF F s (.inRegion ops (i :: l) :: k) :: (s.B ++ R), H := H1 }) (by simp only [aoper, hg]) ((hs _ _ rfl).trans ?_)
      simp only [backTo, araise, mkF]
      exact Sim.todo (a := mkL F s (.pan ch)) (by simp [mkL]) rfl hk
  | round id args =>
    simp only at hn
    split at hn <;> (try (cases hn; done))
    · cases hn; exact absurd rfl hr
    · rename_i ch H2 hcall
      cases hn
      obtain ⟨g, hg, hs⟩ := hcb.round hcall
      refine step (X := { st := g :: mkF F s (.inRegion ops (i :: l) :: k) :: (s.B ++ R), H := H1 }) (by simp only [aoper, hg]) ((hs _ _ rfl).trans ?_)
      simp only [backTo, araise, mkF]
      exact Sim.todo (a := mkL F s (.pan ch)) (by simp [mkL]) rfl hk
  | defer d =>
    simp only at hn
    split at hn <;> (try (cases hn; done))
    cases hn; exact absurd rfl hr
  | recover =>
    simp only at hn
    split at hn <;> (try (cases hn; done))
    cases hn; exact absurd rfl hr
  | panic a =>
    cases hn
    refine step (X := { st := araise (mkF F s (.inRegion ops (i :: l) :: k)) [(a, false)] :: (s.B ++ R), H := H1 }) (by simp only [aoper]) ?_
    simp only [araise, mkF]
    exact Sim.todo (a := mkL F s (.pan [(a, false)])) (by simp [mkL]) rfl hk

omit hcb in
theorem ExOps.nil {ops : Array Oper} {s : DS} : ExOps C F ops [] s .norm s := fun R k M' h =>
  Sim.head0 hC (M1 := mkM F s R k) (by simp [astep, mkM, mkF, acode]) h
omit hcb in
theorem ExOps.skip {ops : Array Oper} {i : Nat} {l : List Nat} {o : Oper} {s s' : DS} {r : Out} (hoi : ops[i]? = some o) (hw : awanted ops s.T o = some false) (h : ExOps C F ops l { s with T := tput s.T F.n o.dst undefA } r s') : ExOps C F ops (i :: l) s r s' := fun R k M' hk =>
  Sim.head0 hC (M1 := mkM F { s with T := tput s.T F.n o.dst undefA } R (.inRegion ops l :: k)) (by simp [astep, mkM, mkF, acode, hoi, hw, afin]) (h R k M' hk)
omit hcb in
theorem ExOps.gone {ops : Array Oper} {i : Nat} {l : List Nat} {s s' : DS} {r : Out} (hoi : ops[i]? = none) (h : ExOps C F ops l s r s') : ExOps C F ops (i :: l) s r s' := fun R k M' hk =>
  Sim.head0 hC (M1 := mkM F s R (.inRegion ops l :: k)) (by simp [astep, mkM, mkF, acode, hoi]) (h R k M' hk)

theorem execOps_ok {ops : Array Oper} : ∀ (l : List Nat) (s : DS) (o : Out) (s' : DS), execOps C cb F ops l s = some (o, s') → ExOps C F ops l s o s'
  | [], s, o, s', h => by simp only [execOps, Option.some.injEq, Prod.mk.injEq] at h; obtain ⟨rfl, rfl⟩ := h; exact .nil hC
  | i :: l, s, o, s', h => by
    simp only [execOps] at h
    split at h
    · rename_i hoi; exact .gone hC hoi (execOps_ok l _ _ _ h)
    · rename_i op hoi
      split at h <;> (try (cases h; done))
      · rename_i hw; exact .skip hC hoi hw (execOps_ok l _ _ _ h)
      · rename_i hw
        split at h <;> (try (cases h; done))
        rename_i n H1 ha
        split at h
        · rename_i s1 hn; exact .cons hC hcb hoi hw ha hn (execOps_ok l _ _ _ h)
        · rename_i hn
          refine .pan hC hcb hoi hw ha h ?_
          intro e
          subst e
          exact hn _ h

omit hcb in
theorem Ex.region {id : Nat} {ops : Array Oper} {s s' : DS} {o : Out} (h : ExOps C F ops (List.range ops.size) s o s') : Ex C F (.region id ops false) s o s' := fun R k M' hk =>
  Sim.head0 hC (M1 := mkM F s R (.inRegion ops (List.range ops.size) :: k)) (by simp [astep, mkM, mkF, acode]) (h R k M' hk)

theorem Ex.draw_val {id : Nat} {ops : Array Oper} {s : DS} {a : AV} {T : PT AV} {B : List AF} {H : AH} (hap : apartOK ops = true) (h : drawRun C cb.sub (mkF F s []) (masks ops) ops (ops.size + 1) [] [] s.T s.B s.H = some (.val a, T, B, H)) :
    Ex C F (.region id ops true) s .norm { s with T := T, B := B, H := H } := by
  intro R k M' hk
  have h1 := drawRun_app (fr := mkF F s []) (fr' := mkF F s (.code (.region id ops true) :: k)) (R := R) rfl rfl rfl _ _ _ _ _ _ _ _ _ _ h
  refine Sim.head hC (sub_ok hcb) (M1 := mkM F { s with T := T, B := B, H := H } R k) ?_ hk
  simp only [astep, mkM]
  show acode _ _ _ _ _ = _
  simp only [mkF] at h1
  simp only [acode, mkF, hap, h1]
  rfl

theorem Ex.draw_pan {id : Nat} {ops : Array Oper} {s : DS} {ch : List (AV × Bool)} {T : PT AV} {B : List AF} {H : AH} (hap : apartOK ops = true) (h : drawRun C cb.sub (mkF F s []) (masks ops) ops (ops.size + 1) [] [] s.T s.B s.H = some (.panic ch, T, B, H)) :
    Ex C F (.region id ops true) s (.pan ch) { s with T := .lf, B := B, H := H } := by
  intro R k M' hk
  have h1 := drawRun_app (fr := mkF F s []) (fr' := mkF F s (.code (.region id ops true) :: k)) (R := R) rfl rfl rfl _ _ _ _ _ _ _ _ _ _ h
  refine Sim.head hC (sub_ok hcb) (M1 := { st := { mkF F s (.code (.region id ops true) :: k) with mode := .pan ch, tmps := .lf } :: (B ++ R), H := H }) ?_ (Sim.todo (a := mkL F { s with T := .lf } (.pan ch)) (by simp [mkL]) rfl hk)
  simp only [astep, mkM]
  show acode _ _ _ _ _ = _
  simp only [mkF] at h1
  simp only [acode, mkF, hap, h1]
  rfl
end
end
end Go.Am

namespace Go.Am
section
variable {C : Cx} {cb : CB}

theorem iter_ok (hC : CxOK C) {F : FI} {b : Code} {f : DS → Option (Out × DS)} (hf : ∀ s o s', f s = some (o, s') → Ex C F b s o s') : ∀ (n : Nat) (s : DS) (o : Out) (s' : DS), iter f n s = some (o, s') → ExLoop C F b s o s'
  | 0, _, _, _, h => by simp [iter] at h
  | n + 1, s, o, s', h => by
    simp only [iter] at h
    split at h
    · rename_i s1 h1; exact .back hC (hf _ _ _ h1) (iter_ok hC hf n _ _ _ h)
    · rename_i hn; exact .out (hf _ _ _ h) (by intro e; subst e; exact hn _ h)

theorem execRF_ok (hC : CxOK C) (hcb : CBOK C cb) {F : FI} {f : Operand} {ps : Array Tmp} {asg body : Code} {s s' : DS} {o : Out} (h : execRF C cb F f ps asg body s = some (o, s')) : Ex C F (.rangeFunc f ps asg body) s o s' := by
  intro R k M' hk
  -- behind the start
  have tail : ∀ (g : FuncId) (gf : AF) (df id : Nat) (D : List ADef) (H0 : AH) (r : CR) (H1 : AH),
      aenter C g ([] : List AV) .normal = aenter C g [] .normal →
      (∀ (fr : AF) B, fr.mode = .run → Sim C { st := gf :: fr :: B, H := H0 } (backTo fr B H1 r)) →
      (match (some (r, H1) : Option (CR × AH)) with
        | some (.pan ch, H) => some (Out.pan ch, { s with D := D, H := H })
        | some (.val _, H) => (match H.get id with
          | some (.loop l) => (match l.state with
            | .busy => none
            | _ => (match l.pending with
              | none => some (.norm, { s with D := D, H := H.put id (.loop { l with state := .exhausted }) })
              | some c => (match outOf c with
                | some o => some (o, { s with D := D, H := H.put id (.loop { l with state := .exhausted }) })
                | none => none)))
          | _ => none)
        | none => none) = some (o, s') →
      Sim C { st := gf :: mkF F { s with D := D } (.inRF id :: k) :: (s.B ++ R), H := H0 } M' := by
    intro g gf df id D H0 r H1 _ hsim hres
    refine (hsim _ _ rfl).trans ?_
    split at hres <;> (try (cases hres; done))
    · rename_i ch H e
      cases e
      cases hres
      simp only [backTo, araise, mkF]
      exact Sim.todo (a := mkL F { s with D := D } (.pan ch)) (by simp [mkL]) rfl hk
    · rename_i v H e
      cases e
      simp only [backTo, afin, mkF]
      split at hres <;> (try (cases hres; done))
      rename_i l hl
      split at hres <;> (try (cases hres; done))
      rename_i hst
      split at hres
      · rename_i hp
        cases hres
        refine Sim.head0 hC (M1 := mkM F { s with D := D, H := H1.put id (.loop { l with state := .exhausted }) } R k) ?_ hk
        simp only [astep, acode, hl, hp, mkM, mkF]
      · rename_i c hp
        split at hres <;> (try (cases hres; done))
        rename_i o' hoc
        cases hres
        have hx : Ex C F c { s with D := D, H := H1.put id (.loop { l with state := .exhausted }) } o { s with D := D, H := H1.put id (.loop { l with state := .exhausted }) } := by
          unfold outOf at hoc
          split at hoc <;> (try (cases hoc; done))
          · cases hoc; exact .ret hC
          · cases hoc; exact .exit hC
        refine Sim.head0 hC (M1 := mkM F { s with D := D, H := H1.put id (.loop { l with state := .exhausted }) } R (.code c :: k)) ?_ (hx R k M' hk)
        simp only [astep, acode, hl, hp, mkM, mkF]
  unfold execRF at h
  split at h <;> (try (cases h; done))
  rename_i g first cap hev
  simp only at h
  split at h
  · rename_i hro
    split at h <;> (try (cases h; done))
    rename_i hX
    cases hc : cb.call C g (first ++ [.yld (s.H.nxt + 1)] ++ cap) ((s.H.new .dfr).new (.loop { state := .ready, pending := none, fn := F.fn, tmps := s.T, n := F.n, params := ps, assign := asg, body := body, defers := s.H.nxt })) with
    | none => rw [hc] at h; cases h
    | some rh =>
      obtain ⟨r, H1⟩ := rh
      rw [hc] at h
      obtain ⟨gf, hgf, hsim⟩ := call_ok hC hcb hc
      have ht := tail g gf s.H.nxt (s.H.nxt + 1) (.coll s.H.nxt :: s.D) _ r H1 rfl hsim h
      refine Sim.head0 hC ?_ ht
      have hn : (s.H.new .dfr).nxt = s.H.nxt + 1 := rfl
      simp only [astep, mkM, mkF, acode, arangeF, hro, hev, hX, hn, hgf]
  · rename_i id0 hro
    split at h <;> (try (cases h; done))
    rename_i l0 hl0
    split at h <;> (try (cases h; done))
    rename_i hX
    cases hc : cb.call C g (first ++ [.yld s.H.nxt] ++ cap) (s.H.new (.loop { state := .ready, pending := none, fn := F.fn, tmps := s.T, n := F.n, params := ps, assign := asg, body := body, defers := l0.defers })) with
    | none => rw [hc] at h; cases h
    | some rh =>
      obtain ⟨r, H1⟩ := rh
      rw [hc] at h
      obtain ⟨gf, hgf, hsim⟩ := call_ok hC hcb hc
      have ht := tail g gf l0.defers s.H.nxt s.D _ r H1 rfl hsim h
      refine Sim.head0 hC ?_ ht
      simp only [astep, mkM, mkF, acode, arangeF, hro, hev, hX, hl0, hgf]

theorem exec_ok (hC : CxOK C) (hcb : CBOK C cb) {n : Nat} {F : FI} : ∀ (c : Code) (s : DS) (o : Out) (s' : DS), exec C cb n F c s = some (o, s') → Ex C F c s o s'
  | .skip, s, o, s', h => by simp only [exec, Option.some.injEq, Prod.mk.injEq] at h; obtain ⟨rfl, rfl⟩ := h; exact .skip hC
  | .label _, s, o, s', h => by simp only [exec, Option.some.injEq, Prod.mk.injEq] at h; obtain ⟨rfl, rfl⟩ := h; exact .label hC
  | .region _ ops false, s, o, s', h => .region hC (execOps_ok hC hcb _ _ _ _ (by simpa only [exec] using h))
  | .region _ ops true, s, o, s', h => by
    simp only [exec] at h
    cases hap : apartOK ops
    · rw [hap] at h; cases h
    · rw [hap] at h
      simp only [cond_true] at h
      split at h <;> (try (cases h; done))
      · rename_i hd; cases h; exact .draw_val hC hcb hap hd
      · rename_i hd; cases h; exact .draw_pan hC hcb hap hd
  | .seq a b, s, o, s', h => by
    simp only [exec] at h
    split at h
    · rename_i s1 h1; exact .seq hC (exec_ok hC hcb a _ _ _ h1) (exec_ok hC hcb b _ _ _ h)
    · rename_i hn; exact .seq_out hC (exec_ok hC hcb a _ _ _ h) (by intro e; subst e; exact hn _ h)
  | .cond c a b, s, o, s', h => by
    simp only [exec] at h
    split at h <;> (try (cases h; done))
    · rename_i hc; exact .cond_true hC hc (exec_ok hC hcb a _ _ _ h)
    · rename_i hc; exact .cond_false hC hc (exec_ok hC hcb b _ _ _ h)
  | .block id b, s, o, s', h => by
    simp only [exec] at h
    split at h
    · rename_i i s1 h1
      cases hi : (id == i)
      · rw [hi] at h
        cases h
        exact .block_out hC (exec_ok hC hcb b _ _ _ h1) (by simp) (by simp only [ne_eq, Out.exit.injEq]; intro e; subst e; simp at hi)
      · rw [hi] at h
        cases h
        obtain rfl : id = i := by simpa using hi
        exact .block_exit hC (exec_ok hC hcb b _ _ _ h1)
    · rename_i hn
      cases o with
      | norm => exact .block_norm hC (exec_ok hC hcb b _ _ _ h)
      | exit i => exact absurd h (hn _ _)
      | ret => exact .block_out hC (exec_ok hC hcb b _ _ _ h) (by simp) (by simp)
      | pan ch => exact .block_out hC (exec_ok hC hcb b _ _ _ h) (by simp) (by simp)
  | .loop b, s, o, s', h => .loop hC (iter_ok hC (exec_ok hC hcb b) n _ _ _ (by simpa only [exec] using h))
  | .scope b, s, o, s', h => .scope hC (exec_ok hC hcb b _ _ _ (by simpa only [exec] using h))
  | .exit id, s, o, s', h => by simp only [exec, Option.some.injEq, Prod.mk.injEq] at h; obtain ⟨rfl, rfl⟩ := h; exact .exit hC
  | .ret, s, o, s', h => by simp only [exec, Option.some.injEq, Prod.mk.injEq] at h; obtain ⟨rfl, rfl⟩ := h; exact .ret hC
  | .rangeFunc f ps asg body, s, o, s', h => execRF_ok hC hcb (by simpa only [exec] using h)
  | .goto _, _, _, _, h => by simp [exec] at h
  | .refuse _, _, _, _, h => by simp [exec] at h

theorem unwindD_ok (hC : CxOK C) (hcb : CBOK C cb) (R : List AF) : ∀ (k : Nat) (g : AF) (B : List AF) (H : AH) (g' : AF) (B' : List AF) (H' : AH), unwindD C cb k g B H = some (g', B', H') → g.mode ≠ .run → g.roundOf = none →
    Sim C { st := g :: (B ++ R), H := H } { st := g' :: (B' ++ R), H := H' } ∧ g'.mode ≠ .run ∧ g'.defers = [] ∧ g'.roundOf = none ∧ g'.kind = g.kind ∧ g'.fn = g.fn
  | 0, _, _, _, _, _, _, h, _, _ => by simp [unwindD] at h
  | k + 1, g, B, H, g', B', H', h, hm, hro => by
    have hstep : ∀ X, aunwind C g (B ++ R) H = some X → Sim C { st := g :: (B ++ R), H := H } X := fun X hX => Sim.of_step hC .none (by
      simp only [astep]
      cases hg : g.mode with
      | run => exact absurd hg hm
      | ret => exact hX
      | pan ch => exact hX)
    simp only [unwindD] at h
    split at h
    · rename_i hd
      cases h
      exact ⟨.refl _, hm, hd, hro, rfl, rfl⟩
    · rename_i id ds hd
      split at h <;> (try (cases h; done))
      rename_i hid
      obtain ⟨h1, h2, h3, h4, h5, h6⟩ := unwindD_ok hC hcb R k { g with defers := ds } B _ g' B' H' h hm hro
      exact ⟨(hstep _ (by simp only [aunwind, hd, hid])).trans h1, h2, h3, h4, h5, h6⟩
    · rename_i f args ds hd
      split at h <;> (try (cases h; done))
      rename_i d hX hent
      split at h <;> (try (cases h; done))
      rename_i d' g1 H1 hfr
      obtain ⟨e1, e2, e3, e4, e5, _⟩ := hcb.frame hfr
      have e1 := e1 (B ++ R)
      simp only [List.cons_append, List.nil_append] at e1
      have ek : d'.kind = .deferred := by rw [e5, (enter_kind hent).1]
      have h0 := (hstep { st := d :: { g with defers := ds } :: (B ++ R), H := H } (by simp only [aunwind, hd, hX, hent])).trans e1
      cases hok : okLeft g g1
      · rw [hok] at h; cases h
      rw [hok] at h
      simp only [cond_true] at h
      simp only [okLeft, Bool.and_eq_true, Option.isNone_iff_eq_none] at hok
      obtain ⟨⟨⟨o0, o1⟩, o2⟩, o3⟩ := hok
      have hf1 : g1.fn = g.fn := (Nat.eq_of_beq_eq_true o0).symm
      have hm1 : g1.mode ≠ .run := by intro e; rw [e] at o1; cases o1
      have hk1 : g1.kind = g.kind := by
        split at o3 <;> (try (cases o3; done))
        · rename_i a b; rw [a, b]
        · rename_i a b; rw [a, b]
      split at h <;> (try (cases h; done))
      · rename_i hdm
        split at h <;> (try (cases h; done))
        rename_i v hv
        have q : (settleA g1).mode ≠ .run ∧ (settleA g1).roundOf = none ∧ (settleA g1).kind = g.kind ∧ (settleA g1).fn = g.fn := by
          unfold settleA
          split
          · exact ⟨by simp, o2, hk1, hf1⟩
          · exact ⟨hm1, o2, hk1, hf1⟩
        obtain ⟨q1, q2, q3, q4⟩ := q
        obtain ⟨h1, h2, h3, h4, h5, h6⟩ := unwindD_ok hC hcb R k _ B H1 g' B' H' h q1 q2
        refine ⟨(h0.trans (Sim.of_step hC .none ?_)).trans h1, h2, h3, h4, by rw [h5, q3], by rw [h6, q4]⟩
        simp only [astep, hdm, aunwind, e3, e4, hv, areturn, ek]
        rfl
      · rename_i ch hdm
        split at h <;> (try (cases h; done))
        rename_i fn hfn
        have q : (araise g1 ch).mode ≠ .run ∧ (araise g1 ch).roundOf = none ∧ (araise g1 ch).kind = g.kind ∧ (araise g1 ch).fn = g.fn := by
          unfold araise
          split
          · exact ⟨by simp, o2, hk1, hf1⟩
          · exact ⟨by simp, o2, hk1, hf1⟩
        obtain ⟨q1, q2, q3, q4⟩ := q
        obtain ⟨h1, h2, h3, h4, h5, h6⟩ := unwindD_ok hC hcb R k _ B H1 g' B' H' h q1 q2
        refine ⟨(h0.trans (Sim.of_step hC .none ?_)).trans h1, h2, h3, h4, by rw [h5, q3], by rw [h6, q4]⟩
        simp only [astep, hdm, aunwind, e3, hfn]

theorem frameD_ok (hC : CxOK C) (hcb : CBOK C cb) {n : Nat} {g : AF} {B : List AF} {H : AH} {g' : AF} {B' : List AF} {H' : AH} (h : frameD C cb n g B H = some (g', B', H')) :
    (∀ R, Sim C { st := g :: (B ++ R), H := H } { st := g' :: (B' ++ R), H := H' }) ∧ g'.mode ≠ .run ∧ g'.defers = [] ∧ g'.roundOf = none ∧ g'.kind = g.kind ∧ g'.fn = g.fn := by
  unfold frameD at h
  split at h <;> (try (cases h; done))
  rename_i c ht hm hro
  simp only at h
  have hg : ∀ R, ({ st := g :: (B ++ R), H := H } : AM) = mkM { fn := g.fn, n := g.n, kind := g.kind, roundOf := none } { T := g.tmps, D := g.defers, B := B, H := H } R [.code c] := by
    intro R
    obtain ⟨a1, a2, a3, a4, a5, a6, a7, a8⟩ := g
    simp only at ht hm hro
    subst ht hm hro
    rfl
  have key : ∀ (s : DS) (m : AMode) (o : Out), exec C cb n { fn := g.fn, n := g.n, kind := g.kind, roundOf := none } c { T := g.tmps, D := g.defers, B := B, H := H } = some (o, s) → m ≠ .run →
      (∀ R M', Sim C { st := mkL { fn := g.fn, n := g.n, kind := g.kind, roundOf := none } s m :: (s.B ++ R), H := s.H } M' → Cont C { fn := g.fn, n := g.n, kind := g.kind, roundOf := none } R [] M' o s) →
      unwindD C cb n (mkL { fn := g.fn, n := g.n, kind := g.kind, roundOf := none } s m) s.B s.H = some (g', B', H') →
      (∀ R, Sim C { st := g :: (B ++ R), H := H } { st := g' :: (B' ++ R), H := H' }) ∧ g'.mode ≠ .run ∧ g'.defers = [] ∧ g'.roundOf = none ∧ g'.kind = g.kind ∧ g'.fn = g.fn := by
    intro s m o he hm' hcont hu
    have hr := fun R => unwindD_ok hC hcb R n _ _ _ _ _ _ hu hm' rfl
    refine ⟨fun R => ?_, (hr []).2⟩
    rw [hg R]
    exact exec_ok hC hcb c _ _ _ he R [] _ (hcont R _ (hr R).1)
  split at h <;> (try (cases h; done))
  · rename_i s he
    exact key s .ret .norm he (by simp) (fun R M' hs => Sim.head0 hC (M1 := { st := mkL { fn := g.fn, n := g.n, kind := g.kind, roundOf := none } s .ret :: (s.B ++ R), H := s.H }) (by simp [astep, mkM, mkF, acode, aleave, mkL]) hs) h
  · rename_i s he
    exact key s .ret .ret he (by simp) (fun R M' hs => ⟨{ st := mkL { fn := g.fn, n := g.n, kind := g.kind, roundOf := none } s .ret :: (s.B ++ R), H := s.H }, by simp [mkF, aleave, mkL], hs⟩) h
  · rename_i ch s he
    exact key s (.pan ch) (.pan ch) he (by simp) (fun R M' hs => hs) h

theorem roundD_ok (hC : CxOK C) (hcb : CBOK C cb) {n id : Nat} {args : List AV} {H : AH} {r : CR} {H' : AH} (h : roundD C cb n id args H = some (r, H')) :
    ∃ g, around H id args = some g ∧ ∀ (fr : AF) B, fr.mode = .run → Sim C { st := g :: fr :: B, H := H } (backTo fr B H' r) := by
  unfold roundD at h
  split at h <;> (try (cases h; done))
  rename_i l hl
  split at h <;> (try (cases h; done))
  rename_i hsz
  refine ⟨_, by simp only [around, hl, hsz, if_true]; rfl, fun fr B hfm => ?_⟩
  simp only at h
  split at h <;> (try (cases h; done))
  rename_i s1 h1
  split at h <;> (try (cases h; done))
  rename_i l1 hl1
  split at h <;> (try (cases h; done))
  rename_i hst
  split at h <;> (try (cases h; done))
  rename_i o T3 H3 h3
  have hs1 := exec_ok hC hcb _ _ _ _ h1 (fr :: B) [.beginRound, .code l.body]
  have hs3 := exec_ok hC hcb _ _ _ _ h3 (fr :: B) []
  refine hs1 (backTo fr B H' r) (Sim.head0 hC (M1 := mkM { fn := l.fn, n := l.n, kind := .normal, roundOf := some id } { s1 with H := s1.H.put id (.loop { l1 with state := .busy }) } (fr :: B) [.code l.body]) ?_ (hs3 _ ?_))
  · simp only [astep, mkM, mkF, acode, hl1, hst]
  · have fin : ∀ (jump : Option Code), (match H3.get id with
          | some (.loop l3) => some (CR.val (.b jump.isNone), H3.put id (.loop { l3 with state := if jump.isNone then .ready else .done, pending := jump }))
          | _ => none) = some (r, H') →
        ∃ X, aleave (mkF { fn := l.fn, n := l.n, kind := .normal, roundOf := some id } { T := T3, D := [], B := [], H := H3 } []) ([] ++ fr :: B) H3 jump = some X ∧ Sim C X (backTo fr B H' r) := by
      intro jump hj
      split at hj <;> (try (cases hj; done))
      rename_i l3 hl3
      cases hj
      exact ⟨{ st := afin fr (.b jump.isNone) :: B, H := H3.put id (.loop { l3 with state := if jump.isNone then .ready else .done, pending := jump }) }, by simp only [aleave, mkF, hl3, areturn, List.nil_append, hfm], .refl _⟩
    cases o with
    | norm =>
      obtain ⟨X, x1, x2⟩ := fin none h
      exact Sim.head0 hC (M1 := X) (by simp only [astep, mkM]; show acode _ _ _ _ _ = _; simp only [acode, mkF] at x1 ⊢; exact x1) x2
    | ret => exact fin (some .ret) h
    | exit i => exact fin (some (.exit i)) h
    | pan ch =>
      simp only at h
      split at h <;> (try (cases h; done))
      rename_i fn hfn
      cases h
      refine Sim.of_step hC .none ?_
      simp only [mkL, astep, aunwind, hfn, List.nil_append, backTo]

theorem cbs_ok (hC : CxOK C) : ∀ n, CBOK C (cbs C n)
  | 0 => ⟨fun h => by simp [cbs] at h, fun h => by simp [cbs] at h⟩
  | n + 1 => ⟨fun h => frameD_ok hC (cbs_ok hC n) h, fun h => roundD_ok hC (cbs_ok hC n) h⟩
end
end Go.Am
