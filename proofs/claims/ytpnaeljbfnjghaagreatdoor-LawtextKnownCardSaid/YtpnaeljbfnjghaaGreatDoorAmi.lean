/-
  A long run of the abstract machine, cut in pieces: each piece ends in a machine that is written down. (Conditions: CxOK.)
-/
import Derived.Test.YtpnaeljbfnjghaaGreatDoorAmg
import Derived.Test.YtpnaeljbfnjghaaGreatDoorAmh
namespace Go.Am

/-! # A long run, cut in pieces -/
section
variable (C : Cx) (cb : CB) (S : List FuncId)

/-- a call of a function that is not listed is taken whole -/
def bcall (M : AM) : Option AM :=
  match M.st with
  | [] => none
  | fr :: below => match fr.mode, fr.todo with
    | .run, .inRegion ops (i :: _) :: _ => (match ops[i]? with
      | none => none
      | some o => (match awanted ops fr.tmps o, o.op with
        | some true, .call _ => (match aop C (aev C fr.tmps) M.H o with
          | some (.enter f args, H) => cond (S.contains f) none (match cb.call C f args H with
            | some (r, H') => some (backTo fr below H' r)
            | none => none)
          | _ => none)
        | _, _ => none))
    | _, _ => none
def bstep (M : AM) : Option AM := match bcall C cb S M with | some M' => some M' | none => astep C cb.sub M
def brun : Nat → AM → Option AM
  | 0, M => some M
  | n + 1, M => match bstep C cb S M with | some M' => brun n M' | none => none
end

section
variable {C : Cx} {cb : CB} {S : List FuncId}

theorem bcall_ok (hC : CxOK C) (hcb : CBOK C cb) {M M' : AM} (h : bcall C cb S M = some M') : Sim C M M' := by
  obtain ⟨st, H0⟩ := M
  unfold bcall at h
  cases st with
  | nil => cases h
  | cons fr below =>
    simp only at h
    split at h <;> (try (cases h; done))
    rename_i ops i l k hm htd
    split at h <;> (try (cases h; done))
    rename_i o hoi
    split at h <;> (try (cases h; done))
    rename_i c hw ho
    split at h <;> (try (cases h; done))
    rename_i f args H ha
    cases hS : S.contains f
    · rw [hS] at h
      simp only [cond_false] at h
      split at h <;> (try (cases h; done))
      rename_i r H' hc
      cases h
      obtain ⟨g, hg, hs⟩ := call_ok hC hcb hc
      refine Sim.head0 hC (M1 := { st := g :: fr :: below, H := H }) ?_ (hs fr below hm)
      simp only [astep, hm, acode, htd, hoi, hw, ha, aoper, hg]
    · rw [hS] at h; cases h
theorem bstep_ok (hC : CxOK C) (hcb : CBOK C cb) {M M' : AM} (h : bstep C cb S M = some M') : Sim C M M' := by
  unfold bstep at h
  split at h
  · rename_i hb
    cases h
    exact bcall_ok hC hcb hb
  · exact Sim.of_step hC (sub_ok hcb) h
theorem brun_ok (hC : CxOK C) (hcb : CBOK C cb) : ∀ (n : Nat) {M M' : AM}, brun C cb S n M = some M' → Sim C M M'
  | 0, M, M', h => by simp only [brun, Option.some.injEq] at h; subst h; exact .refl _
  | n + 1, M, M', h => by
    simp only [brun] at h
    split at h <;> (try (cases h; done))
    rename_i M1 h1
    exact (bstep_ok hC hcb h1).trans (brun_ok hC hcb n h)
end

/-! ## What is no longer needed is let go -/
def keepT : List Nat → PT AV → PT AV
  | [], _ => .lf
  | t :: ts, T => match PT.get TD T t with
    | some a => PT.set TD (keepT ts T) t (some a)
    | none => keepT ts T
def keepB : List Nat → PT Blk → PT Blk
  | [], _ => .lf
  | t :: ts, T => match PT.get HD T t with
    | some a => PT.set HD (keepB ts T) t (some a)
    | none => keepB ts T
theorem keepT_sub : ∀ (ts : List Nat) (T : PT AV) (t : Nat) (a : AV), PT.get TD (keepT ts T) t = some a → PT.get TD T t = some a
  | [], T, t, a, h => by simp [keepT, PT.get_lf] at h
  | x :: ts, T, t, a, h => by
    simp only [keepT] at h
    split at h
    · rename_i b hb
      rcases PT.get_set_some h with ⟨rfl, h1⟩ | ⟨_, h1⟩
      · rw [hb]; exact h1
      · exact keepT_sub ts T t a h1
    · exact keepT_sub ts T t a h
theorem keepB_sub : ∀ (ts : List Nat) (T : PT Blk) (t : Nat) (a : Blk), PT.get HD (keepB ts T) t = some a → PT.get HD T t = some a
  | [], T, t, a, h => by simp [keepB, PT.get_lf] at h
  | x :: ts, T, t, a, h => by
    simp only [keepB] at h
    split at h
    · rename_i b hb
      rcases PT.get_set_some h with ⟨rfl, h1⟩ | ⟨_, h1⟩
      · rw [hb]; exact h1
      · exact keepB_sub ts T t a h1
    · exact keepB_sub ts T t a h
theorem TR.keep {E : Env} {T : PT AV} {n : Nat} {v : Array Value} (h : TR E T n v) (ts : List Nat) : TR E (keepT ts T) n v := ⟨h.1, fun t a ha => h.2 t a (keepT_sub ts T t a ha)⟩
theorem HR.keep {E : Env} {H : AH} {w : World} (h : HR E H w) (ids : List Nat) : HR E ⟨keepB ids H.blk, H.nxt⟩ w :=
  ⟨fun id x b s n hx hi => h.blks id x b s n (keepB_sub ids _ _ _ hx) hi, fun id id' x x' b p p' hx hx' => h.inj id id' x x' b p p' (keepB_sub ids _ _ _ hx) (keepB_sub ids _ _ _ hx'), h.nxt, h.bnd, h.imm,
    fun id x b p o v hx => h.disj id x b p o v (keepB_sub ids _ _ _ hx), h.N⟩
def keepF : List (List Nat) → List AF → List AF
  | ts :: tss, fr :: st => { fr with tmps := keepT ts fr.tmps } :: keepF tss st
  | _, st => st
theorem FRs.keep {E : Env} : ∀ (tss : List (List Nat)) {st : List AF} {xs : List Frame}, FRs E st xs → FRs E (keepF tss st) xs
  | [], _, _, h => h
  | _ :: _, [], _, h => h
  | ts :: tss, _ :: _, _, h => by
    simp only [FRs] at h
    obtain ⟨x, r, rfl, h1, h2⟩ := h
    exact ⟨x, r, rfl, ⟨h1.fn, h1.tmps.keep ts, h1.todo, h1.defers, h1.mode, h1.kind, h1.roundOf⟩, FRs.keep tss h2⟩
/-- a machine, and what of it is kept -/
def keepM (tss : List (List Nat)) (ids : List Nat) (M : AM) : AM := { st := keepF tss M.st, H := ⟨keepB ids M.H.blk, M.H.nxt⟩ }
theorem Sim.keep {C : Cx} (tss : List (List Nat)) (ids : List Nat) (M : AM) : Sim C M (keepM tss ids M) := fun E fr cs w _ hF hr _ =>
  ⟨E, fr, cs, w, .refl _ _, FRs.keep tss hF, hr.keep ids, .refl E w⟩

/-- a piece of a run -/
def piece (C : Cx) (cb : CB) (S : List FuncId) (n : Nat) (tss : List (List Nat)) (ids : List Nat) (M : AM) : Option AM := match brun C cb S n M with | some M' => some (keepM tss ids M') | none => none
theorem piece_ok {C : Cx} (hC : CxOK C) {d : Nat} {S : List FuncId} {n : Nat} {tss : List (List Nat)} {ids : List Nat} {M M' : AM} (h : piece C (cbsQ C d) S n tss ids M = some M') : Sim C M M' := by
  rw [cbsQ_eq] at h
  unfold piece at h
  split at h <;> (try (cases h; done))
  rename_i M1 h1
  cases h
  exact (brun_ok hC (cbs_ok hC d) n h1).trans (Sim.keep _ _ _)

/-! ## How a machine is written down -/
def mkT : List (Nat × AV) → PT AV
  | [] => .lf
  | (t, a) :: r => PT.set TD (mkT r) t (some a)
def mkB : List (Nat × Blk) → PT Blk
  | [] => .lf
  | (t, a) :: r => PT.set HD (mkB r) t (some a)
/-- a part of a function's code -/
def subC : Code → List Nat → Code
  | c, [] => c
  | .seq a b, p :: ps => if p = 0 then subC a ps else subC b ps
  | .cond _ a b, p :: ps => if p = 0 then subC a ps else subC b ps
  | .block _ b, _ :: ps | .loop b, _ :: ps | .scope b, _ :: ps => subC b ps
  | .rangeFunc _ _ a b, p :: ps => if p = 0 then subC a ps else subC b ps
  | c, _ => c
def codeAt (C : Cx) (f : FuncId) (p : List Nat) : Code := match C.P.funcs[f]? with
  | some fn => (match fn.body with | some c => subC c p | none => .skip)
  | none => .skip
def opsAt (C : Cx) (f : FuncId) (p : List Nat) : Array Oper := match codeAt C f p with
  | .region _ ops _ => ops
  | _ => #[]

/-- the end of a run: the frame that was called first returns true -/
def doneM (C : Cx) (f : FuncId) (M : AM) : Bool :=
  match M.st with
  | [fr] => (match fr.mode, fr.defers, fr.kind, aresults C fr M.H with
    | .ret, [], .normal, some (.b true) => Nat.beq fr.fn f
    | _, _, _, _ => false)
  | _ => false

/-- **A LAW THAT RUNS CLOSED, ITS RUN CUT IN PIECES.** -/
theorem law_calls_cut {C : Cx} (_hC : CxOK C) {f : FuncId} {ts : List TypeId} {vs : Array Value} {w : World} {g : AF} {M : AM} (hg : aenter C f (ts.map (anyArg C.P)) .normal = some g) (hs : Sim C { st := [g], H := ⟨.lf, 0⟩ } M) (hd : doneM C f M = true)
    (hv : VRs (E0 w) (ts.map (anyArg C.P)) vs.toList) (hG : GOK C (E0 w)) : Calls C.P f vs w fun e w' => e = .returned (.bool true) ∧ Kept w w' := by
  intro cs
  have hent := enter_sound (C := C) (E := E0 w) hg hv
  obtain ⟨E', fr', cs', w', s1, s2, s3, s4⟩ := hs (E0 w) (Frame.enter C.P f vs .normal) [] w cs ⟨_, _, rfl, hent, rfl⟩ (hr0 w) hG
  obtain ⟨st, H⟩ := M
  unfold doneM at hd
  simp only at hd
  split at hd <;> (try (cases hd; done))
  rename_i fr
  split at hd <;> (try (cases hd; done))
  rename_i hm hdf hk hres
  simp only [FRs] at s2
  obtain ⟨_, _, e, s2, s5⟩ := s2
  cases e
  subst s5
  obtain ⟨fn, u, r1, r2, r3⟩ := results_sound hres s2 s3
  obtain rfl : u = .bool true := by simpa [VR] using r3
  have m := s2.mode
  have d := s2.defers
  rw [hm] at m
  rw [hdf] at d
  refine ⟨.returned (.bool true), w', fr', ⟨rfl, s4.os, s4.out, s4.size, fun b hb => s4.keep b hb (fun id p h => by simp [E0] at h)⟩, s1, ?_⟩
  exact ⟨by rw [s2.fn]; exact Nat.eq_of_beq_eq_true hd, m, d, by rw [s2.kind, hk], fn, r1, r2⟩
end Go.Am
