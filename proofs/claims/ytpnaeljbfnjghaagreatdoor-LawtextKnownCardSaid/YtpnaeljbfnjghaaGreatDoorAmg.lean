/-
  The same big steps by recursors: operations, code, frames, calls. (Equations; no condition.)
-/
import Derived.Test.YtpnaeljbfnjghaaGreatDoorAmf
/-! Printed by gen_fm3.py: one operation, by recursors. -/
namespace Go.Am

noncomputable def contQ (r : Res) (k : KT) : Res :=
  Option.rec (motive := fun _ => KT → Res) (fun _ => none) (fun p k => Prod.rec (motive := fun _ => KT → Res) (fun o s k => Out.rec (motive := fun _ => DS → KT → Res) (fun s k => DS.rec (motive := fun _ => KT → Res) (fun T D B H k => k T D B H) s k) (fun id s _ => some (.exit id, s)) (fun s _ => some (.ret, s)) (fun ch s _ => some (.pan ch, s)) o s k) p k) r k
def doStep (C : Cx) (cb : CB) (F : FI) (o : Oper) (s : DS) : Res :=
  match aop C (aev C s.T) s.H o with
  | none => none
  | some (n, H) => doAN C cb F o { s with H := H } n
noncomputable def fbkQ (C : Cx) (cb : CB) (F : FI) (_n : Nat) (o : Oper) (_dst : Option Tmp) (T : PT AV) (D : List ADef) (B : List AF) (H : AH) (k : KT) : Res := contQ (doStep C cb F o ⟨T, D, B, H⟩) k
abbrev KO := Cx → CB → FI → Nat → Oper → Option Tmp → PT AV → List ADef → List AF → AH → KT → Res
abbrev KL := Nat → Option Tmp → PT AV → List ADef → List AF → AH → KT → Res
noncomputable def lkQ (r : Option AV) (n : Nat) (dst : Option Tmp) (T : PT AV) (D : List ADef) (B : List AF) (H : AH) (k : KT) : Res :=
  Option.rec (motive := fun _ => KL) (fun _ _ _ _ _ _ _ => none) (fun a n dst T D B H k => k (tputQ T n dst a) D B H) r n dst T D B H k
/-- the number laid in its simplest form -/
noncomputable def forceQ (m : Int) (kd : IntKind) (n : Nat) (dst : Option Tmp) (T : PT AV) (D : List ADef) (B : List AF) (H : AH) (k : KT) : Res :=
  Int.rec (motive := fun _ => IntKind → KL)
    (fun m kd n dst T D B H k => Nat.rec (motive := fun _ => IntKind → KL) (fun kd n dst T D B H k => k (tputQ T n dst (.i kd (.ofNat 0))) D B H) (fun j _ kd n dst T D B H k => k (tputQ T n dst (.i kd (.ofNat (Nat.succ j)))) D B H) m kd n dst T D B H k)
    (fun m kd n dst T D B H k => k (tputQ T n dst (.i kd (.negSucc m))) D B H) m kd n dst T D B H k
theorem forceQ_eq (m : Int) (kd : IntKind) (n : Nat) (dst : Option Tmp) (T : PT AV) (D : List ADef) (B : List AF) (H : AH) (k : KT) : forceQ m kd n dst T D B H k = k (tputQ T n dst (.i kd m)) D B H := by
  cases m with
  | ofNat m => cases m <;> rfl
  | negSucc m => rfl

noncomputable def lkIA (a : AV) (n : Nat) (dst : Option Tmp) (T : PT AV) (D : List ADef) (B : List AF) (H : AH) (k : KT) : Res :=
  AV.rec (motive_1 := fun _ => KL) (motive_2 := fun _ => Unit)
    (fun xb n dst T D B H k => k (tputQ T n dst (.b xb)) D B H)
    (fun kd m n dst T D B H k => forceQ m kd n dst T D B H k)
    (fun bs n dst T D B H k => k (tputQ T n dst (.str bs)) D B H)
    (fun n dst T D B H k => k (tputQ T n dst .nilp) D B H)
    (fun n dst T D B H k => k (tputQ T n dst .nils) D B H)
    (fun n dst T D B H k => k (tputQ T n dst .nilm) D B H)
    (fun n dst T D B H k => k (tputQ T n dst .nilf) D B H)
    (fun n dst T D B H k => k (tputQ T n dst .nili) D B H)
    (fun pid pof n dst T D B H k => k (tputQ T n dst (.ptr pid pof)) D B H)
    (fun sid sof sln sst n dst T D B H k => k (tputQ T n dst (.sl sid sof sln sst)) D B H)
    (fun n dst T D B H k => k (tputQ T n dst .esl) D B H)
    (fun pcs _ n dst T D B H k => k (tputQ T n dst (.ip pcs)) D B H)
    (fun ics iln _ n dst T D B H k => k (tputQ T n dst (.isl ics iln)) D B H)
    (fun mid n dst T D B H k => k (tputQ T n dst (.mp mid)) D B H)
    (fun ff ffs fcp _ _ n dst T D B H k => k (tputQ T n dst (.fn ff ffs fcp)) D B H)
    (fun yid n dst T D B H k => k (tputQ T n dst (.yld yid)) D B H)
    (fun ity ixv _ n dst T D B H k => k (tputQ T n dst (.ifc ity ixv)) D B H)
    (fun acs _ n dst T D B H k => k (tputQ T n dst (.agg acs)) D B H)
    (fun tvs _ n dst T D B H k => k (tputQ T n dst (.tup tvs)) D B H)
    (fun opv n dst T D B H k => k (tputQ T n dst (.op opv)) D B H)
    (fun n dst T D B H k => k (tputQ T n dst .any) D B H)
    () (fun _ _ _ _ => ())
    a n dst T D B H k
theorem lkIA_eq (a : AV) (n : Nat) (dst : Option Tmp) (T : PT AV) (D : List ADef) (B : List AF) (H : AH) (k : KT) : lkIA a n dst T D B H k = k (tputQ T n dst a) D B H := by
  cases a <;> (try rfl)
  exact forceQ_eq _ _ _ _ _ _ _ _ _
noncomputable def lkI (r : Option AV) (n : Nat) (dst : Option Tmp) (T : PT AV) (D : List ADef) (B : List AF) (H : AH) (k : KT) : Res :=
  Option.rec (motive := fun _ => KL) (fun _ _ _ _ _ _ _ => none) lkIA r n dst T D B H k
theorem lkI_eq (r : Option AV) (n : Nat) (dst : Option Tmp) (T : PT AV) (D : List ADef) (B : List AF) (H : AH) (k : KT) : lkI r n dst T D B H k = lkQ r n dst T D B H k := by
  cases r with
  | none => rfl
  | some a => exact lkIA_eq _ _ _ _ _ _ _ _
theorem lkQ_eq (r : Option AV) (F : FI) (dst : Option Tmp) (T : PT AV) (D : List ADef) (B : List AF) (H : AH) (k : KT) :
    lkQ r F.n dst T D B H k = contQ (match r with | some a => some (.norm, { T := tput T F.n dst a, D := D, B := B, H := H }) | none => none) k := by
  cases r with
  | none => rfl
  | some a =>
    show k (tputQ T F.n dst a) D B H = _
    rw [tputQ_eq]
    rfl
theorem doStep_light {C : Cx} {cb : CB} {F : FI} {o : Oper} {s : DS} (hl : lightOp C o = true) : doStep C cb F o s = (match alight C (aev C s.T) s.H o with | some a => some (.norm, { s with T := tput s.T F.n o.dst a }) | none => none) := by
  unfold doStep aop
  rw [hl]
  simp only [cond_true]
  cases alight C (aev C s.T) s.H o <;> rfl
theorem light_ok {C : Cx} {cb : CB} {F : FI} {o : Oper} {T : PT AV} {D : List ADef} {B : List AF} {H : AH} {k : KT} {r : Option AV} (hl : lightOp C o = true) (h : r = alight C (aev C T) H o) :
    lkQ r F.n o.dst T D B H k = contQ (doStep C cb F o ⟨T, D, B, H⟩) k := by
  rw [doStep_light hl, lkQ_eq, h]
/-- laying a new block -/
noncomputable def newQ (x : Blk) (n : Nat) (dst : Option Tmp) (T : PT AV) (D : List ADef) (B : List AF) (H : AH) (k : KT) : Res :=
  AH.rec (motive := fun _ => Blk → Nat → Option Tmp → PT AV → List ADef → List AF → KT → Res) (fun b nx x n dst T D B k => Nat.rec (motive := fun _ => PT Blk → Blk → Nat → Option Tmp → PT AV → List ADef → List AF → KT → Res)
    (fun b x n dst T D B k => k (tputQ T n dst (.ptr 0 0)) D B ⟨sB b (path 0) (some x), 1⟩) (fun j _ b x n dst T D B k => k (tputQ T n dst (.ptr (Nat.succ j) 0)) D B ⟨sB b (path (Nat.succ j)) (some x), Nat.succ (Nat.succ j)⟩) nx b x n dst T D B k) H x n dst T D B k
theorem newQ_eq (x : Blk) (n : Nat) (dst : Option Tmp) (T : PT AV) (D : List ADef) (B : List AF) (H : AH) (k : KT) : newQ x n dst T D B H k = k (tput T n dst (.ptr H.nxt 0)) D B (H.new x) := by
  obtain ⟨b, nx⟩ := H
  have key : newQ x n dst T D B ⟨b, nx⟩ k = k (tputQ T n dst (.ptr nx 0)) D B ⟨sB b (path nx) (some x), Nat.succ nx⟩ := by cases nx <;> rfl
  rw [key, tputQ_eq]
  simp only [AH.new, PT.set, sB_eq]
/-! ## Parts of the operations -/

noncomputable def pickQ (c a b : AV) : Option AV :=
  AV.rec (motive_1 := fun _ => AV → AV → Option AV) (motive_2 := fun _ => Unit)
    (fun xb a b => Bool.rec (motive := fun _ => AV → AV → Option AV) (fun _ b => some b) (fun a _ => some a) xb a b)
    (fun _ _ _ _ => none)
    (fun _ _ _ => none)
    (fun _ _ => none)
    (fun _ _ => none)
    (fun _ _ => none)
    (fun _ _ => none)
    (fun _ _ => none)
    (fun _ _ _ _ => none)
    (fun _ _ _ _ _ _ => none)
    (fun _ _ => none)
    (fun _ _ _ _ => none)
    (fun _ _ _ _ _ => none)
    (fun _ _ _ => none)
    (fun _ _ _ _ _ _ _ => none)
    (fun _ _ _ => none)
    (fun _ _ _ _ _ => none)
    (fun _ _ _ _ => none)
    (fun _ _ _ _ => none)
    (fun _ _ _ => none)
    (fun _ _ => none)
    () (fun _ _ _ _ => ())
    c a b
noncomputable def nilQ (x : AV) : Option AV :=
  AV.rec (motive_1 := fun _ => Option AV) (motive_2 := fun _ => Unit)
    (fun _ => none)
    (fun _ _ => none)
    (fun _ => none)
    (none)
    (none)
    (none)
    (none)
    (none)
    (fun pid pof => some (.ptr pid pof))
    (fun _ _ _ _ => none)
    (none)
    (fun pcs _ => some (.ip pcs))
    (fun _ _ _ => none)
    (fun _ => none)
    (fun ff ffs fcp _ _ => some (.fn ff ffs fcp))
    (fun _ => none)
    (fun _ _ _ => none)
    (fun _ _ => none)
    (fun _ _ => none)
    (fun _ => none)
    (none)
    () (fun _ _ _ _ => ())
    x
noncomputable def notQ (x : AV) : Option AV :=
  AV.rec (motive_1 := fun _ => Option AV) (motive_2 := fun _ => Unit)
    (fun xb => some (.b (notB xb)))
    (fun _ _ => none)
    (fun _ => none)
    (none)
    (none)
    (none)
    (none)
    (none)
    (fun _ _ => none)
    (fun _ _ _ _ => none)
    (none)
    (fun _ _ => none)
    (fun _ _ _ => none)
    (fun _ => none)
    (fun _ _ _ _ _ => none)
    (fun _ => none)
    (fun _ _ _ => none)
    (fun _ _ => none)
    (fun _ _ => none)
    (fun _ => none)
    (none)
    () (fun _ _ _ _ => ())
    x
def faOf (P : Program) (s : TypeId) (f : Nat) : Option Nat :=
  match P.underlying s with
  | some (.struct fs) => (match fieldAt? P fs.toList f with | some (off, _ + 1) => some off | _ => none)
  | _ => none
noncomputable def faQ (off : Option Nat) (x : AV) : Option AV :=
  Option.rec (motive := fun _ => AV → Option AV) (fun _ => none) (fun off x => AV.rec (motive_1 := fun _ => Nat → Option AV) (motive_2 := fun _ => Unit)
    (fun _ _ => none)
    (fun _ _ _ => none)
    (fun _ _ => none)
    (fun _ => none)
    (fun _ => none)
    (fun _ => none)
    (fun _ => none)
    (fun _ => none)
    (fun pid pof off => some (.ptr pid (Nat.add pof off)))
    (fun _ _ _ _ _ => none)
    (fun _ => none)
    (fun pcs _ off => some (.ip (dropQ pcs off)))
    (fun _ _ _ _ => none)
    (fun _ _ => none)
    (fun _ _ _ _ _ _ => none)
    (fun _ _ => none)
    (fun _ _ _ _ => none)
    (fun _ _ _ => none)
    (fun _ _ _ => none)
    (fun _ _ => none)
    (fun _ => none)
    () (fun _ _ _ _ => ())
    x off) off x
def iaOf (P : Program) (t : TypeId) : Option (Option Nat × Nat) :=
  match P.underlying t with
  | some (.array len e) => (match szT P e with | some st => some (some len, st) | none => none)
  | some (.slice e) => (match szT P e with | some st => some (none, st) | none => none)
  | _ => none
noncomputable def iaAQ (len st i : Nat) (x : AV) : Option AV :=
  Bool.rec (motive := fun _ => Option AV) none (
  AV.rec (motive_1 := fun _ => Nat → Nat → Option AV) (motive_2 := fun _ => Unit)
    (fun _ _ _ => none)
    (fun _ _ _ _ => none)
    (fun _ _ _ => none)
    (fun _ _ => none)
    (fun _ _ => none)
    (fun _ _ => none)
    (fun _ _ => none)
    (fun _ _ => none)
    (fun pid pof st i => some (.ptr pid (Nat.add pof (Nat.mul i st))))
    (fun _ _ _ _ _ _ => none)
    (fun _ _ => none)
    (fun pcs _ st i => some (.ip (dropQ pcs (Nat.mul i st))))
    (fun _ _ _ _ _ => none)
    (fun _ _ _ => none)
    (fun _ _ _ _ _ _ _ => none)
    (fun _ _ _ => none)
    (fun _ _ _ _ _ => none)
    (fun _ _ _ _ => none)
    (fun _ _ _ _ => none)
    (fun _ _ _ => none)
    (fun _ _ => none)
    () (fun _ _ _ _ => ())
    x st i) (Nat.blt i len)
noncomputable def iaSQ (st i : Nat) (x : AV) : Option AV :=
  AV.rec (motive_1 := fun _ => Nat → Nat → Option AV) (motive_2 := fun _ => Unit)
    (fun _ _ _ => none)
    (fun _ _ _ _ => none)
    (fun _ _ _ => none)
    (fun _ _ => none)
    (fun _ _ => none)
    (fun _ _ => none)
    (fun _ _ => none)
    (fun _ _ => none)
    (fun _ _ _ _ => none)
    (fun sid sof sln sst st i => Bool.rec (motive := fun _ => Option AV) none (Bool.rec (motive := fun _ => Option AV) none (some (.ptr sid (Nat.add sof (Nat.mul i st)))) (Nat.beq st sst)) (Nat.blt i sln))
    (fun _ _ => none)
    (fun _ _ _ _ => none)
    (fun ics iln _ st i => Bool.rec (motive := fun _ => Option AV) none (some (.ip (dropQ ics (Nat.mul i st)))) (Nat.blt i iln))
    (fun _ _ _ => none)
    (fun _ _ _ _ _ _ _ => none)
    (fun _ _ _ => none)
    (fun _ _ _ _ _ => none)
    (fun _ _ _ _ => none)
    (fun _ _ _ _ => none)
    (fun _ _ _ => none)
    (fun _ _ => none)
    () (fun _ _ _ _ => ())
    x st i
noncomputable def natOfQ (x : AV) : Option Nat :=
  AV.rec (motive_1 := fun _ => Option Nat) (motive_2 := fun _ => Unit)
    (fun _ => none)
    (fun _ m => Int.rec (motive := fun _ => Option Nat) (fun a => some a) (fun _ => none) m)
    (fun _ => none)
    (none)
    (none)
    (none)
    (none)
    (none)
    (fun _ _ => none)
    (fun _ _ _ _ => none)
    (none)
    (fun _ _ => none)
    (fun _ _ _ => none)
    (fun _ => none)
    (fun _ _ _ _ _ => none)
    (fun _ => none)
    (fun _ _ _ => none)
    (fun _ _ => none)
    (fun _ _ => none)
    (fun _ => none)
    (none)
    () (fun _ _ _ _ => ())
    x
noncomputable def isIQ (x : AV) : Bool :=
  AV.rec (motive_1 := fun _ => Bool) (motive_2 := fun _ => Unit)
    (fun _ => false)
    (fun _ _ => true)
    (fun _ => false)
    (false)
    (false)
    (false)
    (false)
    (false)
    (fun _ _ => false)
    (fun _ _ _ _ => false)
    (false)
    (fun _ _ => false)
    (fun _ _ _ => false)
    (fun _ => false)
    (fun _ _ _ _ _ => false)
    (fun _ => false)
    (fun _ _ _ => false)
    (fun _ _ => false)
    (fun _ _ => false)
    (fun _ => false)
    (false)
    () (fun _ _ _ _ => ())
    x
noncomputable def iaQ (P : Program) (t : TypeId) (x ix : AV) : Option AV :=
  Option.rec (motive := fun _ => AV → Option Nat → Option AV) (fun _ _ => none) (fun p x i => Option.rec (motive := fun _ => Option Nat × Nat → AV → Option AV) (fun _ _ => none) (fun i p x => Prod.rec (motive := fun _ => Nat → AV → Option AV) (fun ln st i x => Option.rec (motive := fun _ => Nat → Nat → AV → Option AV) iaSQ (fun len st i x => iaAQ len st i x) ln st i x) p i x) i p x) (iaOf P t) x (natOfQ ix)
theorem iaQ_eq (P : Program) (H : AH) (t : TypeId) (x : AV) (kd : IntKind) (n : Int) : iaQ P t x (.i kd n) = aindexAddr P H t x n := by
  unfold iaQ iaOf aindexAddr
  cases n with
  | negSucc m =>
    show Option.rec (motive := fun _ => AV → Option Nat → Option AV) (fun _ _ => none) _ _ x none = _
    have : ∀ r : Option (Option Nat × Nat), (Option.rec (motive := fun _ => AV → Option Nat → Option AV) (fun _ _ => none) (fun p x i => Option.rec (motive := fun _ => Option Nat × Nat → AV → Option AV) (fun _ _ => none) (fun i p x => Prod.rec (motive := fun _ => Nat → AV → Option AV) (fun ln st i x => Option.rec (motive := fun _ => Nat → Nat → AV → Option AV) iaSQ (fun len st i x => iaAQ len st i x) ln st i x) p i x) i p x) r x none : Option AV) = none := by intro r; cases r <;> rfl
    rw [this]
    simp only [asNat]
    split <;> simp_all
  | ofNat i =>
    show Option.rec (motive := fun _ => AV → Option Nat → Option AV) (fun _ _ => none) _ _ x (some i) = _
    simp only [asNat]
    split
    · rename_i len e hu
      simp only [hu]
      cases szT P e with
      | none => rfl
      | some st =>
        show iaAQ len st i x = _
        unfold iaAQ
        by_cases h : i < len
        · rw [show Nat.blt i len = true from bleT h]
          simp only [h, if_true]
          cases x <;> (try rfl)
          show some (AV.ip (dropQ _ _)) = _
          rw [dropQ_eq]; rfl
        · rw [show Nat.blt i len = false from bleF h]
          simp only [h, if_false]
    · rename_i e hu
      simp only [hu]
      cases szT P e with
      | none => rfl
      | some st =>
        show iaSQ st i x = _
        cases x <;> (try rfl)
        · rename_i id off len st'
          show (Bool.rec (motive := fun _ => Option AV) none (Bool.rec (motive := fun _ => Option AV) none (some (.ptr id (Nat.add off (Nat.mul i st)))) (Nat.beq st st')) (Nat.blt i len) : Option AV) = _
          simp only
          by_cases h : i < len
          · rw [show Nat.blt i len = true from bleT h]
            by_cases h2 : st = st'
            · rw [beqT h2]; simp [h, h2]
            · rw [beqF.2 h2]; simp [h2]
          · rw [show Nat.blt i len = false from bleF h]
            simp [h]
        · rename_i cs len
          show (Bool.rec (motive := fun _ => Option AV) none (some (.ip (dropQ cs (Nat.mul i st)))) (Nat.blt i len) : Option AV) = _
          simp only
          by_cases h : i < len
          · rw [show Nat.blt i len = true from bleT h, dropQ_eq]
            simp [h]
          · rw [show Nat.blt i len = false from bleF h]
            simp [h]
    · rename_i h1 h2
      show none = _
      split
      · rename_i a b c d; exact absurd c (fun e => h1 _ _ e)
      · rename_i a b c d; exact absurd c (fun e => h2 _ e)
      · rfl

/-- strings alone; anything else as it is -/
noncomputable def ixStrQ (P : Program) (t : TypeId) (x ix : AV) : Option AV :=
  match ix with | .i _ n => aindex P t x n | _ => none
def isStr (P : Program) (t : TypeId) : Bool := match P.underlying t with | some .string => true | _ => false
noncomputable def ixSQ (i : Option Nat) (x : AV) : Option AV :=
  Option.rec (motive := fun _ => AV → Option AV) (fun _ => none) (fun i x => AV.rec (motive_1 := fun _ => Nat → Option AV) (motive_2 := fun _ => Unit)
    (fun _ _ => none)
    (fun _ _ _ => none)
    (fun bs i => Option.rec (motive := fun _ => Option AV) none (fun b => some (.i .u8 (.ofNat b.toNat))) (nthU bs i))
    (fun _ => none)
    (fun _ => none)
    (fun _ => none)
    (fun _ => none)
    (fun _ => none)
    (fun _ _ _ => none)
    (fun _ _ _ _ _ => none)
    (fun _ => none)
    (fun _ _ _ => none)
    (fun _ _ _ _ => none)
    (fun _ _ => none)
    (fun _ _ _ _ _ _ => none)
    (fun _ _ => none)
    (fun _ _ _ _ => none)
    (fun _ _ _ => none)
    (fun _ _ _ => none)
    (fun _ _ => none)
    (fun _ => none)
    () (fun _ _ _ _ => ())
    x i) i x
noncomputable def ixQ (P : Program) (t : TypeId) (x ix : AV) : Option AV :=
  Bool.rec (motive := fun _ => Program → TypeId → AV → AV → Option AV) ixStrQ (fun _ _ x ix => ixSQ (natOfQ ix) x) (isStr P t) P t x ix
theorem ixQ_eq (P : Program) (t : TypeId) (x ix : AV) : ixQ P t x ix = (match ix with | .i _ n => aindex P t x n | _ => none) := by
  unfold ixQ isStr
  split
  · rename_i hu
    show ixSQ (natOfQ ix) x = _
    cases ix <;> (try rfl)
    rename_i kd n
    simp only [aindex, hu]
    cases n with
    | negSucc m => simp only [asNat]; rfl
    | ofNat i =>
      simp only [asNat]
      cases x <;> (try rfl)
      rename_i s
      show Option.rec (motive := fun _ => Option AV) none (fun b => some (.i .u8 (.ofNat b.toNat))) (nthU s i) = _
      rw [nthU_eq]
      simp only
      cases s[i]? <;> rfl
  · rfl

noncomputable def extQ (ix : Nat) (t : AV) : Option AV :=
  AV.rec (motive_1 := fun _ => Nat → Option AV) (motive_2 := fun _ => Unit)
    (fun _ _ => none)
    (fun _ _ _ => none)
    (fun _ _ => none)
    (fun _ => none)
    (fun _ => none)
    (fun _ => none)
    (fun _ => none)
    (fun _ => none)
    (fun _ _ _ => none)
    (fun _ _ _ _ _ => none)
    (fun _ => none)
    (fun _ _ _ => none)
    (fun _ _ _ _ => none)
    (fun _ _ => none)
    (fun _ _ _ _ _ _ => none)
    (fun _ _ => none)
    (fun _ _ _ _ => none)
    (fun _ _ _ => none)
    (fun tvs _ ix => nthQ tvs ix)
    (fun _ _ => none)
    (fun _ => none)
    () (fun _ _ _ _ => ())
    t ix
def cvOf (P : Program) (s d : TypeId) : Option IntKind :=
  match P.underlying s, P.underlying d with
  | some _, some (.int k) => some k
  | _, _ => none
noncomputable def cvQ (k : IntKind) (x : AV) : Option AV :=
  AV.rec (motive_1 := fun _ => IntKind → Option AV) (motive_2 := fun _ => Unit)
    (fun _ _ => none)
    (fun _ m k => some (.i k (wrapZ k m)))
    (fun _ _ => none)
    (fun _ => none)
    (fun _ => none)
    (fun _ => none)
    (fun _ => none)
    (fun _ => none)
    (fun _ _ _ => none)
    (fun _ _ _ _ _ => none)
    (fun _ => none)
    (fun _ _ _ => none)
    (fun _ _ _ _ => none)
    (fun _ _ => none)
    (fun _ _ _ _ _ _ => none)
    (fun _ _ => none)
    (fun _ _ _ _ => none)
    (fun _ _ _ => none)
    (fun _ _ _ => none)
    (fun _ _ => none)
    (fun _ => none)
    () (fun _ _ _ _ => ())
    x k
def lnOf (P : Program) (t : TypeId) : Nat := match P.underlying t with | some .string => 1 | some (.slice _) => 2 | _ => 0
noncomputable def lnQ (P : Program) (H : AH) (t : TypeId) (x : AV) : Option AV :=
  AV.rec (motive_1 := fun _ => Program → AH → TypeId → Option AV) (motive_2 := fun _ => Unit)
    (fun xb P H t => alenB P H t (.b xb))
    (fun kd m P H t => alenB P H t (.i kd m))
    (fun bs P H t => Bool.rec (motive := fun _ => Option AV) (alenB P H t (.str bs)) (some (.i .i64 (.ofNat (lenU bs)))) (Nat.beq (lnOf P t) 1))
    (fun P H t => alenB P H t .nilp)
    (fun P H t => Bool.rec (motive := fun _ => Option AV) (alenB P H t .nils) (some (.i .i64 (.ofNat 0))) (Nat.beq (lnOf P t) 2))
    (fun P H t => alenB P H t .nilm)
    (fun P H t => alenB P H t .nilf)
    (fun P H t => alenB P H t .nili)
    (fun pid pof P H t => alenB P H t (.ptr pid pof))
    (fun sid sof sln sst P H t => Bool.rec (motive := fun _ => Option AV) (alenB P H t (.sl sid sof sln sst)) (some (.i .i64 (.ofNat sln))) (Nat.beq (lnOf P t) 2))
    (fun P H t => Bool.rec (motive := fun _ => Option AV) (alenB P H t .esl) (some (.i .i64 (.ofNat 0))) (Nat.beq (lnOf P t) 2))
    (fun pcs _ P H t => alenB P H t (.ip pcs))
    (fun ics iln _ P H t => Bool.rec (motive := fun _ => Option AV) (alenB P H t (.isl ics iln)) (some (.i .i64 (.ofNat iln))) (Nat.beq (lnOf P t) 2))
    (fun mid P H t => alenB P H t (.mp mid))
    (fun ff ffs fcp _ _ P H t => alenB P H t (.fn ff ffs fcp))
    (fun yid P H t => alenB P H t (.yld yid))
    (fun ity ixv _ P H t => alenB P H t (.ifc ity ixv))
    (fun acs _ P H t => alenB P H t (.agg acs))
    (fun tvs _ P H t => alenB P H t (.tup tvs))
    (fun opv P H t => alenB P H t (.op opv))
    (fun P H t => alenB P H t .any)
    () (fun _ _ _ _ => ())
    x P H t
theorem lnOf_two {P : Program} {t : TypeId} (h : lnOf P t = 2) : ∃ e, P.underlying t = some (.slice e) := by
  unfold lnOf at h
  split at h
  · cases h
  · rename_i e he; exact ⟨e, he⟩
  · cases h
theorem lnOf_one {P : Program} {t : TypeId} (h : lnOf P t = 1) : P.underlying t = some .string := by
  unfold lnOf at h
  split at h
  · rename_i he; exact he
  · cases h
  · cases h
theorem boolPick {r s : Option AV} {a b : Nat} (h : a = b → s = r) : (Bool.rec (motive := fun _ => Option AV) r s (Nat.beq a b) : Option AV) = r := by
  by_cases hk : a = b
  · rw [beqT hk, h hk]
  · rw [beqF.2 hk]
theorem lnQ_eq (P : Program) (H : AH) (t : TypeId) (x : AV) : lnQ P H t x = alenB P H t x := by
  cases x <;> (try rfl)
  · exact boolPick fun h => by simp only [alenB, lnOf_one h, lenU_eq]; rfl
  · exact boolPick fun h => by obtain ⟨e, he⟩ := lnOf_two h; simp only [alenB, he, alen]; rfl
  · exact boolPick fun h => by obtain ⟨e, he⟩ := lnOf_two h; simp only [alenB, he, alen]; rfl
  · exact boolPick fun h => by obtain ⟨e, he⟩ := lnOf_two h; simp only [alenB, he, alen]; rfl
  · exact boolPick fun h => by obtain ⟨e, he⟩ := lnOf_two h; simp only [alenB, he, alen]; rfl
/-! ## Calls -/
noncomputable def mapEvQ (C : Cx) (T : PT AV) (l : List Operand) : List AV := List.rec (motive := fun _ => Cx → PT AV → List AV) (fun _ _ => []) (fun x _ ih C T => evQ C T x :: ih C T) l C T
theorem mapEvQ_eq (C : Cx) (T : PT AV) : ∀ l : List Operand, mapEvQ C T l = l.map (aev C T)
  | [] => rfl
  | x :: l => by rw [List.map_cons, ← mapEvQ_eq C T l, ← evQ_eq]; rfl
noncomputable def callKQ (r : Option (CR × AH)) (n : Nat) (dst : Option Tmp) (T : PT AV) (D : List ADef) (B : List AF) (k : KT) : Res :=
  Option.rec (motive := fun _ => Nat → Option Tmp → PT AV → List ADef → List AF → KT → Res) (fun _ _ _ _ _ _ => none)
    (fun p n dst T D B k => Prod.rec (motive := fun _ => Nat → Option Tmp → PT AV → List ADef → List AF → KT → Res) (fun c H n dst T D B k => CR.rec (motive := fun _ => AH → Nat → Option Tmp → PT AV → List ADef → List AF → KT → Res)
      (fun a H n dst T D B k => k (tputQ T n dst a) D B H) (fun ch H _n _dst T D B _k => some (.pan ch, ⟨T, D, B, H⟩)) c H n dst T D B k) p n dst T D B k) r n dst T D B k
def callable (C : Cx) (f : FuncId) : Bool := match C.X f with | some _ => false | none => (match C.P.funcs[f]? with | some fn => fn.body.isSome | none => false)
noncomputable def resGoQ (C : Cx) (T : PT AV) (H : AH) (l : List ResultVar) : Option (List AV) :=
  List.rec (motive := fun _ => Cx → PT AV → AH → Option (List AV)) (fun _ _ _ => some [])
    (fun r _ ih C T H => ResultVar.rec (motive := fun _ => Cx → PT AV → AH → Option (List AV) → Option (List AV)) (fun t _C T _H r => Option.rec (motive := fun _ => AV → Option (List AV)) (fun _ => none) (fun l x => some (x :: l)) r (tgetQ T t))
      (fun a t C T H r => Option.rec (motive := fun _ => Option (List AV) → Option (List AV)) (fun _ => none) (fun x r => Option.rec (motive := fun _ => AV → Option (List AV)) (fun _ => none) (fun l x => some (x :: l)) r x) (loadQ C.P H t (tgetQ T a)) r) r C T H (ih C T H)) l C T H
theorem resGoQ_eq (C : Cx) (fr : AF) (H : AH) : ∀ l : List ResultVar, resGoQ C fr.tmps H l = aresults.go C fr H l
  | [] => rfl
  | .tmp t :: l => by
    show Option.rec (motive := fun _ => AV → Option (List AV)) (fun _ => none) (fun l x => some (x :: l)) (resGoQ C fr.tmps H l) (tgetQ fr.tmps t) = _
    rw [resGoQ_eq C fr H l, tgetQ_eq]
    simp only [aresults.go]
    cases aresults.go C fr H l <;> rfl
  | .cell a t :: l => by
    show Option.rec (motive := fun _ => Option (List AV) → Option (List AV)) (fun _ => none) (fun x r => Option.rec (motive := fun _ => AV → Option (List AV)) (fun _ => none) (fun l x => some (x :: l)) r x) (loadQ C.P H t (tgetQ fr.tmps a)) (resGoQ C fr.tmps H l) = _
    rw [resGoQ_eq C fr H l, tgetQ_eq, loadQ_eq]
    simp only [aresults.go]
    cases aload C.P H t (tget fr.tmps a) <;> cases aresults.go C fr H l <;> rfl
noncomputable def oneOrTup (l : List AV) : AV := List.rec (motive := fun _ => AV) (.tup []) (fun a l _ => List.rec (motive := fun _ => AV → List AV → AV) (fun a _ => a) (fun _ _ _ a l => .tup (a :: l)) l a l) l
noncomputable def aresQ (C : Cx) (fn : FuncId) (T : PT AV) (H : AH) : Option AV :=
  Option.rec (motive := fun _ => Cx → PT AV → AH → Option AV) (fun _ _ _ => none) (fun fn C T H => Option.rec (motive := fun _ => Option AV) none (fun l => some (oneOrTup l)) (resGoQ C T H fn.results.toList)) (C.P.funcs[fn]?) C T H
theorem aresQ_eq (C : Cx) (fr : AF) (H : AH) : aresQ C fr.fn fr.tmps H = aresults C fr H := by
  unfold aresQ aresults
  cases C.P.funcs[fr.fn]? with
  | none => rfl
  | some fn =>
    simp only [resGoQ_eq]
    cases aresults.go C fr H fn.results.toList with
    | none => rfl
    | some l =>
      cases l with
      | nil => rfl
      | cons a l => cases l <;> rfl
noncomputable def argsQ (l : List AV) (i : Nat) (T : PT AV) : PT AV := List.rec (motive := fun _ => Nat → PT AV → PT AV) (fun _ T => T) (fun a _ ih i T => ih (Nat.succ i) (sT T (path i) (some a))) l i T
theorem argsQ_eq : ∀ (l : List AV) (i : Nat) (T : PT AV), argsQ l i T = argsIn l i T
  | [], _, _ => rfl
  | a :: l, i, T => by
    show argsQ l (Nat.succ i) (sT T (path i) (some a)) = _
    rw [argsQ_eq l, sT_eq]; rfl
noncomputable def aenterQ (C : Cx) (f : FuncId) (args : List AV) (kind : CallKind) : Option AF :=
  Option.rec (motive := fun _ => FuncId → List AV → CallKind → Option AF) (fun _ _ _ => none) (fun fn f args kind => Option.rec (motive := fun _ => Nat → FuncId → List AV → CallKind → Option AF) (fun _ _ _ _ => none)
    (fun c n f args kind => Bool.rec (motive := fun _ => Option AF) none (some ⟨f, argsQ args 0 .lf, n, [.code c], [], .run, kind, none⟩) (Nat.ble (lenQ args) n)) fn.body fn.ntmps f args kind) (C.P.funcs[f]?) f args kind
theorem aenterQ_eq (C : Cx) (f : FuncId) (args : List AV) (kind : CallKind) : aenterQ C f args kind = aenter C f args kind := by
  unfold aenterQ aenter
  cases C.P.funcs[f]? with
  | none => rfl
  | some fn =>
    simp only
    cases fn.body with
    | none => rfl
    | some c =>
      simp only [lenQ_eq, argsQ_eq]
      by_cases h : args.length ≤ fn.ntmps
      · rw [bleT h, if_pos h]
      · rw [bleF h, if_neg h]

noncomputable def callFQ (C : Cx) (g : AF) (H : AH) : Option (CR × AH) :=
  AF.rec (motive := fun _ => Cx → AH → Option (CR × AH)) (fun fn tmps _n _todo _defers mode _kind _ro C H => AMode.rec (motive := fun _ => Cx → FuncId → PT AV → AH → Option (CR × AH)) (fun _ _ _ _ => none)
    (fun C fn tmps H => Option.rec (motive := fun _ => AH → Option (CR × AH)) (fun _ => none) (fun a H => some (.val a, H)) (aresQ C fn tmps H) H)
    (fun ch C fn _tmps H => Option.rec (motive := fun _ => Option (CR × AH)) none (fun _ => some (.pan ch, H)) (C.P.funcs[fn]?)) mode C fn tmps H) g C H
noncomputable def callRQ (C : Cx) (r : Option (AF × List AF × AH)) : Option (CR × AH) :=
  Option.rec (motive := fun _ => Cx → Option (CR × AH)) (fun _ => none) (fun p C => Prod.rec (motive := fun _ => Cx → Option (CR × AH)) (fun g q C => Prod.rec (motive := fun _ => AF → Cx → Option (CR × AH)) (fun B H g C => List.rec (motive := fun _ => AF → AH → Cx → Option (CR × AH)) (fun g H C => callFQ C g H) (fun _ _ _ _ _ _ => none) B g H C) q g C) p C) r C
noncomputable def callQ (C : Cx) (cb : CB) (f : FuncId) (args : List AV) (H : AH) : Option (CR × AH) :=
  Option.rec (motive := fun _ => Cx → CB → AH → Option (CR × AH)) (fun _ _ _ => none) (fun g C cb H => callRQ C (cb.frame g [] H)) (aenterQ C f args .normal) C cb H
theorem callQ_eq (C : Cx) (cb : CB) (f : FuncId) (args : List AV) (H : AH) : callQ C cb f args H = cb.call C f args H := by
  unfold callQ CB.call
  rw [aenterQ_eq]
  cases aenter C f args .normal with
  | none => rfl
  | some g =>
    show callRQ C (cb.frame g [] H) = _
    simp only
    cases cb.frame g [] H with
    | none => rfl
    | some p =>
      obtain ⟨g', B', H'⟩ := p
      cases B' with
      | cons => rfl
      | nil =>
        show callFQ C g' H' = _
        simp only
        cases hm : g'.mode with
        | run =>
          obtain ⟨a1, a2, a3, a4, a5, a6, a7, a8⟩ := g'
          simp only at hm
          subst hm
          rfl
        | ret =>
          have e : callFQ C g' H' = Option.rec (motive := fun _ => AH → Option (CR × AH)) (fun _ => none) (fun a H => some (.val a, H)) (aresQ C g'.fn g'.tmps H') H' := by
            obtain ⟨a1, a2, a3, a4, a5, a6, a7, a8⟩ := g'
            simp only at hm
            subst hm
            rfl
          rw [e, aresQ_eq]
          simp only
          cases aresults C g' H' <;> rfl
        | pan ch =>
          have e : callFQ C g' H' = Option.rec (motive := fun _ => Option (CR × AH)) none (fun _ => some (.pan ch, H')) (C.P.funcs[g'.fn]?) := by
            obtain ⟨a1, a2, a3, a4, a5, a6, a7, a8⟩ := g'
            simp only at hm
            subst hm
            rfl
          rw [e]
          cases C.P.funcs[g'.fn]? <;> rfl
noncomputable def goQ (ff : FuncId) (ffs fcp : List AV) (args : List Operand) : KO := fun C cb F n o dst T D B H k =>
  Bool.rec (motive := fun _ => FuncId → List AV → List AV → List Operand → KO) (fun _ _ _ _ => fbkQ) (fun ff ffs fcp args C cb _F n _o dst T D B H k => callKQ (callQ C cb ff (appQ (appQ ffs (mapEvQ C T args)) fcp) H) n dst T D B k) (callable C ff) ff ffs fcp args C cb F n o dst T D B H k

noncomputable def callVQ (f : AV) (args : List Operand) : KO := fun C cb F n o dst T D B H k =>
  AV.rec (motive_1 := fun _ => List Operand → KO) (motive_2 := fun _ => Unit)
    (fun _ _ C cb F n o dst T D B H k => fbkQ C cb F n o dst T D B H k)
    (fun _ _ _ C cb F n o dst T D B H k => fbkQ C cb F n o dst T D B H k)
    (fun _ _ C cb F n o dst T D B H k => fbkQ C cb F n o dst T D B H k)
    (fun _ C cb F n o dst T D B H k => fbkQ C cb F n o dst T D B H k)
    (fun _ C cb F n o dst T D B H k => fbkQ C cb F n o dst T D B H k)
    (fun _ C cb F n o dst T D B H k => fbkQ C cb F n o dst T D B H k)
    (fun _ C cb F n o dst T D B H k => fbkQ C cb F n o dst T D B H k)
    (fun _ C cb F n o dst T D B H k => fbkQ C cb F n o dst T D B H k)
    (fun _ _ _ C cb F n o dst T D B H k => fbkQ C cb F n o dst T D B H k)
    (fun _ _ _ _ _ C cb F n o dst T D B H k => fbkQ C cb F n o dst T D B H k)
    (fun _ C cb F n o dst T D B H k => fbkQ C cb F n o dst T D B H k)
    (fun _ _ _ C cb F n o dst T D B H k => fbkQ C cb F n o dst T D B H k)
    (fun _ _ _ _ C cb F n o dst T D B H k => fbkQ C cb F n o dst T D B H k)
    (fun _ _ C cb F n o dst T D B H k => fbkQ C cb F n o dst T D B H k)
    (fun ff ffs fcp _ _ args C cb F n o dst T D B H k => goQ ff ffs fcp args C cb F n o dst T D B H k)
    (fun _ _ C cb F n o dst T D B H k => fbkQ C cb F n o dst T D B H k)
    (fun _ _ _ _ C cb F n o dst T D B H k => fbkQ C cb F n o dst T D B H k)
    (fun _ _ _ C cb F n o dst T D B H k => fbkQ C cb F n o dst T D B H k)
    (fun _ _ _ C cb F n o dst T D B H k => fbkQ C cb F n o dst T D B H k)
    (fun _ _ C cb F n o dst T D B H k => fbkQ C cb F n o dst T D B H k)
    (fun _ C cb F n o dst T D B H k => fbkQ C cb F n o dst T D B H k)
    () (fun _ _ _ _ => ())
    f args C cb F n o dst T D B H k
noncomputable def lenBQ (args : List Operand) (ats : List TypeId) : KO := fun C cb F n o dst T D B H k =>
  List.rec (motive := fun _ => List TypeId → KO) (fun _ => fbkQ) (fun x r _ ats C cb F n o dst T D B H k => List.rec (motive := fun _ => Operand → List TypeId → KO) (fun x ats C cb F n o dst T D B H k => List.rec (motive := fun _ => Operand → KO) (fun _ => fbkQ) (fun t _ _ x C _cb _F n _o dst T D B H k => lkI (lnQ C.P H t (evQ C T x)) n dst T D B H k) ats x C cb F n o dst T D B H k) (fun _ _ _ _ _ => fbkQ) r x ats C cb F n o dst T D B H k) args ats C cb F n o dst T D B H k

noncomputable def builtinQ (b : Builtin) (args : List Operand) (ats : List TypeId) : KO := fun C cb F n o dst T D B H k =>
  Builtin.rec (motive := fun _ => List Operand → List TypeId → KO)
    (fun _ _ C cb F n o dst T D B H k => fbkQ C cb F n o dst T D B H k)
    (fun _ _ C cb F n o dst T D B H k => fbkQ C cb F n o dst T D B H k)
    (fun _ _ C cb F n o dst T D B H k => fbkQ C cb F n o dst T D B H k)
    (fun _ _ C cb F n o dst T D B H k => fbkQ C cb F n o dst T D B H k)
    (fun _ _ C cb F n o dst T D B H k => fbkQ C cb F n o dst T D B H k)
    (fun _ _ C cb F n o dst T D B H k => fbkQ C cb F n o dst T D B H k)
    (fun _ _ C cb F n o dst T D B H k => fbkQ C cb F n o dst T D B H k)
    (fun _ _ C cb F n o dst T D B H k => fbkQ C cb F n o dst T D B H k)
    (fun args ats C cb F n o dst T D B H k => lenBQ args ats C cb F n o dst T D B H k)
    (fun _ _ C cb F n o dst T D B H k => fbkQ C cb F n o dst T D B H k)
    (fun _ _ C cb F n o dst T D B H k => fbkQ C cb F n o dst T D B H k)
    (fun _ _ C cb F n o dst T D B H k => fbkQ C cb F n o dst T D B H k)
    (fun _ _ C cb F n o dst T D B H k => fbkQ C cb F n o dst T D B H k)
    (fun _ _ C cb F n o dst T D B H k => fbkQ C cb F n o dst T D B H k)
    (fun _ _ C cb F n o dst T D B H k => fbkQ C cb F n o dst T D B H k)
    (fun _ _ C cb F n o dst T D B H k => fbkQ C cb F n o dst T D B H k)
    (fun _ _ C cb F n o dst T D B H k => fbkQ C cb F n o dst T D B H k)
    (fun _ _ C cb F n o dst T D B H k => fbkQ C cb F n o dst T D B H k)
    (fun _ _ C cb F n o dst T D B H k => fbkQ C cb F n o dst T D B H k)
    (fun _ _ C cb F n o dst T D B H k => fbkQ C cb F n o dst T D B H k)
    (fun _ _ C cb F n o dst T D B H k => fbkQ C cb F n o dst T D B H k)
    (fun _ _ C cb F n o dst T D B H k => fbkQ C cb F n o dst T D B H k)
    (fun _ _ C cb F n o dst T D B H k => fbkQ C cb F n o dst T D B H k)
    (fun _ _ C cb F n o dst T D B H k => fbkQ C cb F n o dst T D B H k)
    (fun _ _ C cb F n o dst T D B H k => fbkQ C cb F n o dst T D B H k)
    (fun _ _ C cb F n o dst T D B H k => fbkQ C cb F n o dst T D B H k)
    b args ats C cb F n o dst T D B H k
noncomputable def calleeQ (ce : Callee) (args : List Operand) (ats : List TypeId) : KO := fun C cb F n o dst T D B H k =>
  Callee.rec (motive := fun _ => List Operand → List TypeId → KO)
    (fun f args _ C cb F n o dst T D B H k => callVQ (evQ C T f) args C cb F n o dst T D B H k)
    (fun _ _ _ _ C cb F n o dst T D B H k => fbkQ C cb F n o dst T D B H k)
    (fun b args ats C cb F n o dst T D B H k => builtinQ b args ats C cb F n o dst T D B H k)
    ce args ats C cb F n o dst T D B H k
noncomputable def opQ (op : Op) : KO := fun C cb F n o dst T D B H k =>
  Op.rec (motive := fun _ => KO)
    (fun x C _ _ n _ dst T D B H k => k (tputQ T n dst (evQ C T x)) D B H)
    (fun x C _ _ n _ dst T D B H k => k (tputQ T n dst (evQ C T x)) D B H)
    (fun c a b C _ _ n _ dst T D B H k => lkQ (pickQ (evQ C T c) (evQ C T a) (evQ C T b)) n dst T D B H k)
    (fun e C _ _ n _ dst T D B H k => Option.rec (motive := fun _ => TypeId → KL) (fun _ _ _ _ _ _ _ _ => none) (fun cs e n dst T D B H k => newQ (.cells e cs 0 true) n dst T D B H k) (zeroT C.P e) e n dst T D B H k)
    (fun e v C _ _ n _ dst T D B H k => Option.rec (motive := fun _ => TypeId → KL) (fun _ _ _ _ _ _ _ _ => none) (fun cs e n dst T D B H k => newQ (.cells e cs 0 true) n dst T D B H k) (cellsQ (evQ C T v)) e n dst T D B H k)
    (fun _ _ C cb F n o dst T D B H k => fbkQ C cb F n o dst T D B H k)
    (fun _ _ _ C cb F n o dst T D B H k => fbkQ C cb F n o dst T D B H k)
    (fun _ _ _ _ C cb F n o dst T D B H k => fbkQ C cb F n o dst T D B H k)
    (fun t a C _ _ n _ dst T D B H k => lkQ (loadQ C.P H t (evQ C T a)) n dst T D B H k)
    (fun t a v C _ _ n _ dst T D B H k => Option.rec (motive := fun _ => Nat → Option Tmp → PT AV → List ADef → List AF → KT → Res) (fun _ _ _ _ _ _ => none) (fun H n dst T D B k => k (tputQ T n dst undefA) D B H) (storeQ C.P H t (evQ C T a) (evQ C T v)) n dst T D B k)
    (fun _ C cb F n o dst T D B H k => fbkQ C cb F n o dst T D B H k)
    (fun _ C cb F n o dst T D B H k => fbkQ C cb F n o dst T D B H k)
    (fun x C _ _ n _ dst T D B H k => lkQ (nilQ (evQ C T x)) n dst T D B H k)
    (fun op xt x y _ C _ _ n _ dst T D B H k => lkI (binQ C.P op xt x y (evQ C T x) (evQ C T y)) n dst T D B H k)
    (fun op _ x C cb F n o dst T D B H k => UnOp.rec (motive := fun _ => Operand → KO) (fun _ => fbkQ) (fun _ => fbkQ) (fun x C _cb _F n _o dst T D B H k => lkQ (notQ (evQ C T x)) n dst T D B H k) (fun _ => fbkQ) op x C cb F n o dst T D B H k)
    (fun sr ds x C cb F n o dst T D B H k => Option.rec (motive := fun _ => Operand → KO) (fun _ => fbkQ) (fun kd x C _cb _F n _o dst T D B H k => lkI (cvQ kd (evQ C T x)) n dst T D B H k) (cvOf C.P sr ds) x C cb F n o dst T D B H k)
    (fun _ _ C cb F n o dst T D B H k => fbkQ C cb F n o dst T D B H k)
    (fun _ _ C cb F n o dst T D B H k => fbkQ C cb F n o dst T D B H k)
    (fun _ _ _ C cb F n o dst T D B H k => fbkQ C cb F n o dst T D B H k)
    (fun _ _ C cb F n o dst T D B H k => fbkQ C cb F n o dst T D B H k)
    (fun _ _ C cb F n o dst T D B H k => fbkQ C cb F n o dst T D B H k)
    (fun _ _ _ C cb F n o dst T D B H k => fbkQ C cb F n o dst T D B H k)
    (fun _ _ _ _ _ C cb F n o dst T D B H k => fbkQ C cb F n o dst T D B H k)
    (fun xt x fd C _ _ n _ dst T D B H k => lkQ (faQ (faOf C.P xt fd) (evQ C T x)) n dst T D B H k)
    (fun _ _ _ C cb F n o dst T D B H k => fbkQ C cb F n o dst T D B H k)
    (fun xt x ix C _ _ n _ dst T D B H k => lkQ (iaQ C.P xt (evQ C T x) (evQ C T ix)) n dst T D B H k)
    (fun xt x ix C _ _ n _ dst T D B H k => lkI (ixQ C.P xt (evQ C T x) (evQ C T ix)) n dst T D B H k)
    (fun _ _ _ _ C cb F n o dst T D B H k => fbkQ C cb F n o dst T D B H k)
    (fun _ _ _ _ C cb F n o dst T D B H k => fbkQ C cb F n o dst T D B H k)
    (fun _ _ _ C cb F n o dst T D B H k => fbkQ C cb F n o dst T D B H k)
    (fun _ _ _ _ C cb F n o dst T D B H k => fbkQ C cb F n o dst T D B H k)
    (fun _ _ C cb F n o dst T D B H k => fbkQ C cb F n o dst T D B H k)
    (fun _ _ C cb F n o dst T D B H k => fbkQ C cb F n o dst T D B H k)
    (fun _ C cb F n o dst T D B H k => fbkQ C cb F n o dst T D B H k)
    (fun _ _ _ _ C cb F n o dst T D B H k => fbkQ C cb F n o dst T D B H k)
    (fun tu ix C _ _ n _ dst T D B H k => lkQ (extQ ix (evQ C T tu)) n dst T D B H k)
    (fun c C cb F n o dst T D B H k => Call.rec (motive := fun _ => KO) (fun ce args ats C cb F n o dst T D B H k => calleeQ ce args.toList ats.toList C cb F n o dst T D B H k) c C cb F n o dst T D B H k)
    (fun _ C cb F n o dst T D B H k => fbkQ C cb F n o dst T D B H k)
    (fun _ C cb F n o dst T D B H k => fbkQ C cb F n o dst T D B H k)
    (fun _ C cb F n o dst T D B H k => fbkQ C cb F n o dst T D B H k)
    (fun _ _ C cb F n o dst T D B H k => fbkQ C cb F n o dst T D B H k)
    (fun _ _ _ C cb F n o dst T D B H k => fbkQ C cb F n o dst T D B H k)
    (fun _ _ C cb F n o dst T D B H k => fbkQ C cb F n o dst T D B H k)
    op C cb F n o dst T D B H k

section
variable {C : Cx} {cb : CB} {F : FI} {T : PT AV} {D : List ADef} {B : List AF} {H : AH} {k : KT}
theorem natOf_i (kd : IntKind) (n : Int) : natOfQ (.i kd n) = asNat n := by cases n <;> rfl
theorem calleeQ_eq (o : Oper) (c : Call) (ho : o.op = .call c) : calleeQ c.callee c.args.toList c.argTypes.toList C cb F F.n o o.dst T D B H k = contQ (doStep C cb F o ⟨T, D, B, H⟩) k := by
  cases hc : c.callee with
  | invoke => rfl
  | builtin b =>
    cases b <;> (try rfl)
    show lenBQ c.args.toList c.argTypes.toList C cb F F.n o o.dst T D B H k = _
    have hl : lightOp C o = true := by simp [lightOp, ho, hc, lightB]
    cases ha : c.args.toList with
    | nil => rfl
    | cons x r =>
      cases r with
      | cons => rfl
      | nil =>
        cases ht : c.argTypes.toList with
        | nil => rfl
        | cons t ts =>
          show lkI (lnQ C.P H t (evQ C T x)) F.n o.dst T D B H k = _
          rw [lkI_eq, lnQ_eq, evQ_eq]
          refine light_ok hl ?_
          simp only [alight, ho, hc, alightB, ha, ht, List.map_cons, List.map_nil]
  | value f =>
    show callVQ (evQ C T f) c.args.toList C cb F F.n o o.dst T D B H k = _
    rw [evQ_eq]
    cases hf : aev C T f <;> (try rfl)
    rename_i g first cap
    show goQ g first cap c.args.toList C cb F F.n o o.dst T D B H k = _
    unfold goQ
    cases hcl : callable C g
    · rfl
    · show callKQ (callQ C cb g (appQ (appQ first (mapEvQ C T c.args.toList)) cap) H) F.n o.dst T D B k = _
      rw [callQ_eq, appQ_eq, appQ_eq, mapEvQ_eq]
      unfold callable at hcl
      split at hcl <;> (try (cases hcl; done))
      rename_i hX
      split at hcl <;> (try (cases hcl; done))
      rename_i fn hfn
      obtain ⟨body, hbody⟩ := Option.isSome_iff_exists.1 hcl
      have hop : aop C (aev C T) H o = some (.enter g (first ++ c.args.toList.map (aev C T) ++ cap), H) := by
        have hl : lightOp C o = false := by simp [lightOp, ho, hc]
        unfold aop
        rw [hl]
        simp only [cond_false, aheavy, ho, acall, hc, hf, acallFn, hfn, hX, hbody]
      unfold doStep
      simp only [hop, doAN]
      cases cb.call C g (first ++ c.args.toList.map (aev C T) ++ cap) H with
      | none => rfl
      | some p =>
        obtain ⟨r, H'⟩ := p
        cases r with
        | val a =>
          show k (tputQ T F.n o.dst a) D B H' = _
          rw [tputQ_eq]; rfl
        | pan ch => rfl

theorem opQ_eq (o : Oper) : opQ o.op C cb F F.n o o.dst T D B H k = contQ (doStep C cb F o ⟨T, D, B, H⟩) k := by
  cases ho : o.op <;> (try rfl)
  case move x =>
    show k (tputQ T F.n o.dst (evQ C T x)) D B H = _
    rw [evQ_eq]
    exact light_ok (r := some (aev C T x)) (by simp [lightOp, ho]) (by simp [alight, ho])
  case assign x =>
    show k (tputQ T F.n o.dst (evQ C T x)) D B H = _
    rw [evQ_eq]
    exact light_ok (r := some (aev C T x)) (by simp [lightOp, ho]) (by simp [alight, ho])
  case pick c a b =>
    show lkQ (pickQ (evQ C T c) (evQ C T a) (evQ C T b)) F.n o.dst T D B H k = _
    rw [evQ_eq, evQ_eq, evQ_eq]
    refine light_ok (by simp [lightOp, ho]) ?_
    simp only [alight, ho]
    cases aev C T c <;> (try rfl)
    rename_i x; cases x <;> rfl
  case load t a =>
    show lkQ (loadQ C.P H t (evQ C T a)) F.n o.dst T D B H k = _
    rw [evQ_eq, loadQ_eq]
    exact light_ok (by simp [lightOp, ho]) (by simp [alight, ho])
  case nilCheck x =>
    show lkQ (nilQ (evQ C T x)) F.n o.dst T D B H k = _
    rw [evQ_eq]
    refine light_ok (by simp [lightOp, ho]) ?_
    simp only [alight, ho]
    cases aev C T x <;> rfl
  case binOp op xt x y yt =>
    show lkI (binQ C.P op xt x y (evQ C T x) (evQ C T y)) F.n o.dst T D B H k = _
    rw [lkI_eq, evQ_eq, evQ_eq, binQ_eq]
    exact light_ok (by simp [lightOp, ho]) (by simp [alight, ho])
  case unOp op xt x =>
    cases op <;> (try rfl)
    show lkQ (notQ (evQ C T x)) F.n o.dst T D B H k = _
    rw [evQ_eq]
    refine light_ok (by simp [lightOp, ho]) ?_
    simp only [alight, ho]
    cases aev C T x <;> (try rfl)
    simp only [aUn, notQ, notB_eq]
  case fieldAddr xt x fd =>
    show lkQ (faQ (faOf C.P xt fd) (evQ C T x)) F.n o.dst T D B H k = _
    rw [evQ_eq]
    refine light_ok (by simp [lightOp, ho]) ?_
    simp only [alight, ho, faOf]
    split
    · rename_i fs hu
      simp only [hu]
      split
      · rename_i off m hfa
        simp only [hfa]
        show faQ (some off) (aev C T x) = _
        cases aev C T x <;> (try rfl)
        show some (AV.ip (dropQ _ _)) = _
        rw [dropQ_eq]
      · rename_i hn
        show none = _
        split
        · rename_i a b c d; exact absurd d (hn _ _)
        · rfl
    · rename_i hn
      show none = _
      split
      · rename_i a b c; exact absurd c (hn _)
      · rfl
  case indexAddr t x ix =>
    show lkQ (iaQ C.P t (evQ C T x) (evQ C T ix)) F.n o.dst T D B H k = _
    rw [evQ_eq, evQ_eq]
    refine light_ok (by simp [lightOp, ho]) ?_
    simp only [alight, ho]
    cases hix : aev C T ix <;> (try (show Option.rec (motive := fun _ => AV → Option Nat → Option AV) (fun _ _ => none) _ _ (aev C T x) none = _; cases iaOf C.P t <;> rfl))
    exact iaQ_eq _ _ _ _ _ _
  case index t x ix =>
    show lkI (ixQ C.P t (evQ C T x) (evQ C T ix)) F.n o.dst T D B H k = _
    rw [lkI_eq, evQ_eq, evQ_eq, ixQ_eq]
    refine light_ok (by simp [lightOp, ho]) ?_
    simp only [alight, ho]
    rfl
  case extract tu ix =>
    show lkQ (extQ ix (evQ C T tu)) F.n o.dst T D B H k = _
    rw [evQ_eq]
    refine light_ok (by simp [lightOp, ho]) ?_
    simp only [alight, ho]
    cases aev C T tu <;> (try rfl)
    exact nthQ_eq _ _
  case alloc e =>
    show Option.rec (motive := fun _ => TypeId → KL) (fun _ _ _ _ _ _ _ _ => none) (fun cs e n dst T D B H k => newQ (.cells e cs 0 true) n dst T D B H k) (zeroT C.P e) e F.n o.dst T D B H k = _
    have hl : lightOp C o = false := by simp [lightOp, ho]
    simp only [doStep, aop, hl, cond_false, aheavy, ho, afresh]
    cases zeroT C.P e with
    | none => rfl
    | some cs => exact newQ_eq _ _ _ _ _ _ _ _
  case box e v =>
    show Option.rec (motive := fun _ => TypeId → KL) (fun _ _ _ _ _ _ _ _ => none) (fun cs e n dst T D B H k => newQ (.cells e cs 0 true) n dst T D B H k) (cellsQ (evQ C T v)) e F.n o.dst T D B H k = _
    rw [evQ_eq, cellsQ_eq]
    have hl : lightOp C o = false := by simp [lightOp, ho]
    simp only [doStep, aop, hl, cond_false, aheavy, ho, afresh]
    cases (aev C T v).cells with
    | none => rfl
    | some cs => exact newQ_eq _ _ _ _ _ _ _ _
  case store t a v =>
    show Option.rec (motive := fun _ => Nat → Option Tmp → PT AV → List ADef → List AF → KT → Res) (fun _ _ _ _ _ _ => none) (fun H n dst T D B k => k (tputQ T n dst undefA) D B H) (storeQ C.P H t (evQ C T a) (evQ C T v)) F.n o.dst T D B k = _
    rw [evQ_eq, evQ_eq, storeQ_eq]
    have hl : lightOp C o = false := by simp [lightOp, ho]
    simp only [doStep, aop, hl, cond_false, aheavy, ho]
    cases astore C.P H t (aev C T a) (aev C T v) with
    | none => rfl
    | some H' =>
      show k (tputQ T F.n o.dst undefA) D B H' = _
      rw [tputQ_eq]; rfl
  case convert sr ds x =>
    show Option.rec (motive := fun _ => Operand → KO) (fun _ => fbkQ) (fun kd x C cb F n o dst T D B H k => lkI (cvQ kd (evQ C T x)) n dst T D B H k) (cvOf C.P sr ds) x C cb F F.n o o.dst T D B H k = _
    cases hcv : cvOf C.P sr ds with
    | none => rfl
    | some kd =>
      show lkI (cvQ kd (evQ C T x)) F.n o.dst T D B H k = _
      unfold cvOf at hcv
      split at hcv <;> (try (cases hcv; done))
      rename_i h1 h2
      cases hcv
      rw [lkI_eq, evQ_eq]
      refine light_ok (by simp [lightOp, ho, h2]) ?_
      simp only [alight, ho, h1, h2]
      cases aev C T x <;> (try rfl)
      show some (AV.i kd (wrapZ kd _)) = _
      rw [wrapZ_aWrap]
  case call c => exact calleeQ_eq o c ho
end

end Go.Am

/-! Printed by gen_fm4.py: code, frames and calls, by recursors. -/
namespace Go.Am

def execL (C : Cx) (cb : CB) (F : FI) (ops : Array Oper) : List Oper → DS → Res
  | [], s => some (.norm, s)
  | o :: l, s => match awanted ops s.T o with
    | none => none
    | some false => execL C cb F ops l { s with T := tput s.T F.n o.dst undefA }
    | some true => match doStep C cb F o s with
      | some (.norm, s) => execL C cb F ops l s
      | r => r
theorem execL_range (C : Cx) (cb : CB) (F : FI) (ops : Array Oper) : ∀ (m k : Nat) (s : DS), k + m = ops.size → execOps C cb F ops (List.range' k m) s = execL C cb F ops (ops.toList.drop k) s := by
  intro m
  induction m with
  | zero => intro k s h; rw [List.drop_of_length_le (by simp; omega)]; rfl
  | succ m ih =>
    intro k s h
    have hk : k < ops.toList.length := by simp; omega
    rw [List.drop_eq_getElem_cons hk, List.range'_succ]
    have ho : ops[k]? = some ops.toList[k] := by simp at hk ⊢
    simp only [execOps, execL, ho, doStep]
    cases awanted ops s.T ops.toList[k] with
    | none => rfl
    | some b =>
      cases b with
      | false => exact ih _ _ (by omega)
      | true =>
        simp only
        cases aop C (aev C s.T) s.H ops.toList[k] with
        | none => rfl
        | some p =>
          obtain ⟨n, H⟩ := p
          simp only
          cases doAN C cb F ops.toList[k] { s with H := H } n with
          | none => rfl
          | some q =>
            obtain ⟨o, s'⟩ := q
            cases o <;> (try rfl)
            exact ih _ _ (by omega)
theorem execOps_list (C : Cx) (cb : CB) (F : FI) (ops : Array Oper) (s : DS) : execOps C cb F ops (List.range ops.size) s = execL C cb F ops ops.toList s := by
  rw [List.range_eq_range', execL_range C cb F ops _ 0 s (by omega)]
  simp

abbrev KQ := Cx → CB → FI → Nat → Array Oper → PT AV → List ADef → List AF → AH → Res

noncomputable def wantAQ (w : Bool) (a : AV) : Option Bool :=
  AV.rec (motive_1 := fun _ => Bool → Option Bool) (motive_2 := fun _ => Unit)
    (fun xb w => some (eqB xb w))
    (fun _ _ _ => none)
    (fun _ _ => none)
    (fun _ => none)
    (fun _ => none)
    (fun _ => none)
    (fun _ => none)
    (fun _ => none)
    (fun _ _ _ => none)
    (fun _ _ _ _ _ => none)
    (fun _ => none)
    (fun _ _ _ => none)
    (fun _ _ _ _ => none)
    (fun _ _ => none)
    (fun _ _ _ _ _ _ => none)
    (fun _ _ => none)
    (fun _ _ _ _ => none)
    (fun _ _ _ => none)
    (fun _ _ _ => some false)
    (fun _ _ => none)
    (fun _ => none)
    () (fun _ _ _ _ => ())
    a w
noncomputable def wantQ (ops : Array Oper) (T : PT AV) (j : Nat) (w : Bool) : Option Bool :=
  Option.rec (motive := fun _ => PT AV → Bool → Option Bool) (fun _ _ => none) (fun o T w => Option.rec (motive := fun _ => PT AV → Bool → Option Bool) (fun _ _ => none) (fun d T w => Option.rec (motive := fun _ => Bool → Option Bool) (fun _ => none) (fun a w => wantAQ w a) (gT T (path d)) w) o.dst T w) (ops[j]?) T w
theorem wantQ_eq (ops : Array Oper) (T : PT AV) (o : Oper) (j : Nat) (w : Bool) (hg : o.guard = some (j, w)) : wantQ ops T j w = awanted ops T o := by
  unfold wantQ awanted ayield
  simp only [hg]
  cases ops[j]? with
  | none => rfl
  | some q =>
    simp only
    cases q.dst with
    | none => rfl
    | some d =>
      simp only [gT_eq, PT.get]
      cases T.getP (path d) with
      | none => rfl
      | some a =>
        show wantAQ w a = _
        cases a <;> (try rfl)
        show some (eqB _ w) = _
        rw [eqB_eq]
/-- one operation, and the rest -/
noncomputable def runQ (op : Op) (o : Oper) (dst : Option Tmp) (ih : KQ) : KQ := fun C cb F n ops T D B H => opQ op C cb F n o dst T D B H (ih C cb F n ops)
noncomputable def guardQ (op : Op) (o : Oper) (dst : Option Tmp) (ih : KQ) (jw : Nat × Bool) : KQ := fun C cb F n ops T D B H =>
  Option.rec (motive := fun _ => Op → Oper → Option Tmp → KQ → KQ) (fun _ _ _ _ _ _ _ _ _ _ _ _ _ => none)
    (fun b op o dst ih C cb F n ops T D B H => Bool.rec (motive := fun _ => Op → Oper → Option Tmp → KQ → KQ) (fun _ _ dst ih C cb F n ops T D B H => ih C cb F n ops (tputQ T n dst undefA) D B H) runQ b op o dst ih C cb F n ops T D B H)
    (Prod.rec (motive := fun _ => Array Oper → PT AV → Option Bool) (fun j w ops T => wantQ ops T j w) jw ops T) op o dst ih C cb F n ops T D B H
noncomputable def stepQ (o : Oper) (ih : KQ) : KQ := fun C cb F n ops T D B H =>
  Oper.rec (motive := fun _ => Oper → KQ → KQ) (fun dst op _ _ _ guard o ih C cb F n ops T D B H => Option.rec (motive := fun _ => Op → Oper → Option Tmp → KQ → KQ) runQ (fun jw op o dst ih => guardQ op o dst ih jw) guard op o dst ih C cb F n ops T D B H) o o ih C cb F n ops T D B H
noncomputable def execLQ (l : List Oper) : KQ := fun C cb F n ops T D B H =>
  List.rec (motive := fun _ => KQ) (fun _C _cb _F _n _ops T D B H => some (.norm, ⟨T, D, B, H⟩)) (fun o _ ih C cb F n ops T D B H => stepQ o ih C cb F n ops T D B H) l C cb F n ops T D B H
theorem contQ_execL {C : Cx} {cb : CB} {F : FI} {ops : Array Oper} {l : List Oper} (r : Res) (k : KT) (hk : ∀ T D B H, k T D B H = execL C cb F ops l ⟨T, D, B, H⟩) : contQ r k = (match r with | some (.norm, s) => execL C cb F ops l s | r => r) := by
  cases r with
  | none => rfl
  | some p =>
    obtain ⟨o, s⟩ := p
    cases o <;> (try rfl)
    exact hk _ _ _ _
theorem execLQ_eq (C : Cx) (cb : CB) (F : FI) (ops : Array Oper) : ∀ (l : List Oper) (T : PT AV) (D : List ADef) (B : List AF) (H : AH), execLQ l C cb F F.n ops T D B H = execL C cb F ops l ⟨T, D, B, H⟩
  | [], _, _, _, _ => rfl
  | o :: l, T, D, B, H => by
    have run : ∀ T, runQ o.op o o.dst (execLQ l) C cb F F.n ops T D B H = (match doStep C cb F o ⟨T, D, B, H⟩ with | some (.norm, s) => execL C cb F ops l s | r => r) := by
      intro T
      unfold runQ
      rw [opQ_eq]
      exact contQ_execL _ _ (fun T D B H => execLQ_eq C cb F ops l T D B H)
    have step : execLQ (o :: l) C cb F F.n ops T D B H = (Option.rec (motive := fun _ => Op → Oper → Option Tmp → KQ → KQ) runQ (fun jw op o dst ih => guardQ op o dst ih jw) o.guard o.op o o.dst (execLQ l) C cb F F.n ops T D B H : Res) := by
      show stepQ o (execLQ l) C cb F F.n ops T D B H = _
      cases o; rfl
    rw [step]
    simp only [execL]
    cases hg : o.guard with
    | none =>
      have hw : awanted ops T o = some true := by simp [awanted, hg]
      rw [hw]
      exact run T
    | some jw =>
      obtain ⟨j, w⟩ := jw
      show guardQ o.op o o.dst (execLQ l) (j, w) C cb F F.n ops T D B H = _
      unfold guardQ
      simp only [wantQ_eq ops T o j w hg]
      cases awanted ops T o with
      | none => rfl
      | some b =>
        cases b with
        | false =>
          show execLQ l C cb F F.n ops (tputQ T F.n o.dst undefA) D B H = _
          rw [tputQ_eq, execLQ_eq C cb F ops l]
        | true => exact run T
/-! ## Code -/
noncomputable def seqQ (r : Res) (f : DS → Res) : Res :=
  Option.rec (motive := fun _ => (DS → Res) → Res) (fun _ => none) (fun p f => Prod.rec (motive := fun _ => (DS → Res) → Res) (fun o s f => Out.rec (motive := fun _ => DS → (DS → Res) → Res) (fun s f => f s) (fun id s _ => some (.exit id, s)) (fun s _ => some (.ret, s)) (fun ch s _ => some (.pan ch, s)) o s f) p f) r f
theorem seqQ_eq (r : Res) (f : DS → Res) : seqQ r f = (match r with | some (.norm, s) => f s | r => r) := by
  cases r with
  | none => rfl
  | some p => obtain ⟨o, s⟩ := p; cases o <;> rfl
noncomputable def blockQ (id : Nat) (r : Res) : Res :=
  Option.rec (motive := fun _ => Nat → Res) (fun _ => none) (fun p id => Prod.rec (motive := fun _ => Nat → Res) (fun o s id => Out.rec (motive := fun _ => DS → Nat → Res) (fun s _ => some (.norm, s)) (fun i s id => Bool.rec (motive := fun _ => Res) (some (.exit i, s)) (some (.norm, s)) (Nat.beq id i)) (fun s _ => some (.ret, s)) (fun ch s _ => some (.pan ch, s)) o s id) p id) r id
theorem blockQ_eq (id : Nat) (r : Res) : blockQ id r = (match r with | some (.exit i, s) => cond (id == i) (some (.norm, s)) (some (.exit i, s)) | r => r) := by
  cases r with
  | none => rfl
  | some p =>
    obtain ⟨o, s⟩ := p
    cases o <;> (try rfl)
    rename_i i
    show (Bool.rec (motive := fun _ => Res) (some (.exit i, s)) (some (.norm, s)) (Nat.beq id i) : Res) = cond (id == i) _ _
    have : (id == i) = Nat.beq id i := by rw [Bool.eq_iff_iff, beq_iff_eq, Nat.beq_eq]
    rw [this]
    cases Nat.beq id i <;> rfl
noncomputable def iterQ (f : DS → Res) (n : Nat) (s : DS) : Res := Nat.rec (motive := fun _ => (DS → Res) → DS → Res) (fun _ _ => none) (fun _ ih f s => seqQ (f s) (ih f)) n f s
theorem iterQ_eq (f : DS → Res) : ∀ (n : Nat) (s : DS), iterQ f n s = iter f n s
  | 0, _ => rfl
  | n + 1, s => by
    show seqQ (f s) (iterQ f n) = _
    rw [seqQ_eq]
    simp only [iter]
    cases f s with
    | none => rfl
    | some p =>
      obtain ⟨o, s'⟩ := p
      cases o <;> (try rfl)
      exact iterQ_eq f n s'
abbrev KX := Cx → CB → Nat → FI → DS → Res
noncomputable def regQ (ops : Array Oper) (C : Cx) (cb : CB) (F : FI) (s : DS) : Res := DS.rec (motive := fun _ => Array Oper → Cx → CB → FI → Res) (fun T D B H ops C cb F => execLQ ops.toList C cb F F.n ops T D B H) s ops C cb F
def drawX (ops : Array Oper) (C : Cx) (cb : CB) (F : FI) (s : DS) : Res :=
  cond (apartOK ops) (match drawRun C cb.sub (mkF F s []) (masks ops) ops (ops.size + 1) [] [] s.T s.B s.H with
    | some (.val _, T, B, H) => some (.norm, { s with T := T, B := B, H := H })
    | some (.panic ch, _, B, H) => some (.pan ch, { s with T := .lf, B := B, H := H })
    | none => none) none

noncomputable def condQ (c : AV) (ra rb : KX) : KX := fun C cb n F s =>
  AV.rec (motive_1 := fun _ => KX → KX → KX) (motive_2 := fun _ => Unit)
    (fun xb ra rb C cb n F s => Bool.rec (motive := fun _ => KX → KX → KX) (fun _ rb => rb) (fun ra _ => ra) xb ra rb C cb n F s)
    (fun _ _ _ _ _ _ _ _ _ => none)
    (fun _ _ _ _ _ _ _ _ => none)
    (fun _ _ _ _ _ _ _ => none)
    (fun _ _ _ _ _ _ _ => none)
    (fun _ _ _ _ _ _ _ => none)
    (fun _ _ _ _ _ _ _ => none)
    (fun _ _ _ _ _ _ _ => none)
    (fun _ _ _ _ _ _ _ _ _ => none)
    (fun _ _ _ _ _ _ _ _ _ _ _ => none)
    (fun _ _ _ _ _ _ _ => none)
    (fun _ _ _ _ _ _ _ _ _ => none)
    (fun _ _ _ _ _ _ _ _ _ _ => none)
    (fun _ _ _ _ _ _ _ _ => none)
    (fun _ _ _ _ _ _ _ _ _ _ _ _ => none)
    (fun _ _ _ _ _ _ _ _ => none)
    (fun _ _ _ _ _ _ _ _ _ _ => none)
    (fun _ _ _ _ _ _ _ _ _ => none)
    (fun _ _ _ _ _ _ _ _ _ => none)
    (fun _ _ _ _ _ _ _ _ => none)
    (fun _ _ _ _ _ _ _ => none)
    () (fun _ _ _ _ => ())
    c ra rb C cb n F s
noncomputable def execQ (c : Code) : KX := fun C cb n F s =>
  Code.rec (motive := fun _ => KX)
    (fun _ _ _ _ s => some (.norm, s))
    (fun _ ops dr C cb _ F s => Bool.rec (motive := fun _ => Array Oper → Cx → CB → FI → DS → Res) regQ drawX dr ops C cb F s)
    (fun _ _ ra rb C cb n F s => seqQ (ra C cb n F s) (rb C cb n F))
    (fun c _ _ ra rb C cb n F s => condQ (evQ C (DS.T s) c) ra rb C cb n F s)
    (fun id _ rb C cb n F s => blockQ id (rb C cb n F s))
    (fun _ rb C cb n F s => iterQ (rb C cb n F) n s)
    (fun f ps asg b _ _ C cb _ F s => execRF C cb F f ps asg b s)
    (fun id _ _ _ _ s => some (.exit id, s))
    (fun _ rb C cb n F s => rb C cb n F s)
    (fun _ _ _ _ _ s => some (.norm, s))
    (fun _ _ _ _ _ _ => none)
    (fun _ _ _ _ s => some (.ret, s))
    (fun _ _ _ _ _ _ => none)
    c C cb n F s
theorem condQ_eq (c : AV) (ra rb : KX) (C : Cx) (cb : CB) (n : Nat) (F : FI) (s : DS) : condQ c ra rb C cb n F s = (match c with | .b true => ra C cb n F s | .b false => rb C cb n F s | _ => none) := by
  cases c <;> (try rfl)
  rename_i x; cases x <;> rfl
theorem execQ_eq (C : Cx) (cb : CB) (n : Nat) (F : FI) : ∀ (c : Code) (s : DS), execQ c C cb n F s = exec C cb n F c s
  | .skip, s | .label _, s | .exit _, s | .ret, s | .goto _, s | .refuse _, s | .rangeFunc _ _ _ _, s => by simp only [exec]; rfl
  | .region id ops false, s => by
    simp only [exec, execOps_list]
    exact execLQ_eq C cb F ops _ _ _ _ _
  | .region id ops true, s => by simp only [exec]; rfl
  | .seq a b, s => by
    show seqQ (execQ a C cb n F s) (execQ b C cb n F) = _
    rw [seqQ_eq, execQ_eq C cb n F a]
    simp only [exec]
    cases exec C cb n F a s with
    | none => rfl
    | some p =>
      obtain ⟨o, s'⟩ := p
      cases o <;> (try rfl)
      exact execQ_eq C cb n F b s'
  | .cond c a b, s => by
    show condQ (evQ C s.T c) (execQ a) (execQ b) C cb n F s = _
    rw [condQ_eq, evQ_eq, execQ_eq C cb n F a, execQ_eq C cb n F b]
    simp only [exec]
    rfl
  | .block id b, s => by
    show blockQ id (execQ b C cb n F s) = _
    rw [blockQ_eq, execQ_eq C cb n F b]
    simp only [exec]
    rfl
  | .loop b, s => by
    show iterQ (execQ b C cb n F) n s = _
    rw [iterQ_eq, show execQ b C cb n F = exec C cb n F b from funext (execQ_eq C cb n F b)]
    simp only [exec]
  | .scope b, s => by
    show execQ b C cb n F s = _
    rw [execQ_eq C cb n F b]
    simp only [exec]
/-! ## Frames -/
noncomputable def unwQ (C : Cx) (cb : CB) (n : Nat) (g : AF) (B : List AF) (H : AH) : Option (AF × List AF × AH) :=
  AF.rec (motive := fun _ => Cx → CB → Nat → AF → List AF → AH → Option (AF × List AF × AH)) (fun _fn _tmps _nn _todo defers _mode _kind _ro C cb n g B H => List.rec (motive := fun _ => Cx → CB → Nat → AF → List AF → AH → Option (AF × List AF × AH)) (fun _ _ _ g B H => some (g, B, H)) (fun _ _ _ C cb n g B H => unwindD C cb n g B H) defers C cb n g B H) g C cb n g B H
theorem unwQ_eq (C : Cx) (cb : CB) (n : Nat) (g : AF) (B : List AF) (H : AH) : unwQ C cb (n + 1) g B H = unwindD C cb (n + 1) g B H := by
  obtain ⟨a1, a2, a3, a4, a5, a6, a7, a8⟩ := g
  cases a5 with
  | nil => simp only [unwindD]; rfl
  | cons => rfl
noncomputable def finQ (C : Cx) (cb : CB) (n : Nat) (F : FI) (r : Res) : Option (AF × List AF × AH) :=
  Option.rec (motive := fun _ => Cx → CB → Nat → FI → Option (AF × List AF × AH)) (fun _ _ _ _ => none) (fun p C cb n F => Prod.rec (motive := fun _ => Cx → CB → Nat → FI → Option (AF × List AF × AH)) (fun o s C cb n F => Out.rec (motive := fun _ => DS → Cx → CB → Nat → FI → Option (AF × List AF × AH))
    (fun s C cb n F => unwQ C cb n (mkL F s .ret) s.B s.H) (fun _ _ _ _ _ _ => none) (fun s C cb n F => unwQ C cb n (mkL F s .ret) s.B s.H) (fun ch s C cb n F => unwQ C cb n (mkL F s (.pan ch)) s.B s.H) o s C cb n F) p C cb n F) r C cb n F
noncomputable def frameQ (C : Cx) (cb : CB) (n : Nat) (g : AF) (B : List AF) (H : AH) : Option (AF × List AF × AH) :=
  AF.rec (motive := fun _ => Cx → CB → Nat → List AF → AH → Option (AF × List AF × AH)) (fun fn tmps nn todo defers mode kind ro C cb n B H =>
    Option.rec (motive := fun _ => List AI → AMode → FI → DS → Cx → CB → Nat → Option (AF × List AF × AH)) (fun todo mode F s C cb n => AMode.rec (motive := fun _ => List AI → FI → DS → Cx → CB → Nat → Option (AF × List AF × AH))
      (fun todo F s C cb n => List.rec (motive := fun _ => FI → DS → Cx → CB → Nat → Option (AF × List AF × AH)) (fun _ _ _ _ _ => none) (fun i l _ F s C cb n => List.rec (motive := fun _ => AI → FI → DS → Cx → CB → Nat → Option (AF × List AF × AH))
        (fun i F s C cb n => AI.rec (motive := fun _ => FI → DS → Cx → CB → Nat → Option (AF × List AF × AH)) (fun c F s C cb n => finQ C cb n F (execQ c C cb n F s)) (fun _ _ _ _ _ _ => none) (fun _ _ _ _ _ _ => none) (fun _ _ _ _ _ _ => none) (fun _ _ _ _ _ _ _ => none) (fun _ _ _ _ _ _ => none) (fun _ _ _ _ _ _ => none) (fun _ _ _ _ _ => none) i F s C cb n)
        (fun _ _ _ _ _ _ _ _ _ => none) l i F s C cb n) todo F s C cb n) (fun _ _ _ _ _ _ => none) (fun _ _ _ _ _ _ _ => none) mode todo F s C cb n) (fun _ _ _ _ _ _ _ _ => none) ro todo mode ⟨fn, nn, kind, none⟩ ⟨tmps, defers, B, H⟩ C cb n) g C cb n B H
theorem finQ_eq (C : Cx) (cb : CB) (n : Nat) (F : FI) (r : Res) : finQ C cb (n + 1) F r = (match r with
    | some (.norm, s) | some (.ret, s) => unwindD C cb (n + 1) (mkL F s .ret) s.B s.H
    | some (.pan ch, s) => unwindD C cb (n + 1) (mkL F s (.pan ch)) s.B s.H
    | _ => none) := by
  cases r with
  | none => rfl
  | some p =>
    obtain ⟨o, s⟩ := p
    cases o with
    | norm => exact unwQ_eq C cb n (mkL F s .ret) s.B s.H
    | ret => exact unwQ_eq C cb n (mkL F s .ret) s.B s.H
    | pan ch => exact unwQ_eq C cb n (mkL F s (.pan ch)) s.B s.H
    | exit i => rfl
theorem frameQ_eq (C : Cx) (cb : CB) (n : Nat) (g : AF) (B : List AF) (H : AH) : frameQ C cb (n + 1) g B H = frameD C cb (n + 1) g B H := by
  obtain ⟨fn, tmps, nn, todo, defers, mode, kind, ro⟩ := g
  cases ro with
  | some => simp only [frameD]; rfl
  | none =>
    cases mode with
    | ret => simp only [frameD]; rfl
    | pan => simp only [frameD]; rfl
    | run =>
      cases todo with
      | nil => simp only [frameD]; rfl
      | cons i l =>
        cases l with
        | cons => simp only [frameD]; rfl
        | nil =>
          cases i <;> (try (simp only [frameD]; rfl))
          rename_i c
          show finQ C cb (n + 1) ⟨fn, nn, kind, none⟩ (execQ c C cb (n + 1) ⟨fn, nn, kind, none⟩ ⟨tmps, defers, B, H⟩) = _
          rw [finQ_eq, execQ_eq]
          simp only [frameD]
          rfl
/-- (a round, with whatever runs its code) -/
def roundG (C : Cx) (ex : FI → Code → DS → Res) (id : Nat) (args : List AV) (H : AH) : Option (CR × AH) :=
  match H.get id with
  | some (.loop l) => if l.params.size = args.length then
      let F : FI := { fn := l.fn, n := l.n, kind := .normal, roundOf := some id }
      (match ex F l.assign { T := (l.params.toList.zip args).foldl (fun T p => tset T l.n p.1 p.2) l.tmps, D := [], B := [], H := H } with
      | some (.norm, s) => (match s.H.get id with
        | some (.loop l1) => (match l1.state with
          | .ready => (match ex F l.body { s with H := s.H.put id (.loop { l1 with state := .busy }) } with
            | some (o, { T := _, D := [], B := [], H := H3 }) =>
              let fin (jump : Option Code) : Option (CR × AH) := (match H3.get id with
                | some (.loop l3) => some (.val (.b jump.isNone), H3.put id (.loop { l3 with state := if jump.isNone then .ready else .done, pending := jump }))
                | _ => none)
              (match o with
              | .norm => fin none
              | .ret => fin (some .ret)
              | .exit i => fin (some (.exit i))
              | .pan ch => (match C.P.funcs[l.fn]? with | some _ => some (.pan ch, H3) | none => none))
            | _ => none)
          | _ => none)
        | _ => none)
      | _ => none) else none
  | _ => none
theorem roundG_eq (C : Cx) (cb : CB) (n id : Nat) (args : List AV) (H : AH) : roundG C (fun F c s => execQ c C cb n F s) id args H = roundD C cb n id args H := by
  have : (fun F c s => execQ c C cb n F s) = (fun F c s => exec C cb n F c s) := by funext F c s; exact execQ_eq C cb n F c s
  rw [this]
  rfl
noncomputable def cbsQ (C : Cx) (n : Nat) : CB := Nat.rec (motive := fun _ => Cx → CB) (fun _ => ⟨fun _ _ _ => none, fun _ _ _ => none⟩) (fun n ih C => ⟨frameQ C (ih C) (Nat.succ n), roundG C (fun F c s => execQ c C (ih C) (Nat.succ n) F s)⟩) n C
theorem cbsQ_eq (C : Cx) : ∀ n, cbsQ C n = cbs C n
  | 0 => rfl
  | n + 1 => by
    show (⟨frameQ C (cbsQ C n) (n + 1), roundG C (fun F c s => execQ c C (cbsQ C n) (n + 1) F s)⟩ : CB) = _
    rw [cbsQ_eq C n]
    simp only [cbs]
    congr 1
    · funext g B H; exact frameQ_eq C _ n g B H
    · funext id args H; exact roundG_eq C _ _ _ _ _

end Go.Am
