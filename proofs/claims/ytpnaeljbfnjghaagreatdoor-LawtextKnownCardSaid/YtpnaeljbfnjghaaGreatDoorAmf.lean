/-
  The same big steps by recursors: tries, cells, integers, equality. (Equations; no condition.)
-/
import Derived.Test.YtpnaeljbfnjghaaGreatDoorAme
import Derived.IntWalk
/-! Printed by gen_fm.py: the big steps once more, by recursors whose minor premises are closed: so the kernel runs them quickly. -/
namespace Go.Am

theorem bleT {a b : Nat} (h : a ≤ b) : Nat.ble a b = true := by rw [Nat.ble_eq]; exact h
theorem bleF {a b : Nat} (h : ¬ a ≤ b) : Nat.ble a b = false := by
  cases hb : Nat.ble a b
  · rfl
  · rw [Nat.ble_eq] at hb; exact absurd hb h
theorem beqT {a b : Nat} (h : a = b) : Nat.beq a b = true := by rw [Nat.beq_eq]; exact h

abbrev Res := Option (Out × DS)
abbrev KT := PT AV → List ADef → List AF → AH → Res

noncomputable def gT : PT AV → Path → Option AV :=
  PT.rec (motive := fun _ => Path → Option AV) (fun _ => none)
    (fun _ v _ gl gr p => Path.rec (motive := fun _ => Option AV → (Path → Option AV) → (Path → Option AV) → Option AV) (fun v _ _ => v) (fun p _ _ gl _ => gl p) (fun p _ _ _ gr => gr p) p v gl gr)
theorem gT_eq : ∀ (t : PT AV) (p : Path), gT t p = t.getP p
  | .lf, _ => rfl
  | .nd _ _ _, .here => rfl
  | .nd l _ _, .l p => gT_eq l p
  | .nd _ _ r, .r p => gT_eq r p
noncomputable def mT : Path → Option AV → PT AV :=
  Path.rec (motive := fun _ => Option AV → PT AV) (fun x => .nd .lf x .lf) (fun _ ih x => .nd (ih x) none .lf) (fun _ ih x => .nd .lf none (ih x))
noncomputable def sT : PT AV → Path → Option AV → PT AV :=
  PT.rec (motive := fun _ => Path → Option AV → PT AV) mT
    (fun l v r sl sr p x => Path.rec (motive := fun _ => Option AV → PT AV → Option AV → PT AV → (Path → Option AV → PT AV) → (Path → Option AV → PT AV) → PT AV) (fun x l _ r _ _ => .nd l x r) (fun p _ x _ v r sl _ => .nd (sl p x) v r) (fun p _ x l v _ _ sr => .nd l v (sr p x)) p x l v r sl sr)
theorem mT_eq (x : Option AV) : ∀ p : Path, mT p x = PT.setP x .lf p
  | .here => by simp only [PT.setP]; rfl
  | .l p => by simp only [PT.setP, ← mT_eq x p]; rfl
  | .r p => by simp only [PT.setP, ← mT_eq x p]; rfl
theorem sT_eq (x : Option AV) : ∀ (p : Path) (t : PT AV), sT t p x = PT.setP x t p
  | p, .lf => mT_eq x p
  | .here, .nd _ _ _ => by simp only [PT.setP]; rfl
  | .l p, .nd l _ _ => by simp only [PT.setP, ← sT_eq x p l]; rfl
  | .r p, .nd _ _ r => by simp only [PT.setP, ← sT_eq x p r]; rfl

noncomputable def gB : PT Blk → Path → Option Blk :=
  PT.rec (motive := fun _ => Path → Option Blk) (fun _ => none)
    (fun _ v _ gl gr p => Path.rec (motive := fun _ => Option Blk → (Path → Option Blk) → (Path → Option Blk) → Option Blk) (fun v _ _ => v) (fun p _ _ gl _ => gl p) (fun p _ _ _ gr => gr p) p v gl gr)
theorem gB_eq : ∀ (t : PT Blk) (p : Path), gB t p = t.getP p
  | .lf, _ => rfl
  | .nd _ _ _, .here => rfl
  | .nd l _ _, .l p => gB_eq l p
  | .nd _ _ r, .r p => gB_eq r p
noncomputable def mB : Path → Option Blk → PT Blk :=
  Path.rec (motive := fun _ => Option Blk → PT Blk) (fun x => .nd .lf x .lf) (fun _ ih x => .nd (ih x) none .lf) (fun _ ih x => .nd .lf none (ih x))
noncomputable def sB : PT Blk → Path → Option Blk → PT Blk :=
  PT.rec (motive := fun _ => Path → Option Blk → PT Blk) mB
    (fun l v r sl sr p x => Path.rec (motive := fun _ => Option Blk → PT Blk → Option Blk → PT Blk → (Path → Option Blk → PT Blk) → (Path → Option Blk → PT Blk) → PT Blk) (fun x l _ r _ _ => .nd l x r) (fun p _ x _ v r sl _ => .nd (sl p x) v r) (fun p _ x l v _ _ sr => .nd l v (sr p x)) p x l v r sl sr)
theorem mB_eq (x : Option Blk) : ∀ p : Path, mB p x = PT.setP x .lf p
  | .here => by simp only [PT.setP]; rfl
  | .l p => by simp only [PT.setP, ← mB_eq x p]; rfl
  | .r p => by simp only [PT.setP, ← mB_eq x p]; rfl
theorem sB_eq (x : Option Blk) : ∀ (p : Path) (t : PT Blk), sB t p x = PT.setP x t p
  | p, .lf => mB_eq x p
  | .here, .nd _ _ _ => by simp only [PT.setP]; rfl
  | .l p, .nd l _ _ => by simp only [PT.setP, ← sB_eq x p l]; rfl
  | .r p, .nd _ _ r => by simp only [PT.setP, ← sB_eq x p r]; rfl

noncomputable def tgetQ (T : PT AV) (t : Nat) : AV := Option.rec (motive := fun _ => AV) .any (fun a => a) (gT T (path t))
theorem tgetQ_eq (T : PT AV) (t : Nat) : tgetQ T t = tget T t := by
  unfold tgetQ tget PT.get
  rw [gT_eq]
  cases T.getP (path t) <;> rfl
noncomputable def tputQ (T : PT AV) (n : Nat) (d : Option Nat) (a : AV) : PT AV :=
  Option.rec (motive := fun _ => PT AV → Nat → AV → PT AV) (fun T _ _ => T) (fun d T n a => Bool.rec (motive := fun _ => PT AV) T (sT T (path d) (some a)) (Nat.blt d n)) d T n a
theorem tputQ_eq (T : PT AV) (n : Nat) (d : Option Nat) (a : AV) : tputQ T n d a = tput T n d a := by
  cases d with
  | none => rfl
  | some d =>
    simp only [tputQ, tput, tset, PT.set, ← sT_eq]
    cases Nat.blt d n <;> rfl
noncomputable def hgetQ (H : AH) (id : Nat) : Option Blk := AH.rec (motive := fun _ => Nat → Option Blk) (fun b _ id => gB b (path id)) H id
theorem hgetQ_eq (H : AH) (id : Nat) : hgetQ H id = H.get id := by cases H; exact gB_eq _ _
noncomputable def hputQ (H : AH) (id : Nat) (x : Blk) : AH := AH.rec (motive := fun _ => Nat → Blk → AH) (fun b nx id x => ⟨sB b (path id) (some x), nx⟩) H id x
theorem hputQ_eq (H : AH) (id : Nat) (x : Blk) : hputQ H id x = H.put id x := by
  cases H with
  | mk b nx => simp only [AH.put, PT.set, ← sB_eq]; rfl
noncomputable def gevQ (C : Cx) (g : Nat) : AV := aev C .lf (.global g)

noncomputable def evQ (C : Cx) (T : PT AV) (o : Operand) : AV :=
  Operand.rec (motive := fun _ => Cx → PT AV → AV)
    (fun t _ T => tgetQ T t)
    (fun v _ _ => ofV 3 v)
    (fun g C _ => gevQ C g)
    (fun f _ _ => .fn f [] [])
    o C T
theorem evQ_eq (C : Cx) (T : PT AV) (o : Operand) : evQ C T o = aev C T o := by
  cases o with
  | tmp t => exact tgetQ_eq T t
  | const v => rfl
  | global g => rfl
  | func f => rfl

noncomputable def nthQ : List AV → Nat → Option AV :=
  List.rec (motive := fun _ => Nat → Option AV) (fun _ => none) (fun a _ ih i => Nat.rec (motive := fun _ => AV → (Nat → Option AV) → Option AV) (fun a _ => some a) (fun j _ _ ih => ih j) i a ih)
theorem nthQ_eq : ∀ (l : List AV) (i : Nat), nthQ l i = l[i]?
  | [], _ => rfl
  | _ :: _, 0 => rfl
  | _ :: l, i + 1 => by simp only [List.getElem?_cons_succ]; exact nthQ_eq l i
noncomputable def nthU : List UInt8 → Nat → Option UInt8 :=
  List.rec (motive := fun _ => Nat → Option UInt8) (fun _ => none) (fun a _ ih i => Nat.rec (motive := fun _ => UInt8 → (Nat → Option UInt8) → Option UInt8) (fun a _ => some a) (fun j _ _ ih => ih j) i a ih)
theorem nthU_eq : ∀ (l : List UInt8) (i : Nat), nthU l i = l[i]?
  | [], _ => rfl
  | _ :: _, 0 => rfl
  | _ :: l, i + 1 => by simp only [List.getElem?_cons_succ]; exact nthU_eq l i
noncomputable def dropQ : List AV → Nat → List AV :=
  List.rec (motive := fun _ => Nat → List AV) (fun _ => []) (fun a l ih i => Nat.rec (motive := fun _ => AV → List AV → (Nat → List AV) → List AV) (fun a l _ => a :: l) (fun j _ _ _ ih => ih j) i a l ih)
theorem dropQ_eq : ∀ (l : List AV) (i : Nat), dropQ l i = l.drop i
  | [], i => by simp; rfl
  | _ :: _, 0 => rfl
  | _ :: l, i + 1 => by simp only [List.drop_succ_cons]; exact dropQ_eq l i
noncomputable def takeQ : List AV → Nat → List AV :=
  List.rec (motive := fun _ => Nat → List AV) (fun _ => []) (fun a _ ih i => Nat.rec (motive := fun _ => AV → (Nat → List AV) → List AV) (fun _ _ => []) (fun j _ a ih => a :: ih j) i a ih)
theorem takeQ_eq : ∀ (l : List AV) (i : Nat), takeQ l i = l.take i
  | [], i => by simp; rfl
  | _ :: _, 0 => rfl
  | a :: l, i + 1 => by simp only [List.take_succ_cons, ← takeQ_eq l i]; rfl
noncomputable def lenQ : List AV → Nat := List.rec (motive := fun _ => Nat) 0 (fun _ _ ih => Nat.succ ih)
theorem lenQ_eq : ∀ l : List AV, lenQ l = l.length
  | [] => rfl
  | _ :: l => congrArg Nat.succ (lenQ_eq l)
noncomputable def appQ : List AV → List AV → List AV := List.rec (motive := fun _ => List AV → List AV) (fun l => l) (fun a _ ih l => a :: ih l)
theorem appQ_eq : ∀ l k : List AV, appQ l k = l ++ k
  | [], _ => rfl
  | a :: l, k => congrArg (a :: ·) (appQ_eq l k)
noncomputable def setManyQ (cs : List AV) (off : Nat) (vs : List AV) : List AV := appQ (takeQ cs off) (appQ vs (dropQ cs (Nat.add off (lenQ vs))))
theorem setManyQ_eq (cs : List AV) (off : Nat) (vs : List AV) : setManyQ cs off vs = setMany cs off vs := by
  unfold setManyQ setMany
  rw [appQ_eq, appQ_eq, takeQ_eq, dropQ_eq, lenQ_eq, List.append_assoc]
  rfl

noncomputable def oneQ (a : AV) : Bool :=
  AV.rec (motive_1 := fun _ => Bool) (motive_2 := fun _ => Unit)
    (fun _ => true)
    (fun _ _ => true)
    (fun _ => true)
    (true)
    (true)
    (true)
    (true)
    (true)
    (fun _ _ => true)
    (fun _ _ _ _ => true)
    (true)
    (fun _ _ => true)
    (fun _ _ _ => true)
    (fun _ => true)
    (fun _ _ _ _ _ => true)
    (fun _ => true)
    (fun _ _ _ => true)
    (fun _ _ => false)
    (fun _ _ => false)
    (fun opv => opv.oneCell')
    (false)
    () (fun _ _ _ _ => ())
    a
theorem oneQ_eq (a : AV) : oneQ a = a.one := by cases a <;> rfl
noncomputable def allOneQ : List AV → Bool := List.rec (motive := fun _ => Bool) true (fun a _ ih => Bool.rec (motive := fun _ => Bool) false ih (oneQ a))
theorem allOneQ_eq : ∀ l : List AV, allOneQ l = l.all AV.one
  | [] => rfl
  | a :: l => by
    rw [List.all_cons, ← allOneQ_eq l, ← oneQ_eq a]
    show Bool.rec (motive := fun _ => Bool) false (allOneQ l) (oneQ a) = _
    cases oneQ a <;> rfl

noncomputable def cellsQ (a : AV) : Option (List AV) :=
  AV.rec (motive_1 := fun _ => Option (List AV)) (motive_2 := fun _ => Unit)
    (fun xb => some [.b xb])
    (fun kd m => some [.i kd m])
    (fun bs => some [.str bs])
    (some [.nilp])
    (some [.nils])
    (some [.nilm])
    (some [.nilf])
    (some [.nili])
    (fun pid pof => some [.ptr pid pof])
    (fun sid sof sln sst => some [.sl sid sof sln sst])
    (some [.esl])
    (fun pcs _ => some [.ip pcs])
    (fun ics iln _ => some [.isl ics iln])
    (fun mid => some [.mp mid])
    (fun ff ffs fcp _ _ => some [.fn ff ffs fcp])
    (fun yid => some [.yld yid])
    (fun ity ixv _ => some [.ifc ity ixv])
    (fun acs _ => some acs)
    (fun _ _ => none)
    (fun opv => if opv.oneCell' then some [.op opv] else none)
    (none)
    () (fun _ _ _ _ => ())
    a
theorem cellsQ_eq (a : AV) : cellsQ a = a.cells := by cases a <;> rfl
noncomputable def loadFromQ (P : Program) (t : TypeId) (cs : List AV) (off : Nat) : Option AV :=
  Option.rec (motive := fun _ => Program → TypeId → List AV → Nat → Option AV) (fun _ _ _ _ => none)
    (fun b P t cs off => Bool.rec (motive := fun _ => Program → TypeId → List AV → Nat → Option AV) (fun _ _ cs off => nthQ cs off)
      (fun P t cs off => Option.rec (motive := fun _ => List AV → Nat → Option AV) (fun _ _ => none) (fun n cs off => Bool.rec (motive := fun _ => Option AV) none (some (.agg (takeQ (dropQ cs off) n))) (Nat.ble (Nat.add off n) (lenQ cs))) (szT P t) cs off) b P t cs off) (aggT P t) P t cs off
theorem loadFromQ_eq (P : Program) (t : TypeId) (cs : List AV) (off : Nat) : loadFromQ P t cs off = loadFrom P t cs off := by
  unfold loadFromQ loadFrom
  cases aggT P t with
  | none => rfl
  | some b =>
    cases b with
    | false => exact nthQ_eq cs off
    | true =>
      simp only
      cases szT P t with
      | none => rfl
      | some n =>
        simp only [takeQ_eq, dropQ_eq, lenQ_eq]
        by_cases h : off + n ≤ cs.length
        · rw [if_pos h]
          rw [show Nat.ble (Nat.add off n) cs.length = true from bleT h]
        · rw [if_neg h]
          rw [show Nat.ble (Nat.add off n) cs.length = false from bleF h]

noncomputable def loadBQ (P : Program) (t : TypeId) (off : Nat) (b : Option Blk) : Option AV :=
  Option.rec (motive := fun _ => Program → TypeId → Nat → Option AV) (fun _ _ _ => none) (fun b P t off => Blk.rec (motive := fun _ => Program → TypeId → Nat → Option AV)
    (fun _ cs _ _ P t off => loadFromQ P t cs off)
    (fun _ _ _ _ _ => none)
    (fun _ _ _ _ => none)
    (fun _ _ _ => none)
    (fun _ _ _ _ _ => none)
    b P t off) b P t off
noncomputable def loadQ (P : Program) (H : AH) (t : TypeId) (a : AV) : Option AV :=
  AV.rec (motive_1 := fun _ => Program → AH → TypeId → Option AV) (motive_2 := fun _ => Unit)
    (fun _ _ _ _ => none)
    (fun _ _ _ _ _ => none)
    (fun _ _ _ _ => none)
    (fun _ _ _ => none)
    (fun _ _ _ => none)
    (fun _ _ _ => none)
    (fun _ _ _ => none)
    (fun _ _ _ => none)
    (fun pid pof P H t => loadBQ P t pof (hgetQ H pid))
    (fun _ _ _ _ _ _ _ => none)
    (fun _ _ _ => none)
    (fun pcs _ P _ t => loadFromQ P t pcs 0)
    (fun _ _ _ _ _ _ => none)
    (fun _ _ _ _ => none)
    (fun _ _ _ _ _ _ _ _ => none)
    (fun _ _ _ _ => none)
    (fun _ _ _ _ _ _ => none)
    (fun _ _ _ _ _ => none)
    (fun _ _ _ _ _ => none)
    (fun _ _ _ _ => none)
    (fun _ _ _ => none)
    () (fun _ _ _ _ => ())
    a P H t
theorem loadQ_eq (P : Program) (H : AH) (t : TypeId) (a : AV) : loadQ P H t a = aload P H t a := by
  cases a <;> (try rfl)
  · rename_i id off
    show loadBQ P t off (hgetQ H id) = _
    simp only [aload, hgetQ_eq]
    cases H.get id with
    | none => rfl
    | some b => cases b <;> (try rfl); exact loadFromQ_eq _ _ _ _
  · exact loadFromQ_eq _ _ _ _

noncomputable def storeBQ (off : Nat) (xs : List AV) (n : Nat) (H : AH) (id : Nat) (b : Option Blk) : Option AH :=
  Option.rec (motive := fun _ => Nat → List AV → Nat → AH → Nat → Option AH) (fun _ _ _ _ _ => none) (fun b off xs n H id => Blk.rec (motive := fun _ => Nat → List AV → Nat → AH → Nat → Option AH)
    (fun t2 cs frz cl off xs n H id => Bool.rec (motive := fun _ => Option AH) none (Bool.rec (motive := fun _ => Option AH) none (Bool.rec (motive := fun _ => Option AH) none (Bool.rec (motive := fun _ => Option AH) none (some (hputQ H id (.cells t2 (setManyQ cs off xs) frz cl))) (allOneQ xs)) (Nat.ble frz off)) (Nat.ble (Nat.add off n) (lenQ cs))) (Nat.beq (lenQ xs) n))
    (fun _ _ _ _ _ _ _ => none)
    (fun _ _ _ _ _ _ => none)
    (fun _ _ _ _ _ => none)
    (fun _ _ _ _ _ _ _ => none)
    b off xs n H id) b off xs n H id
noncomputable def storeQ (P : Program) (H : AH) (t : TypeId) (a x : AV) : Option AH :=
  AV.rec (motive_1 := fun _ => Program → AH → TypeId → AV → Option AH) (motive_2 := fun _ => Unit)
    (fun _ _ _ _ _ => none)
    (fun _ _ _ _ _ _ => none)
    (fun _ _ _ _ _ => none)
    (fun _ _ _ _ => none)
    (fun _ _ _ _ => none)
    (fun _ _ _ _ => none)
    (fun _ _ _ _ => none)
    (fun _ _ _ _ => none)
    (fun pid pof P H t x => Option.rec (motive := fun _ => Option Nat → Nat → AH → Nat → Option AH) (fun _ _ _ _ => none) (fun xs sz off H id => Option.rec (motive := fun _ => List AV → Nat → AH → Nat → Option AH) (fun _ _ _ _ => none) (fun n xs off H id => storeBQ off xs n H id (hgetQ H id)) sz xs off H id) (cellsQ x) (szT P t) pof H pid)
    (fun _ _ _ _ _ _ _ _ => none)
    (fun _ _ _ _ => none)
    (fun _ _ _ _ _ _ => none)
    (fun _ _ _ _ _ _ _ => none)
    (fun _ _ _ _ _ => none)
    (fun _ _ _ _ _ _ _ _ _ => none)
    (fun _ _ _ _ _ => none)
    (fun _ _ _ _ _ _ _ => none)
    (fun _ _ _ _ _ _ => none)
    (fun _ _ _ _ _ _ => none)
    (fun _ _ _ _ _ => none)
    (fun _ _ _ _ => none)
    () (fun _ _ _ _ => ())
    a P H t x
theorem storeQ_eq (P : Program) (H : AH) (t : TypeId) (a x : AV) : storeQ P H t a x = astore P H t a x := by
  cases a <;> (try rfl)
  rename_i id off
  simp only [storeQ, astore, cellsQ_eq, hgetQ_eq]
  cases hx : x.cells with
  | none => cases H.get id with
    | none => rfl
    | some b => cases b <;> rfl
  | some xs =>
    simp only
    cases hs : szT P t with
    | none => cases H.get id with
      | none => rfl
      | some b => cases b <;> rfl
    | some n =>
      simp only
      cases H.get id with
      | none => rfl
      | some b =>
        cases b <;> (try rfl)
        rename_i t2 cs frz cl
        simp only [storeBQ, setManyQ_eq, hputQ_eq, allOneQ_eq, lenQ_eq]
        by_cases h1 : xs.length = n
        · rw [show Nat.beq xs.length n = true from beqT h1]
          by_cases h2 : off + n ≤ cs.length
          · rw [show Nat.ble (Nat.add off n) cs.length = true from bleT h2]
            by_cases h3 : frz ≤ off
            · rw [show Nat.ble frz off = true from bleT h3]
              cases h4 : xs.all AV.one
              · simp
              · simp [h1, h2, h3]
            · rw [show Nat.ble frz off = false from bleF h3]
              simp [h3]
          · rw [show Nat.ble (Nat.add off n) cs.length = false from bleF h2]
            simp [h2]
        · rw [show Nat.beq xs.length n = false from beqF.2 h1]
          simp [h1]

end Go.Am

/-! Printed by gen_fm2.py: arithmetic and operations, by recursors. -/
namespace Go.Am

/-! ## Integers -/
noncomputable def addZ (x y : Int) : Int :=
  Int.rec (motive := fun _ => Int → Int) (fun m y => Int.rec (motive := fun _ => Nat → Int) (fun n m => .ofNat (Nat.add m n)) (fun n m => Int.subNatNat m (Nat.succ n)) y m)
    (fun m y => Int.rec (motive := fun _ => Nat → Int) (fun n m => Int.subNatNat n (Nat.succ m)) (fun n m => .negSucc (Nat.succ (Nat.add m n))) y m) x y
theorem addZ_eq (x y : Int) : addZ x y = x + y := by cases x <;> cases y <;> rfl
noncomputable def subZ (x y : Int) : Int :=
  Int.rec (motive := fun _ => Int → Int) (fun m y => Int.rec (motive := fun _ => Nat → Int) (fun n m => Bool.rec (motive := fun _ => Int) (.negSucc (Nat.sub (Nat.sub n m) 1)) (.ofNat (Nat.sub m n)) (Nat.ble n m)) (fun n m => .ofNat (Nat.add m (Nat.succ n))) y m)
    (fun m y => .negSucc m - y) x y
theorem subZ_eq (x y : Int) : subZ x y = x - y := by
  cases x with
  | negSucc m => rfl
  | ofNat m =>
    cases y with
    | negSucc n => rfl
    | ofNat n =>
      show (Bool.rec (motive := fun _ => Int) (.negSucc (Nat.sub (Nat.sub n m) 1)) (.ofNat (Nat.sub m n)) (Nat.ble n m) : Int) = _
      have e3 : ∀ a b, Nat.sub a b = a - b := fun _ _ => rfl
      by_cases h : n ≤ m
      · rw [bleT h]
        show Int.ofNat (Nat.sub m n) = _
        rw [e3]
        simp only [Int.ofNat_eq_natCast]
        omega
      · rw [bleF h]
        show Int.negSucc (Nat.sub (Nat.sub n m) 1) = _
        rw [e3, e3, Int.negSucc_eq]
        simp only [Int.ofNat_eq_natCast]
        omega
noncomputable def mulZ (x y : Int) : Int :=
  Int.rec (motive := fun _ => Int → Int) (fun m y => Int.rec (motive := fun _ => Nat → Int) (fun n m => .ofNat (Nat.mul m n)) (fun n m => Int.ofNat m * .negSucc n) y m) (fun m y => .negSucc m * y) x y
theorem mulZ_eq (x y : Int) : mulZ x y = x * y := by cases x <;> cases y <;> rfl

noncomputable def maxN (k : IntKind) : Nat :=
  IntKind.rec (motive := fun _ => Nat)
    (127)
    (32767)
    (2147483647)
    (9223372036854775807)
    (255)
    (65535)
    (4294967295)
    (18446744073709551615)
    k
noncomputable def minN (k : IntKind) : Nat :=
  IntKind.rec (motive := fun _ => Nat)
    (128)
    (32768)
    (2147483648)
    (9223372036854775808)
    (0)
    (0)
    (0)
    (0)
    k
theorem wrap_in (k : IntKind) (n : Int) (h : -(minN k : Int) ≤ n ∧ n ≤ (maxN k : Int)) : k.wrap n = n := by
  obtain ⟨h1, h2⟩ := h
  cases k <;> simp only [minN, maxN] at h1 h2
  · exact IntWalk.i8_in n ⟨by omega, by omega⟩
  · exact IntWalk.i16_in n ⟨by omega, by omega⟩
  · exact IntWalk.i32_in n ⟨by omega, by omega⟩
  · exact IntWalk.i64_in n ⟨by omega, by omega⟩
  · exact IntWalk.u8_in n ⟨by omega, by omega⟩
  · exact IntWalk.u16_in n ⟨by omega, by omega⟩
  · exact IntWalk.u32_in n ⟨by omega, by omega⟩
  · exact IntWalk.u64_in n ⟨by omega, by omega⟩
noncomputable def wrapZ (k : IntKind) (n : Int) : Int :=
  Int.rec (motive := fun _ => IntKind → Int) (fun m k => Bool.rec (motive := fun _ => Int) (k.wrap (.ofNat m)) (.ofNat m) (Nat.ble m (maxN k))) (fun m k => Bool.rec (motive := fun _ => Int) (k.wrap (.negSucc m)) (.negSucc m) (Nat.blt m (minN k))) n k
theorem wrapZ_eq (k : IntKind) (n : Int) : wrapZ k n = k.wrap n := by
  cases n with
  | ofNat m =>
    show (Bool.rec (motive := fun _ => Int) (k.wrap (.ofNat m)) (.ofNat m) (Nat.ble m (maxN k)) : Int) = _
    by_cases h : m ≤ maxN k
    · rw [bleT h]
      exact (wrap_in k _ ⟨by simp only [Int.ofNat_eq_natCast]; omega, by simp only [Int.ofNat_eq_natCast]; omega⟩).symm
    · rw [bleF h]
  | negSucc m =>
    show (Bool.rec (motive := fun _ => Int) (k.wrap (.negSucc m)) (.negSucc m) (Nat.blt m (minN k)) : Int) = _
    by_cases h : m < minN k
    · rw [show Nat.blt m (minN k) = true from bleT h]
      show Int.negSucc m = _
      refine (wrap_in k (Int.negSucc m) ⟨?_, ?_⟩).symm
      · rw [Int.negSucc_eq]; omega
      · rw [Int.negSucc_eq]; omega
    · rw [show Nat.blt m (minN k) = false from bleF h]
theorem wrapZ_aWrap (k : IntKind) (n : Int) : wrapZ k n = aWrap k n := by rw [wrapZ_eq, aWrap_eq]
noncomputable def eqZ (x y : Int) : Bool :=
  Int.rec (motive := fun _ => Int → Bool) (fun m y => Int.rec (motive := fun _ => Nat → Bool) (fun n m => Nat.beq m n) (fun _ _ => false) y m) (fun m y => Int.rec (motive := fun _ => Nat → Bool) (fun _ _ => false) (fun n m => Nat.beq m n) y m) x y
theorem eqZ_eq (x y : Int) : eqZ x y = (x == y) := by
  cases x <;> cases y
  · rename_i m n
    show Nat.beq m n = _
    rw [Bool.eq_iff_iff, Nat.beq_eq, beq_iff_eq]
    simp only [Int.ofNat_eq_natCast]; omega
  · rename_i m n
    show false = _
    rw [Bool.eq_iff_iff, beq_iff_eq]
    simp
  · rename_i m n
    show false = _
    rw [Bool.eq_iff_iff, beq_iff_eq]
    simp
  · rename_i m n
    show Nat.beq m n = _
    rw [Bool.eq_iff_iff, Nat.beq_eq, beq_iff_eq]
    simp
noncomputable def ltZ (x y : Int) : Bool :=
  Int.rec (motive := fun _ => Int → Bool) (fun m y => Int.rec (motive := fun _ => Nat → Bool) (fun n m => Nat.blt m n) (fun _ _ => false) y m) (fun m y => Int.rec (motive := fun _ => Nat → Bool) (fun _ _ => true) (fun n m => Nat.blt n m) y m) x y
theorem ltZ_eq (x y : Int) : ltZ x y = decide (x < y) := by
  cases x <;> cases y
  · rename_i m n
    show Nat.blt m n = _
    rw [Bool.eq_iff_iff, Nat.blt_eq, decide_eq_true_iff]
    simp only [Int.ofNat_eq_natCast]; omega
  · rename_i m n
    show false = _
    rw [Bool.eq_iff_iff, decide_eq_true_iff, Int.negSucc_eq]
    simp only [Int.ofNat_eq_natCast]
    constructor
    · intro h; cases h
    · intro h; omega
  · rename_i m n
    show true = _
    rw [Bool.eq_iff_iff, decide_eq_true_iff, Int.negSucc_eq]
    simp only [Int.ofNat_eq_natCast]
    constructor
    · intro h; omega
    · intro h; trivial
  · rename_i m n
    show Nat.blt n m = _
    rw [Bool.eq_iff_iff, Nat.blt_eq, decide_eq_true_iff, Int.negSucc_eq, Int.negSucc_eq]
    omega
noncomputable def notB (b : Bool) : Bool := Bool.rec (motive := fun _ => Bool) true false b
theorem notB_eq (b : Bool) : notB b = !b := by cases b <;> rfl
theorem le_ltZ (x y : Int) : notB (ltZ y x) = decide (x ≤ y) := by
  rw [notB_eq, ltZ_eq, Bool.eq_iff_iff]; simp
noncomputable def bitQ (_f : Nat → Nat → Nat) (g : BinOp) (k : IntKind) (x y : Int) : Option AV :=
  match aBits g k x y with | some n => some (.i k n) | none => none
noncomputable def shlZ (k : IntKind) (x y : Int) : Option AV :=
  Int.rec (motive := fun _ => IntKind → Int → Option AV) (fun m k y => Int.rec (motive := fun _ => Nat → IntKind → Option AV) (fun n m k => Bool.rec (motive := fun _ => Option AV) (aShift .shl k (.ofNat m) (.ofNat n)) (some (.i k (wrapZ k (.ofNat (Nat.mul m (Nat.pow 2 n)))))) (Nat.ble n k.bits)) (fun _n _m _k => none) y m k)
    (fun m k y => aShift .shl k (.negSucc m) y) x k y
theorem shlZ_eq (k : IntKind) (x y : Int) : shlZ k x y = aShift .shl k x y := by
  cases x with
  | negSucc m => rfl
  | ofNat m =>
    cases y with
    | negSucc n =>
      show none = _
      unfold aShift
      rw [if_pos (by rw [Int.negSucc_eq]; omega)]
    | ofNat n =>
      show (Bool.rec (motive := fun _ => Option AV) (aShift .shl k (.ofNat m) (.ofNat n)) (some (.i k (wrapZ k (.ofNat (Nat.mul m (Nat.pow 2 n)))))) (Nat.ble n k.bits) : Option AV) = _
      by_cases h : n ≤ k.bits
      · rw [bleT h]
        unfold aShift
        rw [if_neg (by simp only [Int.ofNat_eq_natCast]; omega)]
        simp only [Int.ofNat_eq_natCast, Int.toNat_natCast, Nat.min_eq_left h, wrapZ_eq]
        congr 2
      · rw [bleF h]
noncomputable def shrZ (k : IntKind) (x y : Int) : Option AV :=
  Int.rec (motive := fun _ => IntKind → Int → Option AV) (fun m k y => Int.rec (motive := fun _ => Nat → IntKind → Option AV) (fun n m k => Bool.rec (motive := fun _ => Option AV) (aShift .shr k (.ofNat m) (.ofNat n)) (some (.i k (.ofNat (Nat.div m (Nat.pow 2 n))))) (Nat.ble n k.bits)) (fun _n _m _k => none) y m k)
    (fun m k y => aShift .shr k (.negSucc m) y) x k y
theorem shrZ_eq (k : IntKind) (x y : Int) : shrZ k x y = aShift .shr k x y := by
  cases x with
  | negSucc m => rfl
  | ofNat m =>
    cases y with
    | negSucc n =>
      show none = _
      unfold aShift
      rw [if_pos (by rw [Int.negSucc_eq]; omega)]
    | ofNat n =>
      show (Bool.rec (motive := fun _ => Option AV) (aShift .shr k (.ofNat m) (.ofNat n)) (some (.i k (.ofNat (Nat.div m (Nat.pow 2 n))))) (Nat.ble n k.bits) : Option AV) = _
      by_cases h : n ≤ k.bits
      · rw [bleT h]
        unfold aShift
        rw [if_neg (by simp only [Int.ofNat_eq_natCast]; omega)]
        simp only [Int.ofNat_eq_natCast, Int.toNat_natCast, Nat.min_eq_left h]
        congr 2
        show ((m / 2 ^ n : Nat) : Int) = _
        rw [Int.fdiv_eq_ediv_of_nonneg _ (by exact Int.pow_nonneg (by omega))]
        push_cast
        rfl
      · rw [bleF h]

noncomputable def intQ (op : BinOp) (kd : IntKind) (x y : Int) : Option AV :=
  BinOp.rec (motive := fun _ => IntKind → Int → Int → Option AV)
    (fun kd x y => some (.i kd (wrapZ kd (addZ x y))))
    (fun kd x y => some (.i kd (wrapZ kd (subZ x y))))
    (fun kd x y => some (.i kd (wrapZ kd (mulZ x y))))
    (fun kd x y => aInt .quo kd x y)
    (fun kd x y => aInt .rem kd x y)
    (fun kd x y => aInt .and kd x y)
    (fun kd x y => aInt .or kd x y)
    (fun kd x y => aInt .xor kd x y)
    (fun _ _ _ => none)
    (fun _ _ _ => none)
    (fun kd x y => aInt .andNot kd x y)
    (fun _ x y => some (.b (eqZ x y)))
    (fun _ x y => some (.b (notB (eqZ x y))))
    (fun _ x y => some (.b (ltZ x y)))
    (fun _ x y => some (.b (notB (ltZ y x))))
    (fun _ x y => some (.b (ltZ y x)))
    (fun _ x y => some (.b (notB (ltZ x y))))
    op kd x y
theorem intQ_eq (op : BinOp) (k : IntKind) (x y : Int) : intQ op k x y = aInt op k x y := by
  cases op <;> (try rfl)
  · show some (AV.i k (wrapZ k (addZ x y))) = _; rw [wrapZ_aWrap, addZ_eq]; rfl
  · show some (AV.i k (wrapZ k (subZ x y))) = _; rw [wrapZ_aWrap, subZ_eq]; rfl
  · show some (AV.i k (wrapZ k (mulZ x y))) = _; rw [wrapZ_aWrap, mulZ_eq]; rfl
  · show some (AV.b (eqZ x y)) = _; rw [eqZ_eq]; rfl
  · show some (AV.b (notB (eqZ x y))) = _; rw [eqZ_eq, notB_eq]; rfl
  · show some (AV.b (ltZ x y)) = _; rw [ltZ_eq]; rfl
  · show some (AV.b (notB (ltZ y x))) = _; rw [le_ltZ]; rfl
  · show some (AV.b (ltZ y x)) = _; rw [ltZ_eq]; rfl
  · show some (AV.b (notB (ltZ x y))) = _; rw [le_ltZ]; rfl
/-! ## Strings -/
noncomputable def eqS : List UInt8 → List UInt8 → Bool :=
  List.rec (motive := fun _ => List UInt8 → Bool) (fun k => List.rec (motive := fun _ => Bool) true (fun _ _ _ => false) k)
    (fun a _ ih k => List.rec (motive := fun _ => UInt8 → (List UInt8 → Bool) → Bool) (fun _ _ => false) (fun b k _ a ih => Bool.rec (motive := fun _ => (List UInt8 → Bool) → List UInt8 → Bool) (fun _ _ => false) (fun ih k => ih k) (Nat.beq a.toNat b.toNat) ih k) k a ih)
theorem eqS_iff : ∀ l k : List UInt8, eqS l k = true ↔ l = k
  | [], [] => by simp; rfl
  | [], _ :: _ => by simp; rfl
  | _ :: _, [] => by simp; rfl
  | a :: l, b :: k => by
    show (Bool.rec (motive := fun _ => (List UInt8 → Bool) → List UInt8 → Bool) (fun _ _ => false) (fun ih k => ih k) (Nat.beq a.toNat b.toNat) (eqS l) k : Bool) = true ↔ _
    by_cases h : a.toNat = b.toNat
    · rw [beqT h]
      have : a = b := UInt8.toNat_inj.1 h
      subst this
      simp [eqS_iff l k]
    · rw [beqF.2 h]
      constructor
      · intro h'; cases h'
      · intro h'; injection h' with h1 h2; subst h1; exact absurd rfl h
theorem eqS_eq (l k : List UInt8) : eqS l k = (l == k) := by
  rw [Bool.eq_iff_iff, eqS_iff, beq_iff_eq]
noncomputable def lenStep (ih : Nat → Nat) (n : Nat) : Nat := Nat.rec (motive := fun _ => (Nat → Nat) → Nat) (fun ih => ih 1) (fun m _ ih => ih (Nat.succ (Nat.succ m))) n ih
noncomputable def lenUA (l : List UInt8) : Nat → Nat := List.rec (motive := fun _ => Nat → Nat) (fun n => n) (fun _ _ ih n => lenStep ih n) l
theorem lenUA_eq : ∀ (l : List UInt8) (n : Nat), lenUA l n = n + l.length
  | [], _ => rfl
  | _ :: l, n => by
    have h : lenStep (lenUA l) n = lenUA l (n + 1) := by cases n <;> rfl
    show lenStep (lenUA l) n = _
    rw [h, lenUA_eq l, List.length_cons]
    omega
noncomputable def lenU (l : List UInt8) : Nat := lenUA l 0
theorem lenU_eq (l : List UInt8) : lenU l = l.length := by unfold lenU; rw [lenUA_eq]; omega
noncomputable def appU : List UInt8 → List UInt8 → List UInt8 := List.rec (motive := fun _ => List UInt8 → List UInt8) (fun l => l) (fun a _ ih l => a :: ih l)
theorem appU_eq : ∀ l k : List UInt8, appU l k = l ++ k
  | [], _ => rfl
  | a :: l, k => congrArg (a :: ·) (appU_eq l k)

noncomputable def strQ (P : Program) (op : BinOp) (t : TypeId) (ox oy : Operand) (x y : List UInt8) : Option AV :=
  BinOp.rec (motive := fun _ => Program → TypeId → Operand → Operand → List UInt8 → List UInt8 → Option AV)
    (fun _ _ _ _ x y => Bool.rec (motive := fun _ => Option AV) none (some (.str (appU x y))) (Nat.ble (Nat.add (lenU x) (lenU y)) 4611686018427387904))
    (fun P t ox oy x y => aBin P .sub t ox oy (.str x) (.str y))
    (fun P t ox oy x y => aBin P .mul t ox oy (.str x) (.str y))
    (fun P t ox oy x y => aBin P .quo t ox oy (.str x) (.str y))
    (fun P t ox oy x y => aBin P .rem t ox oy (.str x) (.str y))
    (fun P t ox oy x y => aBin P .and t ox oy (.str x) (.str y))
    (fun P t ox oy x y => aBin P .or t ox oy (.str x) (.str y))
    (fun P t ox oy x y => aBin P .xor t ox oy (.str x) (.str y))
    (fun P t ox oy x y => aBin P .shl t ox oy (.str x) (.str y))
    (fun P t ox oy x y => aBin P .shr t ox oy (.str x) (.str y))
    (fun P t ox oy x y => aBin P .andNot t ox oy (.str x) (.str y))
    (fun _ _ _ _ x y => some (.b (eqS x y)))
    (fun _ _ _ _ x y => some (.b (notB (eqS x y))))
    (fun P t ox oy x y => aBin P .lss t ox oy (.str x) (.str y))
    (fun P t ox oy x y => aBin P .leq t ox oy (.str x) (.str y))
    (fun P t ox oy x y => aBin P .gtr t ox oy (.str x) (.str y))
    (fun P t ox oy x y => aBin P .geq t ox oy (.str x) (.str y))
    op P t ox oy x y
theorem strQ_eq (P : Program) (op : BinOp) (t : TypeId) (ox oy : Operand) (x y : List UInt8) : strQ P op t ox oy x y = aBin P op t ox oy (.str x) (.str y) := by
  cases op <;> (try rfl)
  · show (Bool.rec (motive := fun _ => Option AV) none (some (.str (appU x y))) (Nat.ble (Nat.add (lenU x) (lenU y)) 4611686018427387904) : Option AV) = _
    simp only [aBin, lenU_eq, appU_eq]
    by_cases h : x.length + y.length ≤ 2 ^ 62
    · rw [if_pos h, show Nat.ble (Nat.add x.length y.length) 4611686018427387904 = true from bleT h]
    · rw [if_neg h, show Nat.ble (Nat.add x.length y.length) 4611686018427387904 = false from bleF h]
  · show some (AV.b (eqS x y)) = _; rw [eqS_eq]; rfl
  · show some (AV.b (notB (eqS x y))) = _; rw [eqS_eq, notB_eq]; rfl
/-! ## Equality of other values -/
noncomputable def eqB (x y : Bool) : Bool := Bool.rec (motive := fun _ => Bool) (notB x) x y
theorem eqB_eq (x y : Bool) : eqB x y = (x == y) := by cases x <;> cases y <;> rfl
/-- which kind of type it is -/
def tkOf (P : Program) (t : TypeId) : Nat := match P.underlying t with
  | some (.pointer _) => 1 | some (.slice _) => 2 | some (.map _ _) => 3 | some (.func ..) => 4 | some (.interface _) => 5 | some .bool => 6 | _ => 0
noncomputable def eqKQ (k : Nat) (b : Bool) (P : Program) (t : TypeId) : Option Bool := Bool.rec (motive := fun _ => Option Bool) none (some b) (Nat.beq (tkOf P t) k)

noncomputable def eq_nilp (P : Program) (t : TypeId)  (y : AV) : Option Bool :=
  AV.rec (motive_1 := fun _ => Program → TypeId → Option Bool) (motive_2 := fun _ => Unit)
    (fun xb P t => aEql P t .nilp (.b xb))
    (fun kd m P t => aEql P t .nilp (.i kd m))
    (fun bs P t => aEql P t .nilp (.str bs))
    (fun P t => eqKQ 1 true P t)
    (fun P t => aEql P t .nilp .nils)
    (fun P t => aEql P t .nilp .nilm)
    (fun P t => aEql P t .nilp .nilf)
    (fun P t => aEql P t .nilp .nili)
    (fun _ _ P t => eqKQ 1 false P t)
    (fun sid sof sln sst P t => aEql P t .nilp (.sl sid sof sln sst))
    (fun P t => aEql P t .nilp .esl)
    (fun _ _ P t => eqKQ 1 false P t)
    (fun ics iln _ P t => aEql P t .nilp (.isl ics iln))
    (fun mid P t => aEql P t .nilp (.mp mid))
    (fun ff ffs fcp _ _ P t => aEql P t .nilp (.fn ff ffs fcp))
    (fun yid P t => aEql P t .nilp (.yld yid))
    (fun ity ixv _ P t => aEql P t .nilp (.ifc ity ixv))
    (fun acs _ P t => aEql P t .nilp (.agg acs))
    (fun tvs _ P t => aEql P t .nilp (.tup tvs))
    (fun opv P t => aEql P t .nilp (.op opv))
    (fun P t => aEql P t .nilp .any)
    () (fun _ _ _ _ => ())
    y P t
noncomputable def eq_ptr (P : Program) (t : TypeId) (pid0 : Nat) (pof0 : Nat) (y : AV) : Option Bool :=
  AV.rec (motive_1 := fun _ => Program → TypeId → Nat → Nat → Option Bool) (motive_2 := fun _ => Unit)
    (fun xb P t pid0 pof0 => aEql P t (.ptr pid0 pof0) (.b xb))
    (fun kd m P t pid0 pof0 => aEql P t (.ptr pid0 pof0) (.i kd m))
    (fun bs P t pid0 pof0 => aEql P t (.ptr pid0 pof0) (.str bs))
    (fun P t _ _ => eqKQ 1 false P t)
    (fun P t pid0 pof0 => aEql P t (.ptr pid0 pof0) .nils)
    (fun P t pid0 pof0 => aEql P t (.ptr pid0 pof0) .nilm)
    (fun P t pid0 pof0 => aEql P t (.ptr pid0 pof0) .nilf)
    (fun P t pid0 pof0 => aEql P t (.ptr pid0 pof0) .nili)
    (fun pid pof P t pid0 pof0 => aEql P t (.ptr pid0 pof0) (.ptr pid pof))
    (fun sid sof sln sst P t pid0 pof0 => aEql P t (.ptr pid0 pof0) (.sl sid sof sln sst))
    (fun P t pid0 pof0 => aEql P t (.ptr pid0 pof0) .esl)
    (fun pcs _ P t pid0 pof0 => aEql P t (.ptr pid0 pof0) (.ip pcs))
    (fun ics iln _ P t pid0 pof0 => aEql P t (.ptr pid0 pof0) (.isl ics iln))
    (fun mid P t pid0 pof0 => aEql P t (.ptr pid0 pof0) (.mp mid))
    (fun ff ffs fcp _ _ P t pid0 pof0 => aEql P t (.ptr pid0 pof0) (.fn ff ffs fcp))
    (fun yid P t pid0 pof0 => aEql P t (.ptr pid0 pof0) (.yld yid))
    (fun ity ixv _ P t pid0 pof0 => aEql P t (.ptr pid0 pof0) (.ifc ity ixv))
    (fun acs _ P t pid0 pof0 => aEql P t (.ptr pid0 pof0) (.agg acs))
    (fun tvs _ P t pid0 pof0 => aEql P t (.ptr pid0 pof0) (.tup tvs))
    (fun opv P t pid0 pof0 => aEql P t (.ptr pid0 pof0) (.op opv))
    (fun P t pid0 pof0 => aEql P t (.ptr pid0 pof0) .any)
    () (fun _ _ _ _ => ())
    y P t pid0 pof0
noncomputable def eq_ip (P : Program) (t : TypeId) (pcs0 : List AV) (y : AV) : Option Bool :=
  AV.rec (motive_1 := fun _ => Program → TypeId → List AV → Option Bool) (motive_2 := fun _ => Unit)
    (fun xb P t pcs0 => aEql P t (.ip pcs0) (.b xb))
    (fun kd m P t pcs0 => aEql P t (.ip pcs0) (.i kd m))
    (fun bs P t pcs0 => aEql P t (.ip pcs0) (.str bs))
    (fun P t _ => eqKQ 1 false P t)
    (fun P t pcs0 => aEql P t (.ip pcs0) .nils)
    (fun P t pcs0 => aEql P t (.ip pcs0) .nilm)
    (fun P t pcs0 => aEql P t (.ip pcs0) .nilf)
    (fun P t pcs0 => aEql P t (.ip pcs0) .nili)
    (fun pid pof P t pcs0 => aEql P t (.ip pcs0) (.ptr pid pof))
    (fun sid sof sln sst P t pcs0 => aEql P t (.ip pcs0) (.sl sid sof sln sst))
    (fun P t pcs0 => aEql P t (.ip pcs0) .esl)
    (fun pcs _ P t pcs0 => aEql P t (.ip pcs0) (.ip pcs))
    (fun ics iln _ P t pcs0 => aEql P t (.ip pcs0) (.isl ics iln))
    (fun mid P t pcs0 => aEql P t (.ip pcs0) (.mp mid))
    (fun ff ffs fcp _ _ P t pcs0 => aEql P t (.ip pcs0) (.fn ff ffs fcp))
    (fun yid P t pcs0 => aEql P t (.ip pcs0) (.yld yid))
    (fun ity ixv _ P t pcs0 => aEql P t (.ip pcs0) (.ifc ity ixv))
    (fun acs _ P t pcs0 => aEql P t (.ip pcs0) (.agg acs))
    (fun tvs _ P t pcs0 => aEql P t (.ip pcs0) (.tup tvs))
    (fun opv P t pcs0 => aEql P t (.ip pcs0) (.op opv))
    (fun P t pcs0 => aEql P t (.ip pcs0) .any)
    () (fun _ _ _ _ => ())
    y P t pcs0
noncomputable def eq_nils (P : Program) (t : TypeId)  (y : AV) : Option Bool :=
  AV.rec (motive_1 := fun _ => Program → TypeId → Option Bool) (motive_2 := fun _ => Unit)
    (fun xb P t => aEql P t .nils (.b xb))
    (fun kd m P t => aEql P t .nils (.i kd m))
    (fun bs P t => aEql P t .nils (.str bs))
    (fun P t => aEql P t .nils .nilp)
    (fun P t => eqKQ 2 true P t)
    (fun P t => aEql P t .nils .nilm)
    (fun P t => aEql P t .nils .nilf)
    (fun P t => aEql P t .nils .nili)
    (fun pid pof P t => aEql P t .nils (.ptr pid pof))
    (fun _ _ _ _ P t => eqKQ 2 false P t)
    (fun P t => aEql P t .nils .esl)
    (fun pcs _ P t => aEql P t .nils (.ip pcs))
    (fun ics iln _ P t => aEql P t .nils (.isl ics iln))
    (fun mid P t => aEql P t .nils (.mp mid))
    (fun ff ffs fcp _ _ P t => aEql P t .nils (.fn ff ffs fcp))
    (fun yid P t => aEql P t .nils (.yld yid))
    (fun ity ixv _ P t => aEql P t .nils (.ifc ity ixv))
    (fun acs _ P t => aEql P t .nils (.agg acs))
    (fun tvs _ P t => aEql P t .nils (.tup tvs))
    (fun opv P t => aEql P t .nils (.op opv))
    (fun P t => aEql P t .nils .any)
    () (fun _ _ _ _ => ())
    y P t
noncomputable def eq_sl (P : Program) (t : TypeId) (sid0 : Nat) (sof0 : Nat) (sln0 : Nat) (sst0 : Nat) (y : AV) : Option Bool :=
  AV.rec (motive_1 := fun _ => Program → TypeId → Nat → Nat → Nat → Nat → Option Bool) (motive_2 := fun _ => Unit)
    (fun xb P t sid0 sof0 sln0 sst0 => aEql P t (.sl sid0 sof0 sln0 sst0) (.b xb))
    (fun kd m P t sid0 sof0 sln0 sst0 => aEql P t (.sl sid0 sof0 sln0 sst0) (.i kd m))
    (fun bs P t sid0 sof0 sln0 sst0 => aEql P t (.sl sid0 sof0 sln0 sst0) (.str bs))
    (fun P t sid0 sof0 sln0 sst0 => aEql P t (.sl sid0 sof0 sln0 sst0) .nilp)
    (fun P t _ _ _ _ => eqKQ 2 false P t)
    (fun P t sid0 sof0 sln0 sst0 => aEql P t (.sl sid0 sof0 sln0 sst0) .nilm)
    (fun P t sid0 sof0 sln0 sst0 => aEql P t (.sl sid0 sof0 sln0 sst0) .nilf)
    (fun P t sid0 sof0 sln0 sst0 => aEql P t (.sl sid0 sof0 sln0 sst0) .nili)
    (fun pid pof P t sid0 sof0 sln0 sst0 => aEql P t (.sl sid0 sof0 sln0 sst0) (.ptr pid pof))
    (fun sid sof sln sst P t sid0 sof0 sln0 sst0 => aEql P t (.sl sid0 sof0 sln0 sst0) (.sl sid sof sln sst))
    (fun P t sid0 sof0 sln0 sst0 => aEql P t (.sl sid0 sof0 sln0 sst0) .esl)
    (fun pcs _ P t sid0 sof0 sln0 sst0 => aEql P t (.sl sid0 sof0 sln0 sst0) (.ip pcs))
    (fun ics iln _ P t sid0 sof0 sln0 sst0 => aEql P t (.sl sid0 sof0 sln0 sst0) (.isl ics iln))
    (fun mid P t sid0 sof0 sln0 sst0 => aEql P t (.sl sid0 sof0 sln0 sst0) (.mp mid))
    (fun ff ffs fcp _ _ P t sid0 sof0 sln0 sst0 => aEql P t (.sl sid0 sof0 sln0 sst0) (.fn ff ffs fcp))
    (fun yid P t sid0 sof0 sln0 sst0 => aEql P t (.sl sid0 sof0 sln0 sst0) (.yld yid))
    (fun ity ixv _ P t sid0 sof0 sln0 sst0 => aEql P t (.sl sid0 sof0 sln0 sst0) (.ifc ity ixv))
    (fun acs _ P t sid0 sof0 sln0 sst0 => aEql P t (.sl sid0 sof0 sln0 sst0) (.agg acs))
    (fun tvs _ P t sid0 sof0 sln0 sst0 => aEql P t (.sl sid0 sof0 sln0 sst0) (.tup tvs))
    (fun opv P t sid0 sof0 sln0 sst0 => aEql P t (.sl sid0 sof0 sln0 sst0) (.op opv))
    (fun P t sid0 sof0 sln0 sst0 => aEql P t (.sl sid0 sof0 sln0 sst0) .any)
    () (fun _ _ _ _ => ())
    y P t sid0 sof0 sln0 sst0
noncomputable def eq_nilm (P : Program) (t : TypeId)  (y : AV) : Option Bool :=
  AV.rec (motive_1 := fun _ => Program → TypeId → Option Bool) (motive_2 := fun _ => Unit)
    (fun xb P t => aEql P t .nilm (.b xb))
    (fun kd m P t => aEql P t .nilm (.i kd m))
    (fun bs P t => aEql P t .nilm (.str bs))
    (fun P t => aEql P t .nilm .nilp)
    (fun P t => aEql P t .nilm .nils)
    (fun P t => eqKQ 3 true P t)
    (fun P t => aEql P t .nilm .nilf)
    (fun P t => aEql P t .nilm .nili)
    (fun pid pof P t => aEql P t .nilm (.ptr pid pof))
    (fun sid sof sln sst P t => aEql P t .nilm (.sl sid sof sln sst))
    (fun P t => aEql P t .nilm .esl)
    (fun pcs _ P t => aEql P t .nilm (.ip pcs))
    (fun ics iln _ P t => aEql P t .nilm (.isl ics iln))
    (fun _ P t => eqKQ 3 false P t)
    (fun ff ffs fcp _ _ P t => aEql P t .nilm (.fn ff ffs fcp))
    (fun yid P t => aEql P t .nilm (.yld yid))
    (fun ity ixv _ P t => aEql P t .nilm (.ifc ity ixv))
    (fun acs _ P t => aEql P t .nilm (.agg acs))
    (fun tvs _ P t => aEql P t .nilm (.tup tvs))
    (fun opv P t => aEql P t .nilm (.op opv))
    (fun P t => aEql P t .nilm .any)
    () (fun _ _ _ _ => ())
    y P t
noncomputable def eq_mp (P : Program) (t : TypeId) (mid0 : Nat) (y : AV) : Option Bool :=
  AV.rec (motive_1 := fun _ => Program → TypeId → Nat → Option Bool) (motive_2 := fun _ => Unit)
    (fun xb P t mid0 => aEql P t (.mp mid0) (.b xb))
    (fun kd m P t mid0 => aEql P t (.mp mid0) (.i kd m))
    (fun bs P t mid0 => aEql P t (.mp mid0) (.str bs))
    (fun P t mid0 => aEql P t (.mp mid0) .nilp)
    (fun P t mid0 => aEql P t (.mp mid0) .nils)
    (fun P t _ => eqKQ 3 false P t)
    (fun P t mid0 => aEql P t (.mp mid0) .nilf)
    (fun P t mid0 => aEql P t (.mp mid0) .nili)
    (fun pid pof P t mid0 => aEql P t (.mp mid0) (.ptr pid pof))
    (fun sid sof sln sst P t mid0 => aEql P t (.mp mid0) (.sl sid sof sln sst))
    (fun P t mid0 => aEql P t (.mp mid0) .esl)
    (fun pcs _ P t mid0 => aEql P t (.mp mid0) (.ip pcs))
    (fun ics iln _ P t mid0 => aEql P t (.mp mid0) (.isl ics iln))
    (fun mid P t mid0 => aEql P t (.mp mid0) (.mp mid))
    (fun ff ffs fcp _ _ P t mid0 => aEql P t (.mp mid0) (.fn ff ffs fcp))
    (fun yid P t mid0 => aEql P t (.mp mid0) (.yld yid))
    (fun ity ixv _ P t mid0 => aEql P t (.mp mid0) (.ifc ity ixv))
    (fun acs _ P t mid0 => aEql P t (.mp mid0) (.agg acs))
    (fun tvs _ P t mid0 => aEql P t (.mp mid0) (.tup tvs))
    (fun opv P t mid0 => aEql P t (.mp mid0) (.op opv))
    (fun P t mid0 => aEql P t (.mp mid0) .any)
    () (fun _ _ _ _ => ())
    y P t mid0
noncomputable def eq_nilf (P : Program) (t : TypeId)  (y : AV) : Option Bool :=
  AV.rec (motive_1 := fun _ => Program → TypeId → Option Bool) (motive_2 := fun _ => Unit)
    (fun xb P t => aEql P t .nilf (.b xb))
    (fun kd m P t => aEql P t .nilf (.i kd m))
    (fun bs P t => aEql P t .nilf (.str bs))
    (fun P t => aEql P t .nilf .nilp)
    (fun P t => aEql P t .nilf .nils)
    (fun P t => aEql P t .nilf .nilm)
    (fun P t => eqKQ 4 true P t)
    (fun P t => aEql P t .nilf .nili)
    (fun pid pof P t => aEql P t .nilf (.ptr pid pof))
    (fun sid sof sln sst P t => aEql P t .nilf (.sl sid sof sln sst))
    (fun P t => aEql P t .nilf .esl)
    (fun pcs _ P t => aEql P t .nilf (.ip pcs))
    (fun ics iln _ P t => aEql P t .nilf (.isl ics iln))
    (fun mid P t => aEql P t .nilf (.mp mid))
    (fun _ _ _ _ _ P t => eqKQ 4 false P t)
    (fun yid P t => aEql P t .nilf (.yld yid))
    (fun ity ixv _ P t => aEql P t .nilf (.ifc ity ixv))
    (fun acs _ P t => aEql P t .nilf (.agg acs))
    (fun tvs _ P t => aEql P t .nilf (.tup tvs))
    (fun opv P t => aEql P t .nilf (.op opv))
    (fun P t => aEql P t .nilf .any)
    () (fun _ _ _ _ => ())
    y P t
noncomputable def eq_fn (P : Program) (t : TypeId) (ff0 : FuncId) (ffs0 : List AV) (fcp0 : List AV) (y : AV) : Option Bool :=
  AV.rec (motive_1 := fun _ => Program → TypeId → FuncId → List AV → List AV → Option Bool) (motive_2 := fun _ => Unit)
    (fun xb P t ff0 ffs0 fcp0 => aEql P t (.fn ff0 ffs0 fcp0) (.b xb))
    (fun kd m P t ff0 ffs0 fcp0 => aEql P t (.fn ff0 ffs0 fcp0) (.i kd m))
    (fun bs P t ff0 ffs0 fcp0 => aEql P t (.fn ff0 ffs0 fcp0) (.str bs))
    (fun P t ff0 ffs0 fcp0 => aEql P t (.fn ff0 ffs0 fcp0) .nilp)
    (fun P t ff0 ffs0 fcp0 => aEql P t (.fn ff0 ffs0 fcp0) .nils)
    (fun P t ff0 ffs0 fcp0 => aEql P t (.fn ff0 ffs0 fcp0) .nilm)
    (fun P t _ _ _ => eqKQ 4 false P t)
    (fun P t ff0 ffs0 fcp0 => aEql P t (.fn ff0 ffs0 fcp0) .nili)
    (fun pid pof P t ff0 ffs0 fcp0 => aEql P t (.fn ff0 ffs0 fcp0) (.ptr pid pof))
    (fun sid sof sln sst P t ff0 ffs0 fcp0 => aEql P t (.fn ff0 ffs0 fcp0) (.sl sid sof sln sst))
    (fun P t ff0 ffs0 fcp0 => aEql P t (.fn ff0 ffs0 fcp0) .esl)
    (fun pcs _ P t ff0 ffs0 fcp0 => aEql P t (.fn ff0 ffs0 fcp0) (.ip pcs))
    (fun ics iln _ P t ff0 ffs0 fcp0 => aEql P t (.fn ff0 ffs0 fcp0) (.isl ics iln))
    (fun mid P t ff0 ffs0 fcp0 => aEql P t (.fn ff0 ffs0 fcp0) (.mp mid))
    (fun ff ffs fcp _ _ P t ff0 ffs0 fcp0 => aEql P t (.fn ff0 ffs0 fcp0) (.fn ff ffs fcp))
    (fun yid P t ff0 ffs0 fcp0 => aEql P t (.fn ff0 ffs0 fcp0) (.yld yid))
    (fun ity ixv _ P t ff0 ffs0 fcp0 => aEql P t (.fn ff0 ffs0 fcp0) (.ifc ity ixv))
    (fun acs _ P t ff0 ffs0 fcp0 => aEql P t (.fn ff0 ffs0 fcp0) (.agg acs))
    (fun tvs _ P t ff0 ffs0 fcp0 => aEql P t (.fn ff0 ffs0 fcp0) (.tup tvs))
    (fun opv P t ff0 ffs0 fcp0 => aEql P t (.fn ff0 ffs0 fcp0) (.op opv))
    (fun P t ff0 ffs0 fcp0 => aEql P t (.fn ff0 ffs0 fcp0) .any)
    () (fun _ _ _ _ => ())
    y P t ff0 ffs0 fcp0
noncomputable def eq_nili (P : Program) (t : TypeId)  (y : AV) : Option Bool :=
  AV.rec (motive_1 := fun _ => Program → TypeId → Option Bool) (motive_2 := fun _ => Unit)
    (fun xb P t => aEql P t .nili (.b xb))
    (fun kd m P t => aEql P t .nili (.i kd m))
    (fun bs P t => aEql P t .nili (.str bs))
    (fun P t => aEql P t .nili .nilp)
    (fun P t => aEql P t .nili .nils)
    (fun P t => aEql P t .nili .nilm)
    (fun P t => aEql P t .nili .nilf)
    (fun P t => aEql P t .nili .nili)
    (fun pid pof P t => aEql P t .nili (.ptr pid pof))
    (fun sid sof sln sst P t => aEql P t .nili (.sl sid sof sln sst))
    (fun P t => aEql P t .nili .esl)
    (fun pcs _ P t => aEql P t .nili (.ip pcs))
    (fun ics iln _ P t => aEql P t .nili (.isl ics iln))
    (fun mid P t => aEql P t .nili (.mp mid))
    (fun ff ffs fcp _ _ P t => aEql P t .nili (.fn ff ffs fcp))
    (fun yid P t => aEql P t .nili (.yld yid))
    (fun _ _ _ P t => eqKQ 5 false P t)
    (fun acs _ P t => aEql P t .nili (.agg acs))
    (fun tvs _ P t => aEql P t .nili (.tup tvs))
    (fun opv P t => aEql P t .nili (.op opv))
    (fun P t => aEql P t .nili .any)
    () (fun _ _ _ _ => ())
    y P t
noncomputable def eq_ifc (P : Program) (t : TypeId) (ity0 : TypeId) (ixv0 : AV) (y : AV) : Option Bool :=
  AV.rec (motive_1 := fun _ => Program → TypeId → TypeId → AV → Option Bool) (motive_2 := fun _ => Unit)
    (fun xb P t ity0 ixv0 => aEql P t (.ifc ity0 ixv0) (.b xb))
    (fun kd m P t ity0 ixv0 => aEql P t (.ifc ity0 ixv0) (.i kd m))
    (fun bs P t ity0 ixv0 => aEql P t (.ifc ity0 ixv0) (.str bs))
    (fun P t ity0 ixv0 => aEql P t (.ifc ity0 ixv0) .nilp)
    (fun P t ity0 ixv0 => aEql P t (.ifc ity0 ixv0) .nils)
    (fun P t ity0 ixv0 => aEql P t (.ifc ity0 ixv0) .nilm)
    (fun P t ity0 ixv0 => aEql P t (.ifc ity0 ixv0) .nilf)
    (fun P t _ _ => eqKQ 5 false P t)
    (fun pid pof P t ity0 ixv0 => aEql P t (.ifc ity0 ixv0) (.ptr pid pof))
    (fun sid sof sln sst P t ity0 ixv0 => aEql P t (.ifc ity0 ixv0) (.sl sid sof sln sst))
    (fun P t ity0 ixv0 => aEql P t (.ifc ity0 ixv0) .esl)
    (fun pcs _ P t ity0 ixv0 => aEql P t (.ifc ity0 ixv0) (.ip pcs))
    (fun ics iln _ P t ity0 ixv0 => aEql P t (.ifc ity0 ixv0) (.isl ics iln))
    (fun mid P t ity0 ixv0 => aEql P t (.ifc ity0 ixv0) (.mp mid))
    (fun ff ffs fcp _ _ P t ity0 ixv0 => aEql P t (.ifc ity0 ixv0) (.fn ff ffs fcp))
    (fun yid P t ity0 ixv0 => aEql P t (.ifc ity0 ixv0) (.yld yid))
    (fun ity ixv _ P t ity0 ixv0 => aEql P t (.ifc ity0 ixv0) (.ifc ity ixv))
    (fun acs _ P t ity0 ixv0 => aEql P t (.ifc ity0 ixv0) (.agg acs))
    (fun tvs _ P t ity0 ixv0 => aEql P t (.ifc ity0 ixv0) (.tup tvs))
    (fun opv P t ity0 ixv0 => aEql P t (.ifc ity0 ixv0) (.op opv))
    (fun P t ity0 ixv0 => aEql P t (.ifc ity0 ixv0) .any)
    () (fun _ _ _ _ => ())
    y P t ity0 ixv0
noncomputable def eq_b (P : Program) (t : TypeId) (xb0 : Bool) (y : AV) : Option Bool :=
  AV.rec (motive_1 := fun _ => Program → TypeId → Bool → Option Bool) (motive_2 := fun _ => Unit)
    (fun xb P t xb0 => eqKQ 6 (eqB xb0 xb) P t)
    (fun kd m P t xb0 => aEql P t (.b xb0) (.i kd m))
    (fun bs P t xb0 => aEql P t (.b xb0) (.str bs))
    (fun P t xb0 => aEql P t (.b xb0) .nilp)
    (fun P t xb0 => aEql P t (.b xb0) .nils)
    (fun P t xb0 => aEql P t (.b xb0) .nilm)
    (fun P t xb0 => aEql P t (.b xb0) .nilf)
    (fun P t xb0 => aEql P t (.b xb0) .nili)
    (fun pid pof P t xb0 => aEql P t (.b xb0) (.ptr pid pof))
    (fun sid sof sln sst P t xb0 => aEql P t (.b xb0) (.sl sid sof sln sst))
    (fun P t xb0 => aEql P t (.b xb0) .esl)
    (fun pcs _ P t xb0 => aEql P t (.b xb0) (.ip pcs))
    (fun ics iln _ P t xb0 => aEql P t (.b xb0) (.isl ics iln))
    (fun mid P t xb0 => aEql P t (.b xb0) (.mp mid))
    (fun ff ffs fcp _ _ P t xb0 => aEql P t (.b xb0) (.fn ff ffs fcp))
    (fun yid P t xb0 => aEql P t (.b xb0) (.yld yid))
    (fun ity ixv _ P t xb0 => aEql P t (.b xb0) (.ifc ity ixv))
    (fun acs _ P t xb0 => aEql P t (.b xb0) (.agg acs))
    (fun tvs _ P t xb0 => aEql P t (.b xb0) (.tup tvs))
    (fun opv P t xb0 => aEql P t (.b xb0) (.op opv))
    (fun P t xb0 => aEql P t (.b xb0) .any)
    () (fun _ _ _ _ => ())
    y P t xb0
noncomputable def eqlQ (P : Program) (t : TypeId) (x y : AV) : Option Bool :=
  AV.rec (motive_1 := fun _ => Program → TypeId → AV → Option Bool) (motive_2 := fun _ => Unit)
    (fun xb P t y => eq_b P t xb y)
    (fun kd m P t y => aEql P t (.i kd m) y)
    (fun bs P t y => aEql P t (.str bs) y)
    (fun P t y => eq_nilp P t y)
    (fun P t y => eq_nils P t y)
    (fun P t y => eq_nilm P t y)
    (fun P t y => eq_nilf P t y)
    (fun P t y => eq_nili P t y)
    (fun pid pof P t y => eq_ptr P t pid pof y)
    (fun sid sof sln sst P t y => eq_sl P t sid sof sln sst y)
    (fun P t y => aEql P t .esl y)
    (fun pcs _ P t y => eq_ip P t pcs y)
    (fun ics iln _ P t y => aEql P t (.isl ics iln) y)
    (fun mid P t y => eq_mp P t mid y)
    (fun ff ffs fcp _ _ P t y => eq_fn P t ff ffs fcp y)
    (fun yid P t y => aEql P t (.yld yid) y)
    (fun ity ixv _ P t y => eq_ifc P t ity ixv y)
    (fun acs _ P t y => aEql P t (.agg acs) y)
    (fun tvs _ P t y => aEql P t (.tup tvs) y)
    (fun opv P t y => aEql P t (.op opv) y)
    (fun P t y => aEql P t .any y)
    () (fun _ _ _ _ => ())
    x P t y
theorem eqKQ_eq (k : Nat) (b : Bool) (P : Program) (t : TypeId) (r : Option Bool) (h : tkOf P t = k → r = some b) (h' : tkOf P t ≠ k → r = none) : eqKQ k b P t = r := by
  unfold eqKQ
  by_cases hk : tkOf P t = k
  · rw [beqT hk, h hk]
  · rw [beqF.2 hk, h' hk]
theorem eqlQ_eq (P : Program) (t : TypeId) (x y : AV) : eqlQ P t x y = aEql P t x y := by
  cases x <;> (try rfl) <;> cases y <;> (try rfl)
  all_goals
    refine eqKQ_eq _ _ _ _ _ (fun h => ?_) (fun h => ?_)
    all_goals
      unfold aEql
      unfold tkOf at h
      split at h <;> simp_all [eqB_eq]

noncomputable def kindNQ (k : IntKind) : Nat :=
  IntKind.rec (motive := fun _ => Nat)
    (0)
    (1)
    (2)
    (3)
    (4)
    (5)
    (6)
    (7)
    k
noncomputable def kindEqQ (k j : IntKind) : Bool := Nat.beq (kindNQ k) (kindNQ j)
theorem kindEqQ_iff (k j : IntKind) : kindEqQ k j = true ↔ k = j := by cases k <;> cases j <;> simp [kindEqQ, kindNQ]
theorem kindEqQ_false (k j : IntKind) : kindEqQ k j = false ↔ k ≠ j := by
  rw [← Bool.not_eq_true, kindEqQ_iff]

noncomputable def intSQ (op : BinOp) (kd : IntKind) (x y : Int) : Option AV :=
  BinOp.rec (motive := fun _ => IntKind → Int → Int → Option AV)
    (fun kd x y => some (.i kd (wrapZ kd (addZ x y))))
    (fun kd x y => some (.i kd (wrapZ kd (subZ x y))))
    (fun kd x y => some (.i kd (wrapZ kd (mulZ x y))))
    (fun kd x y => aInt .quo kd x y)
    (fun kd x y => aInt .rem kd x y)
    (fun kd x y => aInt .and kd x y)
    (fun kd x y => aInt .or kd x y)
    (fun kd x y => aInt .xor kd x y)
    (fun kd x y => shlZ kd x y)
    (fun kd x y => shrZ kd x y)
    (fun kd x y => aInt .andNot kd x y)
    (fun _ x y => some (.b (eqZ x y)))
    (fun _ x y => some (.b (notB (eqZ x y))))
    (fun _ x y => some (.b (ltZ x y)))
    (fun _ x y => some (.b (notB (ltZ y x))))
    (fun _ x y => some (.b (ltZ y x)))
    (fun _ x y => some (.b (notB (ltZ x y))))
    op kd x y
theorem intSQ_eq (P : Program) (t : TypeId) (ox oy : Operand) (op : BinOp) (k : IntKind) (x y : Int) : intSQ op k x y = aBin P op t ox oy (.i k x) (.i k y) := by
  cases op <;> (try rfl)
  · show some (AV.i k (wrapZ k (addZ x y))) = _; rw [wrapZ_aWrap, addZ_eq]; simp [aBin, aInt]
  · show some (AV.i k (wrapZ k (subZ x y))) = _; rw [wrapZ_aWrap, subZ_eq]; simp [aBin, aInt]
  · show some (AV.i k (wrapZ k (mulZ x y))) = _; rw [wrapZ_aWrap, mulZ_eq]; simp [aBin, aInt]
  · show aInt .quo k x y = _; simp [aBin]
  · show aInt .rem k x y = _; simp [aBin]
  · show aInt .and k x y = _; simp [aBin]
  · show aInt .or k x y = _; simp [aBin]
  · show aInt .xor k x y = _; simp [aBin]
  · exact shlZ_eq k x y
  · exact shrZ_eq k x y
  · show aInt .andNot k x y = _; simp [aBin]
  · show some (AV.b (eqZ x y)) = _; rw [eqZ_eq]; simp [aBin, aInt]
  · show some (AV.b (notB (eqZ x y))) = _; rw [eqZ_eq, notB_eq]; simp [aBin, aInt, bne]
  · show some (AV.b (ltZ x y)) = _; rw [ltZ_eq]; simp [aBin, aInt]
  · show some (AV.b (notB (ltZ y x))) = _; rw [le_ltZ]; simp [aBin, aInt]
  · show some (AV.b (ltZ y x)) = _; rw [ltZ_eq]; simp [aBin, aInt]
  · show some (AV.b (notB (ltZ x y))) = _; rw [le_ltZ]; simp [aBin, aInt]

noncomputable def bin_i (kd0 : IntKind) (m0 : Int) (P : Program) (op : BinOp) (t : TypeId) (ox oy : Operand) (y : AV) : Option AV :=
  AV.rec (motive_1 := fun _ => IntKind → Int → Program → BinOp → TypeId → Operand → Operand → Option AV) (motive_2 := fun _ => Unit)
    (fun xb kd0 m0 P op t ox oy => aBin P op t ox oy (.i kd0 m0) (.b xb))
    (fun kd m kd0 m0 P op t ox oy => Bool.rec (motive := fun _ => Option AV) (aBin P op t ox oy (.i kd0 m0) (.i kd m)) (intSQ op kd0 m0 m) (kindEqQ kd0 kd))
    (fun bs kd0 m0 P op t ox oy => aBin P op t ox oy (.i kd0 m0) (.str bs))
    (fun kd0 m0 P op t ox oy => aBin P op t ox oy (.i kd0 m0) .nilp)
    (fun kd0 m0 P op t ox oy => aBin P op t ox oy (.i kd0 m0) .nils)
    (fun kd0 m0 P op t ox oy => aBin P op t ox oy (.i kd0 m0) .nilm)
    (fun kd0 m0 P op t ox oy => aBin P op t ox oy (.i kd0 m0) .nilf)
    (fun kd0 m0 P op t ox oy => aBin P op t ox oy (.i kd0 m0) .nili)
    (fun pid pof kd0 m0 P op t ox oy => aBin P op t ox oy (.i kd0 m0) (.ptr pid pof))
    (fun sid sof sln sst kd0 m0 P op t ox oy => aBin P op t ox oy (.i kd0 m0) (.sl sid sof sln sst))
    (fun kd0 m0 P op t ox oy => aBin P op t ox oy (.i kd0 m0) .esl)
    (fun pcs _ kd0 m0 P op t ox oy => aBin P op t ox oy (.i kd0 m0) (.ip pcs))
    (fun ics iln _ kd0 m0 P op t ox oy => aBin P op t ox oy (.i kd0 m0) (.isl ics iln))
    (fun mid kd0 m0 P op t ox oy => aBin P op t ox oy (.i kd0 m0) (.mp mid))
    (fun ff ffs fcp _ _ kd0 m0 P op t ox oy => aBin P op t ox oy (.i kd0 m0) (.fn ff ffs fcp))
    (fun yid kd0 m0 P op t ox oy => aBin P op t ox oy (.i kd0 m0) (.yld yid))
    (fun ity ixv _ kd0 m0 P op t ox oy => aBin P op t ox oy (.i kd0 m0) (.ifc ity ixv))
    (fun acs _ kd0 m0 P op t ox oy => aBin P op t ox oy (.i kd0 m0) (.agg acs))
    (fun tvs _ kd0 m0 P op t ox oy => aBin P op t ox oy (.i kd0 m0) (.tup tvs))
    (fun opv kd0 m0 P op t ox oy => aBin P op t ox oy (.i kd0 m0) (.op opv))
    (fun kd0 m0 P op t ox oy => aBin P op t ox oy (.i kd0 m0) .any)
    () (fun _ _ _ _ => ())
    y kd0 m0 P op t ox oy
noncomputable def bin_str (s0 : List UInt8) (P : Program) (op : BinOp) (t : TypeId) (ox oy : Operand) (y : AV) : Option AV :=
  AV.rec (motive_1 := fun _ => List UInt8 → Program → BinOp → TypeId → Operand → Operand → Option AV) (motive_2 := fun _ => Unit)
    (fun xb s0 P op t ox oy => aBin P op t ox oy (.str s0) (.b xb))
    (fun kd m s0 P op t ox oy => aBin P op t ox oy (.str s0) (.i kd m))
    (fun bs s0 P op t ox oy => strQ P op t ox oy s0 bs)
    (fun s0 P op t ox oy => aBin P op t ox oy (.str s0) .nilp)
    (fun s0 P op t ox oy => aBin P op t ox oy (.str s0) .nils)
    (fun s0 P op t ox oy => aBin P op t ox oy (.str s0) .nilm)
    (fun s0 P op t ox oy => aBin P op t ox oy (.str s0) .nilf)
    (fun s0 P op t ox oy => aBin P op t ox oy (.str s0) .nili)
    (fun pid pof s0 P op t ox oy => aBin P op t ox oy (.str s0) (.ptr pid pof))
    (fun sid sof sln sst s0 P op t ox oy => aBin P op t ox oy (.str s0) (.sl sid sof sln sst))
    (fun s0 P op t ox oy => aBin P op t ox oy (.str s0) .esl)
    (fun pcs _ s0 P op t ox oy => aBin P op t ox oy (.str s0) (.ip pcs))
    (fun ics iln _ s0 P op t ox oy => aBin P op t ox oy (.str s0) (.isl ics iln))
    (fun mid s0 P op t ox oy => aBin P op t ox oy (.str s0) (.mp mid))
    (fun ff ffs fcp _ _ s0 P op t ox oy => aBin P op t ox oy (.str s0) (.fn ff ffs fcp))
    (fun yid s0 P op t ox oy => aBin P op t ox oy (.str s0) (.yld yid))
    (fun ity ixv _ s0 P op t ox oy => aBin P op t ox oy (.str s0) (.ifc ity ixv))
    (fun acs _ s0 P op t ox oy => aBin P op t ox oy (.str s0) (.agg acs))
    (fun tvs _ s0 P op t ox oy => aBin P op t ox oy (.str s0) (.tup tvs))
    (fun opv s0 P op t ox oy => aBin P op t ox oy (.str s0) (.op opv))
    (fun s0 P op t ox oy => aBin P op t ox oy (.str s0) .any)
    () (fun _ _ _ _ => ())
    y s0 P op t ox oy
noncomputable def binEqQ (P : Program) (op : BinOp) (t : TypeId) (ox oy : Operand) (x y : AV) : Option AV :=
  BinOp.rec (motive := fun _ => Program → TypeId → Operand → Operand → AV → AV → Option AV)
    (fun P t ox oy x y => aBin P .add t ox oy x y)
    (fun P t ox oy x y => aBin P .sub t ox oy x y)
    (fun P t ox oy x y => aBin P .mul t ox oy x y)
    (fun P t ox oy x y => aBin P .quo t ox oy x y)
    (fun P t ox oy x y => aBin P .rem t ox oy x y)
    (fun P t ox oy x y => aBin P .and t ox oy x y)
    (fun P t ox oy x y => aBin P .or t ox oy x y)
    (fun P t ox oy x y => aBin P .xor t ox oy x y)
    (fun P t ox oy x y => aBin P .shl t ox oy x y)
    (fun P t ox oy x y => aBin P .shr t ox oy x y)
    (fun P t ox oy x y => aBin P .andNot t ox oy x y)
    (fun P t _ _ x y => Option.rec (motive := fun _ => Option AV) none (fun b => some (.b b)) (eqlQ P t x y))
    (fun P t _ _ x y => Option.rec (motive := fun _ => Option AV) none (fun b => some (.b (notB b))) (eqlQ P t x y))
    (fun P t ox oy x y => aBin P .lss t ox oy x y)
    (fun P t ox oy x y => aBin P .leq t ox oy x y)
    (fun P t ox oy x y => aBin P .gtr t ox oy x y)
    (fun P t ox oy x y => aBin P .geq t ox oy x y)
    op P t ox oy x y
noncomputable def bin_nili (P : Program) (op : BinOp) (t : TypeId) (ox oy : Operand) (y : AV) : Option AV :=
  AV.rec (motive_1 := fun _ => Program → BinOp → TypeId → Operand → Operand → Option AV) (motive_2 := fun _ => Unit)
    (fun xb P op t ox oy => binEqQ P op t ox oy .nili (.b xb))
    (fun kd m P op t ox oy => binEqQ P op t ox oy .nili (.i kd m))
    (fun bs P op t ox oy => binEqQ P op t ox oy .nili (.str bs))
    (fun P op t ox oy => binEqQ P op t ox oy .nili .nilp)
    (fun P op t ox oy => binEqQ P op t ox oy .nili .nils)
    (fun P op t ox oy => binEqQ P op t ox oy .nili .nilm)
    (fun P op t ox oy => binEqQ P op t ox oy .nili .nilf)
    (fun P op t ox oy => aBin P op t ox oy .nili .nili)
    (fun pid pof P op t ox oy => binEqQ P op t ox oy .nili (.ptr pid pof))
    (fun sid sof sln sst P op t ox oy => binEqQ P op t ox oy .nili (.sl sid sof sln sst))
    (fun P op t ox oy => binEqQ P op t ox oy .nili .esl)
    (fun pcs _ P op t ox oy => binEqQ P op t ox oy .nili (.ip pcs))
    (fun ics iln _ P op t ox oy => binEqQ P op t ox oy .nili (.isl ics iln))
    (fun mid P op t ox oy => binEqQ P op t ox oy .nili (.mp mid))
    (fun ff ffs fcp _ _ P op t ox oy => binEqQ P op t ox oy .nili (.fn ff ffs fcp))
    (fun yid P op t ox oy => binEqQ P op t ox oy .nili (.yld yid))
    (fun ity ixv _ P op t ox oy => binEqQ P op t ox oy .nili (.ifc ity ixv))
    (fun acs _ P op t ox oy => binEqQ P op t ox oy .nili (.agg acs))
    (fun tvs _ P op t ox oy => binEqQ P op t ox oy .nili (.tup tvs))
    (fun opv P op t ox oy => binEqQ P op t ox oy .nili (.op opv))
    (fun P op t ox oy => binEqQ P op t ox oy .nili .any)
    () (fun _ _ _ _ => ())
    y P op t ox oy
noncomputable def binQ (P : Program) (op : BinOp) (t : TypeId) (ox oy : Operand) (x y : AV) : Option AV :=
  AV.rec (motive_1 := fun _ => Program → BinOp → TypeId → Operand → Operand → AV → Option AV) (motive_2 := fun _ => Unit)
    (fun xb P op t ox oy y => binEqQ P op t ox oy (.b xb) y)
    (fun kd m P op t ox oy y => bin_i kd m P op t ox oy y)
    (fun bs P op t ox oy y => bin_str bs P op t ox oy y)
    (fun P op t ox oy y => binEqQ P op t ox oy .nilp y)
    (fun P op t ox oy y => binEqQ P op t ox oy .nils y)
    (fun P op t ox oy y => binEqQ P op t ox oy .nilm y)
    (fun P op t ox oy y => binEqQ P op t ox oy .nilf y)
    (fun P op t ox oy y => bin_nili P op t ox oy y)
    (fun pid pof P op t ox oy y => binEqQ P op t ox oy (.ptr pid pof) y)
    (fun sid sof sln sst P op t ox oy y => binEqQ P op t ox oy (.sl sid sof sln sst) y)
    (fun P op t ox oy y => binEqQ P op t ox oy .esl y)
    (fun pcs _ P op t ox oy y => binEqQ P op t ox oy (.ip pcs) y)
    (fun ics iln _ P op t ox oy y => binEqQ P op t ox oy (.isl ics iln) y)
    (fun mid P op t ox oy y => binEqQ P op t ox oy (.mp mid) y)
    (fun ff ffs fcp _ _ P op t ox oy y => binEqQ P op t ox oy (.fn ff ffs fcp) y)
    (fun yid P op t ox oy y => binEqQ P op t ox oy (.yld yid) y)
    (fun ity ixv _ P op t ox oy y => binEqQ P op t ox oy (.ifc ity ixv) y)
    (fun acs _ P op t ox oy y => binEqQ P op t ox oy (.agg acs) y)
    (fun tvs _ P op t ox oy y => binEqQ P op t ox oy (.tup tvs) y)
    (fun opv P op t ox oy y => binEqQ P op t ox oy (.op opv) y)
    (fun P op t ox oy y => binEqQ P op t ox oy .any y)
    () (fun _ _ _ _ => ())
    x P op t ox oy y
theorem binEqQ_eq (P : Program) (op : BinOp) (t : TypeId) (ox oy : Operand) (x y : AV) (h : aBin P op t ox oy x y = (match op with
    | .eql => (match aEql P t x y with | some b => some (.b b) | none => none)
    | .neq => (match aEql P t x y with | some b => some (.b (!b)) | none => none)
    | _ => none)) : binEqQ P op t ox oy x y = aBin P op t ox oy x y := by
  cases op <;> (try rfl)
  · rw [h, ← eqlQ_eq]
    show Option.rec (motive := fun _ => Option AV) none (fun b => some (.b b)) (eqlQ P t x y) = _
    cases eqlQ P t x y <;> rfl
  · rw [h, ← eqlQ_eq]
    show Option.rec (motive := fun _ => Option AV) none (fun b => some (.b (notB b))) (eqlQ P t x y) = _
    cases eqlQ P t x y with
    | none => rfl
    | some b => cases b <;> rfl
theorem binQ_eq (P : Program) (op : BinOp) (t : TypeId) (ox oy : Operand) (x y : AV) : binQ P op t ox oy x y = aBin P op t ox oy x y := by
  cases x <;> (try (exact binEqQ_eq _ _ _ _ _ _ _ (by cases y <;> rfl)))
  · rename_i kd m
    cases y <;> (try rfl)
    rename_i kd2 m2
    show Bool.rec (motive := fun _ => Option AV) (aBin P op t ox oy (.i kd m) (.i kd2 m2)) (intSQ op kd m m2) (kindEqQ kd kd2) = _
    cases hk : kindEqQ kd kd2
    · rfl
    · obtain rfl := (kindEqQ_iff _ _).1 hk
      exact intSQ_eq _ _ _ _ _ _ _ _
  · rename_i s
    cases y <;> (try rfl)
    exact strQ_eq _ _ _ _ _ _ _
  · cases y <;> (try rfl) <;> exact binEqQ_eq _ _ _ _ _ _ _ rfl

end Go.Am
