/-
  An abstract machine over abstract values and blocks: its values, its heap, its operations, its steps. (Definitions; no condition.)
-/
import Derived.AtR
import Derived.CallsIn
import Derived.Laws.World
import Derived.Laws.Cells
import Derived.Laws.IdiomCopy
namespace Go.Am

inductive PT (α : Type) where
  | lf
  | nd (l : PT α) (v : Option α) (r : PT α)

/-- the way to a number's place -/
inductive Path where
  | here
  | l (p : Path)
  | r (p : Path)

def pathF : Nat → Nat → Path
  | 0, _ => .here
  | f + 1, n => cond (Nat.beq n 0) .here (cond (Nat.beq (Nat.mod n 2) 1) (.l (pathF f (Nat.div n 2))) (.r (pathF f (Nat.div (Nat.sub n 1) 2))))
def path (n : Nat) : Path := pathF n n

def PT.getP {α : Type} : PT α → Path → Option α
  | .lf, _ => none
  | .nd _ v _, .here => v
  | .nd l _ _, .l p => l.getP p
  | .nd _ _ r, .r p => r.getP p

def PT.setP {α : Type} (x : Option α) : PT α → Path → PT α
  | .lf, .here => .nd .lf x .lf
  | .lf, .l p => .nd (setP x .lf p) none .lf
  | .lf, .r p => .nd .lf none (setP x .lf p)
  | .nd l _ r, .here => .nd l x r
  | .nd l v r, .l p => .nd (setP x l p) v r
  | .nd l v r, .r p => .nd l v (setP x r p)
termination_by structural _ p => p

/-- (the first number is idle) -/
def PT.get {α : Type} (_ : Nat) (t : PT α) (n : Nat) : Option α := t.getP (path n)
def PT.set {α : Type} (_ : Nat) (t : PT α) (n : Nat) (x : Option α) : PT α := PT.setP x t (path n)

theorem beqF {a b : Nat} : Nat.beq a b = false ↔ a ≠ b := by
  constructor
  · intro h e; subst e; simp at h
  · intro h; cases hb : Nat.beq a b
    · rfl
    · exact absurd (Nat.eq_of_beq_eq_true hb) h

theorem pathF_inj : ∀ (f g n m : Nat), n ≤ f → m ≤ g → pathF f n = pathF g m → n = m := by
  have e1 : ∀ a b, Nat.div a b = a / b := fun _ _ => rfl
  have e2 : ∀ a b, Nat.mod a b = a % b := fun _ _ => rfl
  have e3 : ∀ a b, Nat.sub a b = a - b := fun _ _ => rfl
  intro f
  induction f with
  | zero =>
    intro g n m hn hm h
    obtain rfl : n = 0 := by omega
    cases g with
    | zero => omega
    | succ g =>
      simp only [pathF] at h
      cases h0 : Nat.beq m 0
      · rw [h0] at h
        simp only [cond_false] at h
        cases h1 : Nat.beq (Nat.mod m 2) 1 <;> (rw [h1] at h; simp at h)
      · exact (Nat.eq_of_beq_eq_true h0).symm
  | succ f ih =>
    intro g n m hn hm h
    cases g with
    | zero =>
      obtain rfl : m = 0 := by omega
      simp only [pathF] at h
      cases h0 : Nat.beq n 0
      · rw [h0] at h
        simp only [cond_false] at h
        cases h1 : Nat.beq (Nat.mod n 2) 1 <;> (rw [h1] at h; simp at h)
      · exact Nat.eq_of_beq_eq_true h0
    | succ g =>
      simp only [pathF] at h
      cases hn0 : Nat.beq n 0 <;> cases hm0 : Nat.beq m 0 <;> simp only [hn0, hm0, cond_true, cond_false] at h
      · rw [beqF] at hn0 hm0
        cases hn1 : Nat.beq (Nat.mod n 2) 1 <;> cases hm1 : Nat.beq (Nat.mod m 2) 1 <;> simp only [hn1, hm1, cond_true, cond_false] at h
        · rw [beqF] at hn1 hm1
          have := ih g _ _ (by rw [e1, e3]; omega) (by rw [e1, e3]; omega) (Path.r.inj h)
          rw [e2] at hn1 hm1
          rw [e1, e1, e3, e3] at this
          omega
        · cases h
        · cases h
        · rw [Nat.beq_eq] at hn1 hm1
          have := ih g _ _ (by rw [e1]; omega) (by rw [e1]; omega) (Path.l.inj h)
          rw [e2] at hn1 hm1
          rw [e1, e1] at this
          omega
      · cases hn1 : Nat.beq (Nat.mod n 2) 1 <;> (rw [hn1] at h; simp at h)
      · cases hm1 : Nat.beq (Nat.mod m 2) 1 <;> (rw [hm1] at h; simp at h)
      · rw [Nat.eq_of_beq_eq_true hn0, Nat.eq_of_beq_eq_true hm0]
theorem path_inj {n m : Nat} (h : path n = path m) : n = m := pathF_inj n m n m (Nat.le_refl _) (Nat.le_refl _) h

theorem PT.getP_lf {α : Type} (p : Path) : PT.getP (.lf : PT α) p = none := rfl
theorem PT.get_lf {α : Type} (f n : Nat) : PT.get f (.lf : PT α) n = none := rfl

theorem PT.getP_setP_same {α : Type} (x : Option α) : ∀ (p : Path) (t : PT α), (PT.setP x t p).getP p = x
  | .here, .lf | .here, .nd .. => by simp [setP, getP]
  | .l p, .lf | .r p, .lf | .l p, .nd .. | .r p, .nd .. => by simp [setP, getP, getP_setP_same x p]
theorem PT.getP_setP_ne {α : Type} (x : Option α) : ∀ (p q : Path) (t : PT α), p ≠ q → (PT.setP x t p).getP q = t.getP q
  | .here, q, t, h => by cases t <;> cases q <;> simp_all [setP, getP]
  | .l p, q, t, h => by
    cases t <;> cases q <;> simp_all [setP, getP]
    · rw [getP_setP_ne x p _ _ h]; rfl
    · rw [getP_setP_ne x p _ _ h]
  | .r p, q, t, h => by
    cases t <;> cases q <;> simp_all [setP, getP]
    · rw [getP_setP_ne x p _ _ h]; rfl
    · rw [getP_setP_ne x p _ _ h]

theorem PT.get_set_ne {α : Type} (x : Option α) (f : Nat) (t : PT α) (d n : Nat) (h : n ≠ d) : PT.get f (PT.set f t d x) n = PT.get f t n :=
  getP_setP_ne x _ _ t (fun e => h (path_inj e).symm)
theorem PT.get_set_eq {α : Type} (x : Option α) (f : Nat) (t : PT α) (d : Nat) : PT.get f (PT.set f t d x) d = x := getP_setP_same x _ t
theorem PT.get_set_same {α : Type} (x : Option α) (f : Nat) (t : PT α) (d : Nat) : PT.get f (PT.set f t d x) d = x ∨ PT.get f (PT.set f t d x) d = none := .inl (get_set_eq x f t d)

theorem PT.get_set_some {α : Type} {x : Option α} {f : Nat} {t : PT α} {d n : Nat} {y : α} (h : PT.get f (PT.set f t d x) n = some y) :
    (n = d ∧ x = some y) ∨ (n ≠ d ∧ PT.get f t n = some y) := by
  by_cases hn : n = d
  · subst hn
    rcases PT.get_set_same x f t n with h1 | h1
    · exact .inl ⟨rfl, by rw [← h1, h]⟩
    · rw [h1] at h; cases h
  · rw [PT.get_set_ne x f t d n hn] at h
    exact .inr ⟨hn, h⟩

/-- Abstract values. -/
inductive AV where
  | b (x : Bool)
  | i (k : IntKind) (n : Int)
  | str (s : List UInt8)
  | nilp | nils | nilm | nilf | nili
  | ptr (id off : Nat)
  | sl (id off len st : Nat)
  | esl
  | ip (cs : List AV)
  | isl (cs : List AV) (len : Nat)
  | mp (id : Nat)
  | fn (f : FuncId) (first captured : List AV)
  | yld (id : Nat)
  | ifc (t : TypeId) (x : AV)
  | agg (cs : List AV)
  | tup (vs : List AV)
  | op (v : Value)
  | any
  deriving Inhabited

structure Env where
  ι : Nat → Option (Nat × Nat × Nat)
  I : Nat → Nat → Option Value
  N : Nat

structure Env.le (E E' : Env) : Prop where
  ι : ∀ i x, E.ι i = some x → E'.ι i = some x
  I : ∀ b o v, E.I b o = some v → E'.I b o = some v

mutual
def VR (E : Env) : AV → Value → Prop
  | .b x, v => v = .bool x
  | .i k n, v => v = .int k n
  | .str s, v => v = .string ⟨⟨s⟩⟩
  | .nilp, v => v = .pointer none
  | .nils, v => v = .slice none 0 0
  | .nilm, v => v = .map none
  | .nilf, v => v = .nilFunc
  | .nili, v => v = .nilIface
  | .ptr id off, v => ∃ b s n, E.ι id = some (b, s, n) ∧ v = .pointer (some ⟨b, s + off, none⟩)
  | .sl id off len st, v => ∃ b s n cap x, E.ι id = some (b, s, n) ∧ v = .slice (some x) len cap ∧ len ≤ cap ∧ off + cap * st ≤ n ∧ (cap ≠ 0 → x = ⟨b, s + off, none⟩)
  | .esl, v => ∃ a, v = .slice a 0 0
  | .ip cs, v => ∃ b o vs, v = .pointer (some ⟨b, o, none⟩) ∧ VRs E cs vs ∧ ∀ j x, vs[j]? = some x → E.I b (o + j) = some x
  | .isl cs len, v => (cs = [] ∧ len = 0 ∧ ∃ a cap, v = .slice a 0 cap) ∨
      ∃ b o cap vs, v = .slice (some ⟨b, o, none⟩) len cap ∧ len ≤ cap ∧ VRs E cs vs ∧ ∀ j x, vs[j]? = some x → E.I b (o + j) = some x
  | .mp id, v => ∃ b s n, E.ι id = some (b, s, n) ∧ v = .map (some b)
  | .fn f first cap, v => ∃ x y : Array Value, v = .func (.func f) x y ∧ VRs E first x.toList ∧ VRs E cap y.toList
  | .yld id, v => ∃ b s n, E.ι id = some (b, s, n) ∧ v = .func (.yield b) #[] #[]
  | .ifc t a, v => ∃ x, v = .iface t x ∧ VR E a x
  | .agg cs, v => ∃ x : Array Value, v = .agg x ∧ VRs E cs x.toList
  | .tup cs, v => ∃ x : Array Value, v = .tuple x ∧ VRs E cs x.toList
  | .op x, v => v = x
  | .any, _ => True
def VRs (E : Env) : List AV → List Value → Prop
  | [], vs => vs = []
  | a :: as, vs => ∃ v rest, vs = v :: rest ∧ VR E a v ∧ VRs E as rest
end

mutual
theorem VR.mono {E E' : Env} (h : E.le E') : ∀ (a : AV) (v : Value), VR E a v → VR E' a v
  | .b _, _, hv | .i .., _, hv | .str _, _, hv | .nilp, _, hv | .nils, _, hv | .nilm, _, hv | .nilf, _, hv | .nili, _, hv | .op _, _, hv => by simpa [VR] using hv
  | .any, _, _ => by simp [VR]
  | .esl, _, hv => by simpa [VR] using hv
  | .ptr .., _, hv => by simp only [VR] at *; obtain ⟨b, s, n, h1, h2⟩ := hv; exact ⟨b, s, n, h.ι _ _ h1, h2⟩
  | .sl .., _, hv => by simp only [VR] at *; obtain ⟨b, s, n, c, x, h1, h2⟩ := hv; exact ⟨b, s, n, c, x, h.ι _ _ h1, h2⟩
  | .yld .., _, hv => by simp only [VR] at *; obtain ⟨b, s, n, h1, h2⟩ := hv; exact ⟨b, s, n, h.ι _ _ h1, h2⟩
  | .mp .., _, hv => by simp only [VR] at *; obtain ⟨b, s, n, h1, h2⟩ := hv; exact ⟨b, s, n, h.ι _ _ h1, h2⟩
  | .ip cs, _, hv => by
      simp only [VR] at *
      obtain ⟨b, o, vs, h1, h2, h3⟩ := hv
      exact ⟨b, o, vs, h1, VRs.mono h cs vs h2, fun j x hx => h.I _ _ _ (h3 j x hx)⟩
  | .isl cs len, _, hv => by
      simp only [VR] at *
      rcases hv with hv | ⟨b, o, cap, vs, h1, hc, h2, h3⟩
      · exact .inl hv
      · exact .inr ⟨b, o, cap, vs, h1, hc, VRs.mono h cs vs h2, fun j x hx => h.I _ _ _ (h3 j x hx)⟩
  | .fn f first cap, _, hv => by
      simp only [VR] at *
      obtain ⟨x, y, h1, h2, h3⟩ := hv
      exact ⟨x, y, h1, VRs.mono h first _ h2, VRs.mono h cap _ h3⟩
  | .ifc t a, _, hv => by
      simp only [VR] at *
      obtain ⟨x, h1, h2⟩ := hv
      exact ⟨x, h1, VR.mono h a x h2⟩
  | .agg cs, _, hv => by
      simp only [VR] at *
      obtain ⟨x, h1, h2⟩ := hv
      exact ⟨x, h1, VRs.mono h cs _ h2⟩
  | .tup cs, _, hv => by
      simp only [VR] at *
      obtain ⟨x, h1, h2⟩ := hv
      exact ⟨x, h1, VRs.mono h cs _ h2⟩
theorem VRs.mono {E E' : Env} (h : E.le E') : ∀ (as : List AV) (vs : List Value), VRs E as vs → VRs E' as vs
  | [], _, hv => by simpa [VRs] using hv
  | a :: as, _, hv => by
      simp only [VRs] at *
      obtain ⟨v, rest, h1, h2, h3⟩ := hv
      exact ⟨v, rest, h1, VR.mono h a v h2, VRs.mono h as rest h3⟩
end
end Go.Am

namespace Go.Am

def AV.one : AV → Bool
  | .agg _ | .tup _ | .any => false
  | .op v => v.oneCell'
  | _ => true

theorem VR.one {E : Env} {a : AV} {v : Value} (h : VR E a v) (ho : a.one = true) : v.oneCell' = true := by
  cases a <;> simp only [VR, AV.one] at h ho
  case agg | tup | any => cases ho
  case op => subst h; exact ho
  case ptr => obtain ⟨_, _, _, _, rfl⟩ := h; rfl
  case sl => obtain ⟨_, _, _, _, _, _, rfl, _⟩ := h; rfl
  case esl => obtain ⟨_, rfl⟩ := h; rfl
  case ip => obtain ⟨_, _, _, rfl, _⟩ := h; rfl
  case isl => rcases h with ⟨_, _, _, _, rfl⟩ | ⟨_, _, _, _, rfl, _⟩ <;> rfl
  case mp => obtain ⟨_, _, _, _, rfl⟩ := h; rfl
  case yld => obtain ⟨_, _, _, _, rfl⟩ := h; rfl
  case fn => obtain ⟨_, _, rfl, _⟩ := h; rfl
  case ifc => obtain ⟨_, rfl, _⟩ := h; rfl
  all_goals (subst h; rfl)

/-- lists related -/
theorem VRs.length {E : Env} : ∀ {as : List AV} {vs : List Value}, VRs E as vs → as.length = vs.length
  | [], _, h => by simp only [VRs] at h; subst h; rfl
  | a :: as, _, h => by
    simp only [VRs] at h
    obtain ⟨v, rest, rfl, _, h⟩ := h
    simp [VRs.length h]
theorem VRs.get {E : Env} : ∀ {as : List AV} {vs : List Value}, VRs E as vs → ∀ (j : Nat) (a : AV), as[j]? = some a → ∃ v, vs[j]? = some v ∧ VR E a v
  | [], _, _, j, a, ha => by simp at ha
  | a :: as, _, h, j, x, ha => by
    simp only [VRs] at h
    obtain ⟨v, rest, rfl, h1, h2⟩ := h
    cases j with
    | zero => simp only [List.getElem?_cons_zero, Option.some.injEq] at ha; subst ha; exact ⟨v, rfl, h1⟩
    | succ j => simp only [List.getElem?_cons_succ] at *; exact VRs.get h2 j x ha
theorem VRs.mk {E : Env} : ∀ {as : List AV} {vs : List Value}, as.length = vs.length → (∀ (j : Nat) (a : AV) (v : Value), as[j]? = some a → vs[j]? = some v → VR E a v) → VRs E as vs
  | [], vs, hl, _ => by cases vs with | nil => simp [VRs] | cons => simp at hl
  | a :: as, vs, hl, h => by
    cases vs with
    | nil => simp at hl
    | cons v vs =>
      simp only [VRs]
      exact ⟨v, vs, rfl, h 0 a v rfl rfl, VRs.mk (by simpa using hl) (fun j x y hx hy => h (j + 1) x y hx hy)⟩
theorem VRs.append {E : Env} {as bs : List AV} {vs ws : List Value} (h : VRs E as vs) (k : VRs E bs ws) : VRs E (as ++ bs) (vs ++ ws) := by
  induction as generalizing vs with
  | nil => simp only [VRs] at h; subst h; simpa using k
  | cons a as ih =>
    simp only [VRs] at h
    obtain ⟨v, rest, rfl, h1, h2⟩ := h
    simp only [List.cons_append, VRs]
    exact ⟨v, rest ++ ws, rfl, h1, ih h2⟩
theorem VRs.drop {E : Env} {as : List AV} {vs : List Value} (h : VRs E as vs) (n : Nat) : VRs E (as.drop n) (vs.drop n) :=
  VRs.mk (by simp [h.length]) (fun j a v ha hv => by
    simp only [List.getElem?_drop] at ha hv
    obtain ⟨v', h1, h2⟩ := h.get _ _ ha
    rw [hv] at h1; cases h1; exact h2)
theorem VRs.take {E : Env} {as : List AV} {vs : List Value} (h : VRs E as vs) (n : Nat) : VRs E (as.take n) (vs.take n) :=
  VRs.mk (by simp [h.length]) (fun j a v ha hv => by
    simp only [List.getElem?_take] at ha hv
    split at ha
    · rename_i hj
      simp only [hj, if_true] at hv
      obtain ⟨v', h1, h2⟩ := h.get _ _ ha
      rw [hv] at h1; cases h1; exact h2
    · cases ha)
theorem VRs.set {E : Env} {as : List AV} {vs : List Value} (h : VRs E as vs) (n : Nat) {a : AV} {v : Value} (hv : VR E a v) : VRs E (as.set n a) (vs.set n v) :=
  VRs.mk (by simp [h.length]) (fun j x y hx hy => by
    simp only [List.getElem?_set] at hx hy
    by_cases hj : n = j
    · simp only [hj, if_true] at hx hy
      split at hx
      · split at hy
        · cases hx; cases hy; exact hv
        · cases hy
      · cases hx
    · simp only [hj, if_false] at hx hy
      obtain ⟨v', h1, h2⟩ := h.get _ _ hx
      rw [hy] at h1; cases h1; exact h2)

structure ALoop where
  state : LoopState
  pending : Option Code
  fn : FuncId
  tmps : PT AV
  n : Nat
  params : Array Tmp
  assign : Code
  body : Code
  defers : Nat

inductive Blk where
  | cells (t : TypeId) (cs : List AV) (frz : Nat) (cl : Bool)
  | map (es : List (AV × AV × Nat)) (clock : Nat)
  | loop (l : ALoop)
  | dfr
  | siter (s : List UInt8) (pos : Nat)

structure AH where
  blk : PT Blk
  nxt : Nat

/-- depths of the tries -/
abbrev HD : Nat := 24
abbrev TD : Nat := 10

def AH.get (H : AH) (id : Nat) : Option Blk := PT.get HD H.blk id
def AH.put (H : AH) (id : Nat) (x : Blk) : AH := { H with blk := PT.set HD H.blk id (some x) }
def AH.kill (H : AH) (id : Nat) : AH := { H with blk := PT.set HD H.blk id none }
def AH.new (H : AH) (x : Blk) : AH := { blk := PT.set HD H.blk H.nxt (some x), nxt := H.nxt + 1 }

def TR (E : Env) (T : PT AV) (n : Nat) (tmps : Array Value) : Prop :=
  tmps.size = n ∧ ∀ t a, PT.get TD T t = some a → ∃ v, tmps[t]? = some v ∧ VR E a v

def ERs (E : Env) : List (AV × AV × Nat) → List MapEntry → Prop
  | [], vs => vs = []
  | (k, x, n) :: es, vs => ∃ e rest, vs = e :: rest ∧ VR E k e.key ∧ VR E x e.val ∧ e.born = n ∧ ERs E es rest

structure LR (E : Env) (l : ALoop) (L : Loop) : Prop where
  state : L.state = l.state
  pending : L.pending = l.pending
  fn : L.fn = l.fn
  tmps : TR E l.tmps l.n L.tmps
  params : L.params = l.params
  assign : L.assign = l.assign
  body : L.body = l.body
  defers : ∃ s n, E.ι l.defers = some (L.defers, s, n)

/-- block b of the heap, from cell s on (n cells), is as the abstract block says -/
def BR (E : Env) (w : World) (b s n : Nat) : Blk → Prop
  | .cells t cs frz cl => ∃ c fz, w.heap[b]? = some (.cells c t fz) ∧ c.size = s + n ∧ cs.length ≤ n ∧ (cl = true → s = 0 ∧ (fz.1 = fz.2 ∨ fz.2 ≤ s + frz)) ∧
      (∀ k, s + frz ≤ k → k < c.size → ¬ (fz.1 ≤ k ∧ k < fz.2)) ∧ ∀ j a, cs[j]? = some a → ∃ v, c[s + j]? = some v ∧ VR E a v
  | .map es clock => ∃ arr, w.heap[b]? = some (.map arr clock) ∧ ERs E es arr.toList
  | .loop l => ∃ L, w.heap[b]? = some (.loop L) ∧ LR E l L
  | .dfr => w.heap[b]? = some (.deferred (some []))
  | .siter s' pos => s = 0 ∧ w.heap[b]? = some (.stringIter ⟨⟨s'⟩⟩ pos)

structure HR (E : Env) (H : AH) (w : World) : Prop where
  blks : ∀ id x b s n, H.get id = some x → E.ι id = some (b, s, n) → BR E w b s n x
  inj : ∀ id id' x x' b p p', H.get id = some x → H.get id' = some x' → E.ι id = some (b, p) → E.ι id' = some (b, p') → id = id'
  nxt : ∀ id x, E.ι id = some x → id < H.nxt
  bnd : ∀ id b p, E.ι id = some (b, p) → b < w.heap.size
  imm : ∀ b o v, E.I b o = some v → w.cell? ⟨b, o, none⟩ = some v
  disj : ∀ id x b p o v, H.get id = some x → E.ι id = some (b, p) → E.I b o = some v → False
  N : E.N ≤ H.nxt

structure Ext (E : Env) (w : World) (E' : Env) (w' : World) : Prop where
  le : E.le E'
  size : w.heap.size ≤ w'.heap.size
  keep : ∀ b, b < w.heap.size → (∀ id p, E.ι id ≠ some (b, p)) → w'.heap[b]? = w.heap[b]?
  new : ∀ id b p, E'.ι id = some (b, p) → (∃ i p, E.ι i = some (b, p)) ∨ w.heap.size ≤ b
  tape : w'.tape = w.tape
  os : w'.os = w.os
  out : w'.output = w.output
  ids : ∀ id, E.ι id = none → E'.ι id ≠ none → E.N ≤ id
  N : E.N ≤ E'.N

theorem Env.le.refl (E : Env) : E.le E := ⟨fun _ _ h => h, fun _ _ _ h => h⟩
theorem Env.le.trans {E F G : Env} (h : E.le F) (k : F.le G) : E.le G := ⟨fun i x hx => k.ι i x (h.ι i x hx), fun b o v hv => k.I b o v (h.I b o v hv)⟩
theorem Ext.refl (E : Env) (w : World) : Ext E w E w := ⟨.refl E, Nat.le_refl _, fun _ _ _ => rfl, fun id _ p h => .inl ⟨id, p, h⟩, rfl, rfl, rfl, fun _ h k => absurd h k, Nat.le_refl _⟩
theorem Ext.trans {E F G : Env} {w x y : World} (h : Ext E w F x) (k : Ext F x G y) : Ext E w G y := by
  refine ⟨h.le.trans k.le, Nat.le_trans h.size k.size, ?_, ?_, k.tape.trans h.tape, k.os.trans h.os, k.out.trans h.out, ?_, Nat.le_trans h.N k.N⟩
  · intro b hb hn
    rw [k.keep b (Nat.lt_of_lt_of_le hb h.size), h.keep b hb hn]
    intro id p he
    rcases h.new id b p he with ⟨i, p', hi⟩ | hle
    · exact hn i p' hi
    · omega
  · intro id b p hg
    rcases k.new id b p hg with ⟨i, p', hi⟩ | hle
    · exact h.new i b p' hi
    · exact .inr (Nat.le_trans h.size hle)
  · intro id he hg
    by_cases hf : F.ι id = none
    · exact Nat.le_trans h.N (k.ids id hf hg)
    · exact h.ids id he hf
theorem Ext.draw (E : Env) (w : World) : Ext E w E w.drew := ⟨.refl E, Nat.le_refl _, fun _ _ _ => rfl, fun id _ p h => .inl ⟨id, p, h⟩, rfl, rfl, rfl, fun _ h k => absurd h k, Nat.le_refl _⟩

theorem shape?_congr {w w' : World} {b : Nat} (h : w'.heap[b]? = w.heap[b]?) : w'.shape? b = w.shape? b := by simp only [World.shape?, h]
theorem cell?_congr {w w' : World} {b o : Nat} (h : w'.heap[b]? = w.heap[b]?) : w'.cell? ⟨b, o, none⟩ = w.cell? ⟨b, o, none⟩ := by simp only [World.cell?, h]
theorem frozen?_congr {w w' : World} {b o : Nat} (h : w'.heap[b]? = w.heap[b]?) : w'.frozen? ⟨b, o, none⟩ = w.frozen? ⟨b, o, none⟩ := by simp only [World.frozen?, h]
theorem cell?_of {w : World} {b o : Nat} {c : Array Value} {t : TypeId} {fz : Nat × Nat} (h : w.heap[b]? = some (.cells c t fz)) : w.cell? ⟨b, o, none⟩ = c[o]? := by simp [World.cell?, h]

theorem TR.mono {E E' : Env} (h : E.le E') {T : PT AV} {n : Nat} {tmps : Array Value} (ht : TR E T n tmps) : TR E' T n tmps :=
  ⟨ht.1, fun t a ha => let ⟨v, h1, h2⟩ := ht.2 t a ha; ⟨v, h1, VR.mono h a v h2⟩⟩
theorem ERs.mono {E E' : Env} (h : E.le E') : ∀ (es : List (AV × AV × Nat)) (vs : List MapEntry), ERs E es vs → ERs E' es vs
  | [], _, hv => by simpa [ERs] using hv
  | (k, x, n) :: es, vs, hv => by
    simp only [ERs] at *
    obtain ⟨e, rest, h1, h2, h3, h4, h5⟩ := hv
    exact ⟨e, rest, h1, VR.mono h _ _ h2, VR.mono h _ _ h3, h4, ERs.mono h es rest h5⟩
theorem LR.mono {E E' : Env} (h : E.le E') {l : ALoop} {L : Loop} (x : LR E l L) : LR E' l L :=
  ⟨x.state, x.pending, x.fn, x.tmps.mono h, x.params, x.assign, x.body, let ⟨s, n, hs⟩ := x.defers; ⟨s, n, h.ι _ _ hs⟩⟩
theorem BR.mono {E E' : Env} (h : E.le E') {w : World} {b s n : Nat} : ∀ (x : Blk), BR E w b s n x → BR E' w b s n x
  | .cells .., hb => by
    simp only [BR] at *
    obtain ⟨c, fz, h1, h2, h3, h4, h5, h6⟩ := hb
    exact ⟨c, fz, h1, h2, h3, h4, h5, fun j a ha => let ⟨v, k1, k2⟩ := h6 j a ha; ⟨v, k1, VR.mono h _ _ k2⟩⟩
  | .map .., hb => let ⟨arr, h1, h2⟩ := hb; ⟨arr, h1, ERs.mono h _ _ h2⟩
  | .loop _, hb => let ⟨L, h1, h2⟩ := hb; ⟨L, h1, h2.mono h⟩
  | .dfr, hb => hb
  | .siter .., hb => hb
theorem BR.congr {E : Env} {w w' : World} {b s n : Nat} (h : w'.heap[b]? = w.heap[b]?) {x : Blk} (hb : BR E w b s n x) : BR E w' b s n x := by
  cases x <;> (simp only [BR] at hb ⊢; rw [h]; exact hb)

theorem HR.draw {E : Env} {H : AH} {w w' : World} (h : HR E H w) (he : w'.heap = w.heap) : HR E H w' :=
  ⟨fun id x b s n hx hi => BR.congr (by rw [he]) (h.blks id x b s n hx hi), h.inj, h.nxt, fun id b p hb => by rw [he]; exact h.bnd id b p hb,
    fun b o v hv => by rw [cell?_congr (w := w) (by rw [he])]; exact h.imm b o v hv, h.disj, h.N⟩

theorem AH.get_put {H : AH} {id n : Nat} {x y : Blk} (h : (H.put id x).get n = some y) : (n = id ∧ x = y) ∨ (n ≠ id ∧ H.get n = some y) := by
  rcases PT.get_set_some h with ⟨h1, h2⟩ | ⟨h1, h2⟩
  · exact .inl ⟨h1, Option.some.inj h2⟩
  · exact .inr ⟨h1, h2⟩
theorem AH.get_kill {H : AH} {id n : Nat} {y : Blk} (h : (H.kill id).get n = some y) : n ≠ id ∧ H.get n = some y := by
  rcases PT.get_set_some h with ⟨_, h2⟩ | ⟨h1, h2⟩
  · cases h2
  · exact ⟨h1, h2⟩
theorem AH.get_new {H : AH} {n : Nat} {x y : Blk} (h : (H.new x).get n = some y) : (n = H.nxt ∧ x = y) ∨ (n ≠ H.nxt ∧ H.get n = some y) := by
  rcases PT.get_set_some h with ⟨h1, h2⟩ | ⟨h1, h2⟩
  · exact .inl ⟨h1, Option.some.inj h2⟩
  · exact .inr ⟨h1, h2⟩

theorem HR.kill {E : Env} {H : AH} {w : World} (h : HR E H w) (id : Nat) : HR E (H.kill id) w :=
  ⟨fun i x b s n hx hi => h.blks i x b s n (AH.get_kill hx).2 hi, fun i i' x x' b p p' hx hx' => h.inj i i' x x' b p p' (AH.get_kill hx).2 (AH.get_kill hx').2, h.nxt, h.bnd, h.imm,
    fun i x b p o v hx => h.disj i x b p o v (AH.get_kill hx).2, h.N⟩

def Env.add (E : Env) (id : Nat) (p : Nat × Nat × Nat) : Env := { E with ι := fun i => if i = id then some p else E.ι i }
theorem Env.le_add {E : Env} {id : Nat} {p : Nat × Nat × Nat} (h : E.ι id = none) : E.le (E.add id p) :=
  ⟨fun i x hx => by simp only [Env.add]; rw [if_neg (fun e => by rw [e, h] at hx; cases hx)]; exact hx, fun _ _ _ hv => hv⟩
theorem Env.add_same {E : Env} {id : Nat} {p : Nat × Nat × Nat} : (E.add id p).ι id = some p := by simp [Env.add]

theorem HR.fresh {E : Env} {H : AH} {w : World} (h : HR E H w) : E.ι H.nxt = none := by
  cases hn : E.ι H.nxt with
  | none => rfl
  | some x => exact absurd (h.nxt _ _ hn) (Nat.lt_irrefl _)

theorem heap_alloc_lt {w : World} {o : Obj} {b : Nat} (hb : b < w.heap.size) : (w.alloc o).heap[b]? = w.heap[b]? := by
  simp only [World.alloc, Array.getElem?_push]; rw [if_neg (by omega)]
theorem heap_alloc_new {w : World} {o : Obj} : (w.alloc o).heap[w.heap.size]? = some o := by
  simp only [World.alloc, Array.getElem?_push, if_true]

/-- A NEW BLOCK at the end of the heap, under whatever free number. -/
theorem HR.allocAt {E : Env} {H H' : AH} {w : World} (h : HR E H w) (id0 : Nat) (hf : E.ι id0 = none) (hN : E.N ≤ id0) (h0 : id0 < H'.nxt) (hn : H.nxt ≤ H'.nxt) (o : Obj) (x : Blk) (n : Nat)
    (hget : ∀ i y, H'.get i = some y → (i = id0 ∧ y = x) ∨ (i ≠ id0 ∧ H.get i = some y))
    (hx : BR (E.add id0 (w.heap.size, 0, n)) (w.alloc o) w.heap.size 0 n x) :
    HR (E.add id0 (w.heap.size, 0, n)) H' (w.alloc o) ∧ Ext E w (E.add id0 (w.heap.size, 0, n)) (w.alloc o) := by
  have hle : E.le (E.add id0 (w.heap.size, 0, n)) := Env.le_add hf
  refine ⟨⟨?_, ?_, ?_, ?_, ?_, ?_, Nat.le_trans h.N hn⟩, ⟨hle, by simp, fun b hb _ => heap_alloc_lt hb, ?_, rfl, rfl, rfl, ?_, Nat.le_refl _⟩⟩
  · intro id y b s m hy hi
    rcases hget id y hy with ⟨rfl, rfl⟩ | ⟨hne, hy⟩
    · rw [Env.add_same] at hi
      simp only [Option.some.injEq, Prod.mk.injEq] at hi
      obtain ⟨rfl, rfl, rfl⟩ := hi
      exact hx
    · simp only [Env.add, hne, if_false] at hi
      exact BR.mono hle _ (BR.congr (heap_alloc_lt (h.bnd _ _ _ hi)) (h.blks id y b s m hy hi))
  · intro id id' y y' b p p' hy hy' hb hb'
    rcases hget id y hy with ⟨e1, _⟩ | ⟨hne, k1⟩ <;> rcases hget id' y' hy' with ⟨e2, _⟩ | ⟨hne', k2⟩
    · rw [e1, e2]
    · subst e1
      rw [Env.add_same] at hb
      simp only [Option.some.injEq, Prod.mk.injEq] at hb
      simp only [Env.add, hne', if_false] at hb'
      have := h.bnd _ _ _ hb'
      omega
    · subst e2
      rw [Env.add_same] at hb'
      simp only [Option.some.injEq, Prod.mk.injEq] at hb'
      simp only [Env.add, hne, if_false] at hb
      have := h.bnd _ _ _ hb
      omega
    · simp only [Env.add, hne, hne', if_false] at hb hb'
      exact h.inj id id' y y' b p p' k1 k2 hb hb'
  · intro id y hy
    simp only [Env.add] at hy
    split at hy
    · rename_i he; subst he; exact h0
    · have := h.nxt _ _ hy; omega
  · intro id b p hb
    simp only [Env.add] at hb
    split at hb
    · simp only [Option.some.injEq, Prod.mk.injEq] at hb; simp; omega
    · have := h.bnd _ _ _ hb; simp; omega
  · intro b o' v hv
    have h1 := h.imm b o' v hv
    have hlt := World.block_lt_of_cell? _ _ h1
    rw [cell?_congr (heap_alloc_lt hlt)]
    exact h1
  · intro id y b p o' v hy hb hv
    have hlt := World.block_lt_of_cell? _ _ (h.imm b o' v hv)
    simp only [Env.add] at hb
    split at hb
    · simp only [Option.some.injEq, Prod.mk.injEq] at hb; simp at hlt; omega
    · rename_i hne
      rcases hget id y hy with ⟨rfl, _⟩ | ⟨_, hy⟩
      · exact hne rfl
      · exact h.disj id y b p o' v hy hb hv
  · intro id b p hb
    simp only [Env.add] at hb
    split at hb
    · simp only [Option.some.injEq, Prod.mk.injEq] at hb; exact .inr (by omega)
    · exact .inl ⟨id, p, hb⟩
  · intro id he hne
    simp only [Env.add] at hne
    split at hne
    · rename_i hid; rw [hid]; exact hN
    · exact absurd he hne

/-- A NEW BLOCK at the end of the heap. -/
theorem HR.alloc {E : Env} {H : AH} {w : World} (h : HR E H w) (o : Obj) (x : Blk) (n : Nat) (hx : BR (E.add H.nxt (w.heap.size, 0, n)) (w.alloc o) w.heap.size 0 n x) :
    HR (E.add H.nxt (w.heap.size, 0, n)) (H.new x) (w.alloc o) ∧ Ext E w (E.add H.nxt (w.heap.size, 0, n)) (w.alloc o) :=
  h.allocAt H.nxt h.fresh h.N (by simp [AH.new]) (by simp [AH.new]) o x n (fun i y hy => by
    rcases AH.get_new hy with ⟨h1, h2⟩ | h1
    · exact .inl ⟨h1, h2.symm⟩
    · exact .inr h1) hx

/-- A block that is laid in thought alone. -/
theorem HR.think {E : Env} {H : AH} {w : World} (h : HR E H w) (x : Blk) : HR E (H.new x) w := by
  have ne : ∀ i q, E.ι i = some q → i ≠ H.nxt := fun i q hq e => by have := h.nxt _ _ hq; omega
  have gt : ∀ i y q, (H.new x).get i = some y → E.ι i = some q → H.get i = some y := fun i y q hy hq => by
    rcases AH.get_new hy with ⟨h1, _⟩ | h1
    · exact absurd h1 (ne i q hq)
    · exact h1.2
  exact ⟨fun i y b s n hy hi => h.blks i y b s n (gt i y _ hy hi) hi, fun i i' y y' b p p' hy hy' hb hb' => h.inj i i' y y' b p p' (gt i y _ hy hb) (gt i' y' _ hy' hb') hb hb',
    fun i q hq => by have := h.nxt i q hq; simp [AH.new]; omega, h.bnd, h.imm, fun i y b p o v hy hb hv => h.disj i y b p o v (gt i y _ hy hb) hb hv, by have := h.N; simp [AH.new]; omega⟩

theorem HR.blk {E : Env} {H : AH} {w : World} (h : HR E H w) {id b s n : Nat} {x : Blk} (hg : H.get id = some x) (hi : E.ι id = some (b, s, n)) : BR E w b s n x := by
  exact h.blks id x b s n hg hi
theorem HR.cell {E : Env} {H : AH} {w : World} (h : HR E H w) {id off : Nat} {t : TypeId} {cs : List AV} {frz b s n : Nat} {cl : Bool} {a : AV} (hg : H.get id = some (.cells t cs frz cl)) (hi : E.ι id = some (b, s, n))
    (ha : cs[off]? = some a) : ∃ v, w.cell? ⟨b, s + off, none⟩ = some v ∧ VR E a v := by
  obtain ⟨c, fz, h1, _, _, _, _, h6⟩ := h.blk hg hi
  rw [cell?_of h1]
  exact h6 off a ha

/-- WHAT TURNS ONE LIVE BLOCK ALONE. -/
theorem HR.turn {E : Env} {H : AH} {w w' : World} (h : HR E H w) {id b s n : Nat} {x y : Blk} (hg : H.get id = some x) (hi : E.ι id = some (b, s, n))
    (hsz : w'.heap.size = w.heap.size) (hsame : ∀ b', b' ≠ b → w'.heap[b']? = w.heap[b']?) (hy : BR E w' b s n y) (ht : w'.tape = w.tape) (ho : w'.os = w.os) (hu : w'.output = w.output) :
    HR E (H.put id y) w' ∧ Ext E w E w' := by
  refine ⟨⟨?_, ?_, h.nxt, ?_, ?_, ?_, h.N⟩, ⟨.refl E, by omega, ?_, fun i _ p hb => .inl ⟨i, p, hb⟩, ht, ho, hu, fun _ h k => absurd h k, Nat.le_refl _⟩⟩
  · intro i z b' s' n' hz h1
    rcases AH.get_put hz with ⟨rfl, rfl⟩ | ⟨hne, hz⟩
    · rw [hi] at h1
      cases h1
      exact hy
    · have h2 := h.blks i z b' s' n' hz h1
      have hbb : b' ≠ b := fun e => by subst e; exact hne (h.inj i id z x b' _ _ hz hg h1 hi)
      exact BR.congr (hsame b' hbb) h2
  · intro i i' z z' b1 p1 p1' hz hz' hb hb'
    rcases AH.get_put hz with ⟨e1, _⟩ | ⟨hne, k1⟩ <;> rcases AH.get_put hz' with ⟨e2, _⟩ | ⟨hne', k2⟩
    · rw [e1, e2]
    · subst e1; exact h.inj _ _ _ _ _ _ _ hg k2 hb hb'
    · subst e2; exact h.inj _ _ _ _ _ _ _ k1 hg hb hb'
    · exact h.inj _ _ _ _ _ _ _ k1 k2 hb hb'
  · intro i b' s' hb; rw [hsz]; exact h.bnd i b' s' hb
  · intro b' o v hv
    have hbb : b' ≠ b := fun e => by subst e; exact h.disj id x b' _ o v hg hi hv
    rw [cell?_congr (hsame b' hbb)]
    exact h.imm b' o v hv
  · intro i z b' s' o v hz hb hv
    rcases AH.get_put hz with ⟨rfl, _⟩ | ⟨hne, hz⟩
    · exact h.disj _ x b' s' o v hg hb hv
    · exact h.disj i z b' s' o v hz hb hv
  · intro b' _ hn
    exact hsame b' (fun e => by subst e; exact hn id _ hi)

/-- A DEAD BLOCK COMES BACK under another number: what was written into the block of a live one, which is given up. -/
theorem HR.again {E : Env} {H : AH} {w w' : World} (h : HR E H w) {id b s n s' n' : Nat} {x y : Blk} (hg : H.get id = some x) (hi : E.ι id = some (b, s, n))
    (hsz : w'.heap.size = w.heap.size) (hsame : ∀ b', b' ≠ b → w'.heap[b']? = w.heap[b']?) (hy : BR (E.add H.nxt (b, s', n')) w' b s' n' y) (ht : w'.tape = w.tape) (ho : w'.os = w.os) (hu : w'.output = w.output) :
    HR (E.add H.nxt (b, s', n')) ((H.kill id).new y) w' ∧ Ext E w (E.add H.nxt (b, s', n')) w' := by
  have hle : E.le (E.add H.nxt (b, s', n')) := Env.le_add h.fresh
  have hnx : (H.kill id).nxt = H.nxt := rfl
  refine ⟨⟨?_, ?_, ?_, ?_, ?_, ?_, by have := h.N; simp [AH.new, AH.kill, Env.add]; omega⟩, ⟨hle, by omega, ?_, ?_, ht, ho, hu, ?_, Nat.le_refl _⟩⟩
  · intro i z b' s1 n1 hz h1
    rcases AH.get_new hz with ⟨rfl, rfl⟩ | ⟨hne, hz⟩
    · rw [hnx, Env.add_same] at h1
      cases h1
      exact hy
    · obtain ⟨hid, hz⟩ := AH.get_kill hz
      rw [hnx] at hne
      simp only [Env.add, hne, if_false] at h1
      have h2 := h.blks i z b' s1 n1 hz h1
      have hbb : b' ≠ b := fun e => by subst e; exact hid (h.inj i id z x b' _ _ hz hg h1 hi)
      exact BR.mono hle _ (BR.congr (hsame b' hbb) h2)
  · intro i i' z z' b1 p p' hz hz' hb hb'
    have alive : ∀ (j : Nat) (u : Blk) (q : Nat × Nat × Nat), j ≠ H.nxt → ((H.kill id).new y).get j = some u → (E.add H.nxt (b, s', n')).ι j = some q → q.1 ≠ b := by
      intro j u q hj hu' hq e
      rcases AH.get_new hu' with ⟨e', _⟩ | ⟨_, k⟩
      · exact hj e'
      · obtain ⟨hid, k⟩ := AH.get_kill k
        simp only [Env.add, hj, if_false] at hq
        obtain ⟨q1, q2⟩ := q
        simp only at e; subst e
        exact hid (h.inj j id u x _ _ _ k hg hq hi)
    by_cases e1 : i = H.nxt <;> by_cases e2 : i' = H.nxt
    · rw [e1, e2]
    · subst e1
      rw [Env.add_same] at hb
      simp only [Option.some.injEq, Prod.mk.injEq] at hb
      exact absurd hb.1.symm (alive i' z' _ e2 hz' hb')
    · subst e2
      rw [Env.add_same] at hb'
      simp only [Option.some.injEq, Prod.mk.injEq] at hb'
      exact absurd hb'.1.symm (alive i z _ e1 hz hb)
    · rcases AH.get_new hz with ⟨e, _⟩ | ⟨_, k1⟩
      · exact absurd e e1
      rcases AH.get_new hz' with ⟨e, _⟩ | ⟨_, k2⟩
      · exact absurd e e2
      simp only [Env.add, e1, e2, if_false] at hb hb'
      exact h.inj i i' z z' b1 p p' (AH.get_kill k1).2 (AH.get_kill k2).2 hb hb'
  · intro i z hz
    simp only [Env.add] at hz
    split at hz
    · rename_i he; subst he; simp [AH.new, AH.kill]
    · have := h.nxt _ _ hz; simp [AH.new, AH.kill]; omega
  · intro i b1 p hb
    simp only [Env.add] at hb
    split at hb
    · simp only [Option.some.injEq, Prod.mk.injEq] at hb; rw [hsz, ← hb.1]; exact h.bnd _ _ _ hi
    · rw [hsz]; exact h.bnd _ _ _ hb
  · intro b' o v hv
    have hbb : b' ≠ b := fun e => by subst e; exact h.disj id x b' _ o v hg hi hv
    rw [cell?_congr (hsame b' hbb)]
    exact h.imm b' o v hv
  · intro i z b' p o v hz hb hv
    simp only [Env.add] at hb
    split at hb
    · simp only [Option.some.injEq, Prod.mk.injEq] at hb; exact h.disj id x b' _ o v hg (by rw [← hb.1]; exact hi) hv
    · rename_i hne
      rcases AH.get_new hz with ⟨e, _⟩ | ⟨_, k⟩
      · exact hne e
      · exact h.disj i z b' p o v (AH.get_kill k).2 hb hv
  · intro b' _ hn
    exact hsame b' (fun e => by subst e; exact hn id _ hi)
  · intro i b1 p hb
    simp only [Env.add] at hb
    split at hb
    · simp only [Option.some.injEq, Prod.mk.injEq] at hb; exact .inl ⟨id, _, by rw [← hb.1]; exact hi⟩
    · exact .inl ⟨i, p, hb⟩
  · intro id' he hne
    simp only [Env.add] at hne
    split at hne
    · rename_i hid; rw [hid]; exact h.N
    · exact absurd he hne

theorem heap_setCell_ne {w : World} {a : Addr} {v : Value} {b : Nat} (h : b ≠ a.block) : (w.setCell a v).heap[b]? = w.heap[b]? := by
  simp only [World.setCell, Array.getElem?_modify]; rw [if_neg (fun e => h e.symm)]

theorem setCells_facts (b : Nat) (t : TypeId) (fz : Nat × Nat) : ∀ (vs : List Value) (o : Nat) (w : World) (c : Array Value), w.heap[b]? = some (.cells c t fz) → o + vs.length ≤ c.size →
    ∃ c', (w.setCells b o vs).heap[b]? = some (.cells c' t fz) ∧ c'.size = c.size ∧ (∀ j v, vs[j]? = some v → c'[o + j]? = some v) ∧
    (∀ k, (k < o ∨ o + vs.length ≤ k) → c'[k]? = c[k]?) ∧ (∀ b', b' ≠ b → (w.setCells b o vs).heap[b']? = w.heap[b']?) ∧
    (w.setCells b o vs).heap.size = w.heap.size ∧
    (w.setCells b o vs).tape = w.tape ∧ (w.setCells b o vs).os = w.os ∧ (w.setCells b o vs).output = w.output
  | [], o, w, c, h, _ => ⟨c, h, rfl, fun j v h => by simp at h, fun _ _ => rfl, fun _ _ => rfl, rfl, rfl, rfl, rfl⟩
  | v :: vs, o, w, c, h, hl => by
    simp only [List.length_cons] at hl
    have hset : (w.setCell ⟨b, o, none⟩ v).heap[b]? = some (.cells (c.setIfInBounds o v) t fz) := by
      simp [World.setCell, Array.getElem?_modify, h]
    obtain ⟨c', i1, i2, i3, i4, i5, i6, i7, i8, i9⟩ := setCells_facts b t fz vs (o + 1) (w.setCell ⟨b, o, none⟩ v) _ hset (by simp; omega)
    simp only [World.setCells]
    refine ⟨c', i1, by rw [i2]; simp, ?_, ?_, ?_, ?_, ?_, ?_, ?_⟩
    · intro j x hx
      cases j with
      | zero =>
        simp only [List.getElem?_cons_zero, Option.some.injEq] at hx
        subst hx
        rw [i4 (o + 0) (.inl (by omega))]
        simp only [Nat.add_zero, Array.getElem?_setIfInBounds_self]
        rw [if_pos (by omega)]
      | succ j =>
        simp only [List.getElem?_cons_succ] at hx
        have := i3 j x hx
        rwa [show o + 1 + j = o + (j + 1) by omega] at this
    · intro k hk
      simp only [List.length_cons] at hk
      rw [i4 k (by omega)]
      rw [Array.getElem?_setIfInBounds]
      rw [if_neg (by omega)]
    · intro b' hb'; rw [i5 b' hb', heap_setCell_ne hb']
    · rw [i6]; simp
    · rw [i7]; rfl
    · rw [i8]; rfl
    · rw [i9]; rfl

def setMany (cs : List AV) (off : Nat) (vs : List AV) : List AV := cs.take off ++ vs ++ cs.drop (off + vs.length)

/-- the cells that a store of a row meets -/
theorem BR.room {E : Env} {w : World} {b s n : Nat} {t : TypeId} {cs : List AV} {frz : Nat} {cl : Bool} (h : BR E w b s n (.cells t cs frz cl)) (o m : Nat) (h1 : s + frz ≤ o) (h2 : o + m ≤ s + n) :
    (∀ j, j < m → (w.cell? ⟨b, o + j, none⟩).isSome = true) ∧ (∀ j, j < m → w.frozen? ⟨b, o + j, none⟩ = false) := by
  obtain ⟨c, fz, k1, k2, k3, k4, k5, k6⟩ := h
  refine ⟨fun j hj => ?_, fun j hj => ?_⟩
  · rw [cell?_of k1]
    simp; omega
  · have := k5 (o + j) (by omega) (by omega)
    simp only [World.frozen?, k1]
    simpa using this

theorem run_storeCells' (P : Program) {w : World} {b o : Nat} {vs : List Value} (hc : ∀ j, j < vs.length → (w.cell? ⟨b, o + j, none⟩).isSome = true) (hf : ∀ j, j < vs.length → w.frozen? ⟨b, o + j, none⟩ = false)
    (h1 : ∀ v ∈ vs, v.oneCell' = true) : (storeCells ⟨b, o, none⟩ vs).run P w = .ok () (w.setCells b o vs) := by
  have := run_storeCells_cells (P := P) b o vs 0 w (by simpa using hc) (by simpa using hf) h1
  simpa using this

/-- A STORE of a row of cells into a live block. -/
theorem HR.store {E : Env} {H : AH} {w : World} (h : HR E H w) {id off : Nat} {t : TypeId} {cs : List AV} {frz b s n : Nat} {cl : Bool} (hg : H.get id = some (.cells t cs frz cl)) (hi : E.ι id = some (b, s, n))
    {as : List AV} {vs : List Value} (hv : VRs E as vs) (hoff : off + as.length ≤ cs.length) :
    HR E (H.put id (.cells t (setMany cs off as) frz cl)) (w.setCells b (s + off) vs) ∧ Ext E w E (w.setCells b (s + off) vs) := by
  obtain ⟨c, fz, k1, k2, k3, k4, k5, k6⟩ := h.blk hg hi
  have hl := hv.length
  obtain ⟨c', i1, i2, i3, i4, i5, i6, i7, i8, i9⟩ := setCells_facts b t fz vs (s + off) w c k1 (by omega)
  have hlen : (setMany cs off as).length = cs.length := by simp [setMany]; omega
  refine h.turn (w' := w.setCells b (s + off) vs) (y := .cells t (setMany cs off as) frz cl) hg hi i6 i5 ⟨c', fz, i1, by omega, by omega, k4, by rw [i2]; exact k5, fun j a ha => ?_⟩ i7 i8 i9
  have hj : j < cs.length := by rw [← hlen]; exact (List.getElem?_eq_some_iff.1 ha).1
  by_cases hin : off ≤ j ∧ j < off + as.length
  · have hx : as[j - off]? = some a := by
      have : (setMany cs off as)[j]? = as[j - off]? := by
        simp only [setMany, List.append_assoc]
        rw [List.getElem?_append_right (by simp; omega), List.getElem?_append_left (by simp; omega)]
        simp [show min off cs.length = off by omega]
      rw [← this]; exact ha
    obtain ⟨v, hv1, hv2⟩ := hv.get _ _ hx
    have := i3 (j - off) v hv1
    rw [show s + off + (j - off) = s + j by omega] at this
    exact ⟨v, this, hv2⟩
  · have hx : cs[j]? = some a := by
      have : (setMany cs off as)[j]? = cs[j]? := by
        simp only [setMany, List.append_assoc]
        by_cases hlt : j < off
        · rw [List.getElem?_append_left (by simp; omega)]
          simp [hlt]
        · rw [List.getElem?_append_right (by simp; omega), List.getElem?_append_right (by simp; omega)]
          simp only [List.length_take, List.getElem?_drop]
          congr 1
          omega
      rw [← this]; exact ha
    obtain ⟨v, hc, hr⟩ := k6 j a hx
    exact ⟨v, by rw [i4 (s + j) (by omega)]; exact hc, hr⟩

/-- AN APPEND IN PLACE: the old block is given up, what was written lies in the same row. -/
theorem HR.appendIn {E : Env} {H : AH} {w : World} (h : HR E H w) {id off k : Nat} {t : TypeId} {cs : List AV} {frz b s n : Nat} {cl : Bool} (hg : H.get id = some (.cells t cs frz cl)) (hi : E.ι id = some (b, s, n))
    {as : List AV} {vs : List Value} (hv : VRs E as vs) (hoff : off + k ≤ cs.length) (hroom : off + k + as.length ≤ n) (_hfr : frz ≤ off + k) :
    HR (E.add H.nxt (b, s + off, n - off)) ((H.kill id).new (.cells t ((cs.drop off).take k ++ as) (frz - off) (cl && off == 0))) (w.setCells b (s + (off + k)) vs) ∧
      Ext E w (E.add H.nxt (b, s + off, n - off)) (w.setCells b (s + (off + k)) vs) := by
  obtain ⟨c, fz, k1, k2, k3, k4, k5, k6⟩ := h.blk hg hi
  have hl := hv.length
  have hle : E.le (E.add H.nxt (b, s + off, n - off)) := Env.le_add h.fresh
  obtain ⟨c', i1, i2, i3, i4, i5, i6, i7, i8, i9⟩ := setCells_facts b t fz vs (s + (off + k)) w c k1 (by omega)
  refine h.again hg hi i6 i5 ⟨c', fz, i1, by omega, by simp; omega, fun e => by simp at e; obtain ⟨q1, q2⟩ := k4 e.1; exact ⟨by omega, q2.imp (fun x => x) (fun x => by omega)⟩, fun j hj => by rw [i2]; exact k5 j (by omega), fun j a ha => ?_⟩ i7 i8 i9
  by_cases hj : j < k
  · have hx : cs[off + j]? = some a := by
      rw [List.getElem?_append_left (by simp; omega)] at ha
      simpa [List.getElem?_take, List.getElem?_drop, hj] using ha
    obtain ⟨v, hc, hr⟩ := k6 _ a hx
    refine ⟨v, ?_, VR.mono hle _ _ hr⟩
    rw [i4 (s + off + j) (by omega), Nat.add_assoc]
    exact hc
  · have hx : as[j - k]? = some a := by
      rw [List.getElem?_append_right (by simp; omega)] at ha
      simpa [show min k (cs.length - off) = k by omega] using ha
    obtain ⟨v, hv1, hv2⟩ := hv.get _ _ hx
    have := i3 (j - k) v hv1
    rw [show s + (off + k) + (j - k) = s + off + j by omega] at this
    exact ⟨v, this, VR.mono hle _ _ hv2⟩

end Go.Am

namespace Go.Am
/-- what a new block is called by -/
inductive FK where
  | ptr | mp
  | sl (len st : Nat)
def FK.mk : FK → Nat → AV
  | .ptr, id => .ptr id 0
  | .mp, id => .mp id
  | .sl len st, id => .sl id 0 len st

/-! ## Values out of the program's constants -/
def ofV : Nat → Value → AV
  | _, .bool b => .b b
  | _, .int k n => .i k n
  | _, .string s => .str s.data.toList
  | _, .pointer none => .nilp
  | _, .slice none 0 0 => .nils
  | _, .map none => .nilm
  | _, .nilFunc => .nilf
  | _, .nilIface => .nili
  | n + 1, .iface t v => .ifc t (ofV n v)
  | n + 1, .agg cs => .agg (cs.toList.map (ofV n))
  | _, v => .op v

def AV.cells : AV → Option (List AV)
  | .agg cs => some cs
  | .tup _ | .any => none
  | .op v => if v.oneCell' then some [.op v] else none
  | a => some [a]

section
variable (P : Program)

def szT (t : TypeId) : Option Nat := match P.info? t with | some i => some i.size | none => none
def zeroV (t : TypeId) : Option AV := match P.info? t with | some i => (match i.zero with | some v => some (ofV 3 v) | none => none) | none => none
def zeroT (t : TypeId) : Option (List AV) := match zeroV P t with | some a => a.cells | none => none
def aggT (t : TypeId) : Option Bool := match P.underlying t with
  | some (.struct _) | some (.array _ _) => some true
  | some _ => some false
  | none => none

def loadFrom (t : TypeId) (cs : List AV) (off : Nat) : Option AV :=
  match aggT P t with
  | some true => match szT P t with
    | some n => if off + n ≤ cs.length then some (.agg ((cs.drop off).take n)) else none
    | none => none
  | some false => cs[off]?
  | none => none

def aload (H : AH) (t : TypeId) : AV → Option AV
  | .ptr id off => match H.get id with
    | some (.cells _ cs _ _) => loadFrom P t cs off
    | _ => none
  | .ip cs => loadFrom P t cs 0
  | _ => none

def astore (H : AH) (t : TypeId) (a x : AV) : Option AH :=
  match a with
  | .ptr id off => match H.get id, x.cells, szT P t with
    | some (.cells t' cs frz cl), some xs, some n =>
      if xs.length = n ∧ off + n ≤ cs.length ∧ frz ≤ off ∧ xs.all AV.one = true then some (H.put id (.cells t' (setMany cs off xs) frz cl)) else none
    | _, _, _ => none
  | _ => none

/-- parts laid into a row of cells -/
def afill (place : Nat → Option (Nat × Nat)) (cells : List AV) : List (Nat × AV) → Option (List AV)
  | [] => some cells
  | (i, v) :: rest => match place i, v.cells with
    | some (off, size), some xs => if xs.length = size ∧ off + size ≤ cells.length then afill place (setMany cells off xs) rest else none
    | _, _ => none

def fieldAt? : List Field → Nat → Option (Nat × Nat)
  | [], _ => none
  | f :: _fs, 0 => match szT P f.type with | some n => some (f.offset, n) | none => none
  | _ :: fs, i + 1 => fieldAt? fs i

def sizesOk (fs : List Field) : Bool := fs.all fun f => (szT P f.type).isSome

def repCells (z : List AV) : Nat → List AV
  | 0 => []
  | n + 1 => z ++ repCells z n

def abuild (t : TypeId) (parts : List (Nat × AV)) : Option AV :=
  match zeroT P t, P.underlying t with
  | some z, some (.struct fs) => if sizesOk P fs.toList then (match afill (fieldAt? P fs.toList) z parts with | some cs => some (.agg cs) | none => none) else none
  | some z, some (.array _ e) => match szT P e with
    | some n => (match afill (fun i => some (i * n, n)) z parts with | some cs => some (.agg cs) | none => none)
    | none => none
  | _, _ => none

def abuildSlice (t : TypeId) (len : Nat) (parts : List (Nat × AV)) : Option (FK × Blk) :=
  match P.underlying t with
  | some (.slice e) => match szT P e, zeroT P e with
    | some n, some z => if len * n ≤ 2 ^ 24 ∧ 0 < n ∧ z.length = n then
        (match afill (fun i => some (i * n, n)) (repCells z len) parts with
        | some cs => some (.sl len n, .cells e cs 0 true)
        | none => none) else none
    | _, _ => none
  | _ => none

/-! ## Arithmetic -/
def aWrap (k : IntKind) (n : Int) : Int := match n with
  | .ofNat m => cond (Nat.ble m 127) n (k.wrap n)
  | _ => k.wrap n

def aBits (op : BinOp) (k : IntKind) (x y : Int) : Option Int :=
  let a := BitVec.ofInt k.bits x
  let b := BitVec.ofInt k.bits y
  match op with
  | .and => some (k.wrap (a &&& b).toNat)
  | .or => some (k.wrap (a ||| b).toNat)
  | .xor => some (k.wrap (a ^^^ b).toNat)
  | .andNot => some (k.wrap (a &&& ~~~b).toNat)
  | _ => none

def aInt (op : BinOp) (k : IntKind) (x y : Int) : Option AV :=
  match op with
  | .add => some (.i k (aWrap k (x + y)))
  | .sub => some (.i k (aWrap k (x - y)))
  | .mul => some (.i k (aWrap k (x * y)))
  | .quo => if y = 0 then none else some (.i k (aWrap k (x.tdiv y)))
  | .rem => if y = 0 then none else some (.i k (x.tmod y))
  | .eql => some (.b (x == y))
  | .neq => some (.b (x != y))
  | .lss => some (.b (decide (x < y)))
  | .leq => some (.b (decide (x ≤ y)))
  | .gtr => some (.b (decide (x > y)))
  | .geq => some (.b (decide (x ≥ y)))
  | .shl | .shr => none
  | op => match aBits op k x y with | some n => some (.i k n) | none => none

def aShift (op : BinOp) (k : IntKind) (x y : Int) : Option AV :=
  if y < 0 then none else
  let n := min y.toNat k.bits
  match op with
  | .shl => some (.i k (k.wrap (x * 2 ^ n)))
  | .shr => some (.i k (x.fdiv (2 ^ n)))
  | _ => none

/-- the fields of two structs, one after the other -/
def aeqFields (eq : TypeId → AV → AV → Option Bool) (xs ys : List AV) : List Field → Option Bool
  | [] => some true
  | f :: fs =>
    if f.name ≠ "_" then
      match loadFrom P f.type xs f.offset, loadFrom P f.type ys f.offset with
      | some a, some b => (match eq f.type a b with
        | some true => aeqFields eq xs ys fs
        | r => r)
      | _, _ => none
    else aeqFields eq xs ys fs

/-- equality of plain values of a type -/
def aeq : Nat → TypeId → AV → AV → Option Bool
  | 0, _, _, _ => none
  | d + 1, t, x, y =>
    match P.underlying t, x, y with
    | some .bool, .b a, .b b => some (a == b)
    | some (.int _), .i k a, .i k' b => if k = k' then some (a == b) else none
    | some .string, .str a, .str b => some (a == b)
    | some (.struct fs), .agg xs, .agg ys => if P.stoodInHeld t then none else aeqFields P (aeq d) xs ys fs.toList
    | _, _, _ => none

def aEql (t : TypeId) (x y : AV) : Option Bool :=
  match x, y with
  | .nilp, .nilp => (match P.underlying t with | some (.pointer _) => some true | _ => none)
  | .nilp, .ptr .. | .ptr .., .nilp | .nilp, .ip _ | .ip _, .nilp => (match P.underlying t with | some (.pointer _) => some false | _ => none)
  | .ptr i o, .ptr j o' => (match P.underlying t with
    | some (.pointer e) => (match szT P e with | some (_ + 1) => if i = j then some (o == o') else none | _ => none)
    | _ => none)
  | .nils, .nils => (match P.underlying t with | some (.slice _) => some true | _ => none)
  | .sl .., .nils | .nils, .sl .. => (match P.underlying t with | some (.slice _) => some false | _ => none)
  | .nilm, .nilm => (match P.underlying t with | some (.map _ _) => some true | _ => none)
  | .mp _, .nilm | .nilm, .mp _ => (match P.underlying t with | some (.map _ _) => some false | _ => none)
  | .nilf, .nilf => (match P.underlying t with | some (.func ..) => some true | _ => none)
  | .fn .., .nilf | .nilf, .fn .. => (match P.underlying t with | some (.func ..) => some false | _ => none)
  | .nili, .ifc .. | .ifc .., .nili => (match P.underlying t with | some (.interface _) => some false | _ => none)
  | .b a, .b b => (match P.underlying t with | some .bool => some (a == b) | _ => none)
  | .agg xs, .agg ys => if P.eqGuardType P.depth t then none else aeq P 10000 t (.agg xs) (.agg ys)
  | _, _ => none

def isConst : Operand → Bool
  | .const _ => true
  | _ => false

def aBin (op : BinOp) (t : TypeId) (ox oy : Operand) (x y : AV) : Option AV :=
  match x, y with
  | .i k a, .i k' b => (match op with
    | .shl | .shr => aShift op k a b
    | _ => if k = k' then aInt op k a b else none)
  | .str a, .str b => (match op with
    | .add => if a.length + b.length ≤ 2 ^ 62 then some (.str (a ++ b)) else none
    | .eql => some (.b (a == b))
    | .neq => some (.b (!(a == b)))
    | .lss => some (.b (Op.bytesLess a b))
    | .leq => some (.b (Op.bytesLess a b || a == b))
    | .gtr => some (.b (!(Op.bytesLess a b || a == b)))
    | .geq => some (.b (!(Op.bytesLess a b)))
    | _ => none)
  | .nili, .nili => (match P.underlying t with
    | some (.interface ms) => if isConst ox || isConst oy || ms.isEmpty then (match op with | .eql => some (.b true) | .neq => some (.b false) | _ => none) else none
    | _ => none)
  | x, y => (match op with
    | .eql => (match aEql P t x y with | some b => some (.b b) | none => none)
    | .neq => (match aEql P t x y with | some b => some (.b (!b)) | none => none)
    | _ => none)

def aUn (op : UnOp) : AV → Option AV
  | .i k n => (match op with
    | .neg => some (.i k (k.wrap (0 - n)))
    | .xor => (match aBits .xor k (if k.signed then -1 else k.max) n with | some m => some (.i k m) | none => none)
    | _ => none)
  | .b x => (match op with | .not => some (.b (!x)) | _ => none)
  | _ => none

/-- indices -/
def asNat (n : Int) : Option Nat := match n with | .ofNat m => some m | _ => none

def aindexAddr (_H : AH) (t : TypeId) (x : AV) (n : Int) : Option AV :=
  match P.underlying t, asNat n with
  | some (.array len e), some i => (match szT P e with
    | some st => if i < len then (match x with
      | .ptr id off => some (.ptr id (off + i * st))
      | .ip cs => some (.ip (cs.drop (i * st)))
      | _ => none) else none
    | none => none)
  | some (.slice e), some i => (match szT P e with
    | some st => (match x with
      | .sl id off len st' => if i < len ∧ st = st' then some (.ptr id (off + i * st)) else none
      | .isl cs len => if i < len then some (.ip (cs.drop (i * st))) else none
      | _ => none)
    | none => none)
  | _, _ => none

def aindex (t : TypeId) (x : AV) (n : Int) : Option AV :=
  match P.underlying t, asNat n, x with
  | some (.array len e), some i, .agg cs => (match szT P e with
    | some st => if i < len then loadFrom P e cs (i * st) else none
    | none => none)
  | some .string, some i, .str s => (match s[i]? with | some b => some (.i .u8 b.toNat) | none => none)
  | _, _, _ => none

/-- bounds of a slice expression without a third index: (lo, hi) -/
def abounds (len cap : Nat) (lo hi : Option AV) : Option (Nat × Nat) :=
  match (match hi with | some (.i _ n) => asNat n | none => some len | _ => none), (match lo with | some (.i _ n) => asNat n | none => some 0 | _ => none) with
  | some h, some l => if l ≤ h ∧ h ≤ cap then some (l, h) else none
  | _, _ => none

def aslice (H : AH) (t : TypeId) (x : AV) (lo hi mx : Option AV) : Option AV :=
  match mx with
  | some m => (match P.underlying t, x, lo, hi, m with      -- s[:0:0]
    | some (.slice e), .sl .., none, some (.i _ 0), .i _ 0 => (match szT P e with | some _ => some .esl | none => none)
    | some (.slice e), .isl .., none, some (.i _ 0), .i _ 0 => (match szT P e with | some _ => some .esl | none => none)
    | some (.slice e), .nils, none, some (.i _ 0), .i _ 0 => (match szT P e with | some _ => some .esl | none => none)
    | some (.slice e), .esl, none, some (.i _ 0), .i _ 0 => (match szT P e with | some _ => some .esl | none => none)
    | _, _, _, _, _ => none)
  | none => match P.underlying t, x with
    | some .string, .str s => (match abounds s.length s.length lo hi with
      | some (l, h) => some (.str ((s.drop l).take (h - l)))
      | none => none)
    | some (.slice e), .sl id off len st => (match abounds len len lo hi, szT P e with
      | some (l, h), some st' => if st = st' then some (.sl id (off + l * st) (h - l) st) else none
      | _, _ => none)
    | some (.slice e), .isl cs len => (match abounds len len lo hi, szT P e with
      | some (l, h), some st => some (.isl ((cs.drop (l * st)).take ((h - l) * st)) (h - l))
      | _, _ => none)
    | some (.slice e), .nils => (match abounds 0 0 lo hi, szT P e with | some (_, _), some _ => some .nils | _, _ => none)
    | some (.slice e), .esl => (match abounds 0 0 lo hi, szT P e with | some (_, _), some _ => some .esl | _, _ => none)
    | some (.array n e), .ptr id off => (match abounds n n lo hi, szT P e with
      | some (l, h), some st => (match H.get id with
        | some (.cells _ cs _ _) => if off + n * st ≤ cs.length then some (.sl id (off + l * st) (h - l) st) else none
        | _ => none)
      | _, _ => none)
    | _, _ => none

/-- maps -/
def afind (kt : TypeId) (k : AV) : List (AV × AV × Nat) → Nat → Option (Option (Nat × AV × Nat))
  | [], _ => some none
  | (k', x, born) :: es, i => match aeq P 100 kt k k' with
    | some true => some (some (i, x, born))
    | some false => afind kt k es (i + 1)
    | none => none

def plainT (t : TypeId) : Bool := match P.underlying t with | some .bool | some (.int _) | some .string => true | _ => false
/-- may the key be looked up -/
def keyFits (kt : TypeId) (k : AV) : Bool :=
  match P.underlying kt, k with
  | some .bool, _ | some (.int _), _ | some .string, _ => true
  | some (.struct fs), .agg cs => fs.toList.all fun f => f.name == "_" || ((loadFrom P f.type cs f.offset).isSome && plainT P f.type)
  | _, _ => false

/-- the very same plain value -/
def aSame : Nat → AV → AV → Bool
  | _, .b a, .b b => a == b
  | _, .i j a, .i k b => j == k && a == b
  | _, .str a, .str b => a == b
  | n + 1, .agg a, .agg b => a.length == b.length && (a.zip b).all fun p => aSame n p.1 p.2
  | _, _, _ => false

def alookup (H : AH) (t : TypeId) (x k : AV) (ok : Bool) : Option AV :=
  match P.underlying t with
  | some (.map kt e) => if keyFits P kt k then (match zeroV P e, (match x with
      | .nilm => some []
      | .mp id => (match H.get id with | some (.map es _) => some es | _ => none)
      | _ => none) with
    | some z, some es => (match afind P kt k es 0 with
      | some (some (_, v, _)) => some (if ok then .tup [v, .b true] else v)
      | some none => some (if ok then .tup [z, .b false] else z)
      | none => none)
    | _, _ => none) else none
  | _ => none

def modAt (es : List (AV × AV × Nat)) (i : Nat) (k x : AV) : List (AV × AV × Nat) :=
  match es, i with
  | [], _ => []
  | (_, _, n) :: es, 0 => (k, x, n) :: es
  | e :: es, i + 1 => e :: modAt es i k x

def sameKey (es : List (AV × AV × Nat)) (i : Nat) (k : AV) : Bool := match es[i]? with | some (k', _, _) => aSame 9 k' k | none => false

def aupdate (H : AH) (t : TypeId) (m k x : AV) : Option AH :=
  match P.underlying t, m with
  | some (.map kt _), .mp id => if keyFits P kt k then (match H.get id with
    | some (.map es clock) => (match afind P kt k es 0 with
      | some (some (i, _, _)) => if sameKey es i k then some (H.put id (.map (modAt es i k x) clock)) else none
      | some none => some (H.put id (.map (es ++ [(k, x, clock)]) (clock + 1)))
      | none => none)
    | _ => none) else none
  | _, _ => none

def aentry (H : AH) (t : TypeId) (m k : AV) : Option (AV × AH) :=
  match P.underlying t, m with
  | some (.map kt e), .mp id => if keyFits P kt k then (match H.get id, zeroV P e with
    | some (.map es clock), some z => (match afind P kt k es 0 with
      | some (some (i, v, born)) => if sameKey es i k then some (.tup [v, .i .i64 born], H.put id (.map (modAt es i k v) clock)) else none
      | some none => some (.tup [z, .i .i64 clock], H.put id (.map (es ++ [(k, z, clock)]) (clock + 1)))
      | none => none)
    | _, _ => none) else none
  | _, _ => none

def storeBorn (es : List (AV × AV × Nat)) (born : Int) (x : AV) : Option (List (AV × AV × Nat)) :=
  match es with
  | [] => none
  | (k, y, n) :: es => if (n : Int) == born then some ((k, x, n) :: es) else match storeBorn es born x with | some es => some ((k, y, n) :: es) | none => none

def aentryStore (H : AH) (m s x : AV) : Option AH :=
  match m, s with
  | .mp id, .i _ born => (match H.get id with
    | some (.map es clock) => (match storeBorn es born x with | some es => some (H.put id (.map es clock)) | none => none)
    | _ => none)
  | _, _ => none

/-- conversions -/
def aconvert (H : AH) (src dst : TypeId) (x : AV) : Option (AV × AH) :=
  match P.underlying src, P.underlying dst, x with
  | some _, some (.int k), .i _ n => some (.i k (aWrap k n), H)
  | some _, some .string, .i _ n => some (.str (Utf8.encode n).data.toList, H)
  | some _, some .string, .str s => some (.str s, H)
  | some .string, some (.slice e), .str s => (match P.underlying e with
    | some (.int .u8) => if s.length < 2 ^ 47 then some (.sl H.nxt 0 s.length 1, H.new (.cells e (s.map fun b => .i .u8 b.toNat) 0 false)) else none
    | _ => none)
  | some (.slice e), some .string, x => (match P.underlying e, x with
    | some (.int .u8), .nils => some (.str [], H)
    | some (.int .u8), .esl => some (.str [], H)
    | some (.int .u8), .sl id off len 1 => (match H.get id with
      | some (.cells _ cs _ _) => if off + len ≤ cs.length then (match bytesOf ((cs.drop off).take len) with | some s => some (.str s, H) | none => none) else none
      | _ => none)
    | _, _ => none)
  | some (.pointer t), some .unsafePointer, .ptr id off => (match H.get id, szT P t with
    | some (.cells _ cs _ _), some (_ + 1) => if off < cs.length then some (.ptr id off, H) else none
    | _, _ => none)
  | some .unsafePointer, some (.pointer u), .ptr id off => (match H.get id, szT P u with
    | some (.cells t cs _ true), some (_ + 1) => if liesAt P P.depth t (cs.length / P.cellsOf t) off u 1 = true then some (.ptr id off, H) else none
    | _, _ => none)
  | _, _, _ => none
where
  bytesOf : List AV → Option (List UInt8)
    | [] => some []
    | .i .u8 n :: r => (match bytesOf r with | some s => some (UInt8.ofNat n.toNat :: s) | none => none)
    | _ => none

def atypeAssert (x : AV) (asserted : TypeId) (ok : Bool) : Option AV :=
  match P.underlying asserted, x with
  | some (.interface want), .ifc t v => (match P.info? t with
    | some i => (match Instr.missingMethod want i.methods with
      | none => some (if ok then .tup [.ifc t v, .b true] else .ifc t v)
      | some _ => if ok then (match zeroV P asserted with | some z => some (.tup [z, .b false]) | none => none) else none)
    | none => none)
  | some (.interface _), .nili => if ok then (match zeroV P asserted with | some z => some (.tup [z, .b false]) | none => none) else none
  | some _, .ifc t v => if t = asserted then some (if ok then .tup [v, .b true] else v) else if ok then (match zeroV P asserted with | some z => some (.tup [z, .b false]) | none => none) else none
  | some _, .nili => if ok then (match zeroV P asserted with | some z => some (.tup [z, .b false]) | none => none) else none
  | _, _ => none

/-- the first n elements' cells of what is appended or copied -/
def firstCells (H : AH) (st : Nat) : AV → Nat → Option (List AV)
  | .nils, 0 => some []
  | .esl, 0 => some []
  | .sl id off len st', n => if st = st' ∧ n ≤ len then (match H.get id with
    | some (.cells _ cs _ _) => if off + n * st ≤ cs.length then some ((cs.drop off).take (n * st)) else none
    | _ => none) else none
  | .isl cs len, n => if n ≤ len ∧ n * st ≤ cs.length then some (cs.take (n * st)) else none
  | .str s, n => if n ≤ s.length ∧ st = 1 then some ((s.take n).map fun b => .i .u8 b.toNat) else none
  | _, _ => none

def alen : AV → Option Nat
  | .str s => some s.length
  | .nils | .esl => some 0
  | .sl _ _ len _ => some len
  | .isl _ len => some len
  | _ => none

def slStr : TypeDesc → Bool
  | .string | .slice _ => true
  | _ => false

def aappend (H : AH) (ts : List TypeId) (s x : AV) : Option (AV × AH) :=
  match ts with
  | [t, tx] => (match P.underlying t, P.underlying tx with
    | some (.slice e), some (.int _) => (match szT P e, zeroT P e, P.info? e, s, x with
      | some st, some z, some inf, .nils, .i .i64 xn => (match asNat xn with
        | some n => if 0 < st ∧ z.length = st ∧ (2 * n + 1024) * inf.bytes ≤ 2 ^ 48 ∧ n ≤ 2 ^ 30 ∧ 0 < n then
            some (.sl H.nxt 0 n st, H.new (.cells e (repCells z n) 0 true)) else none
        | none => none)
      | _, _, _, _, _ => none)
    | some (.slice e), some d => if slStr d = false then none else (match szT P e, zeroT P e, P.info? e, alen s, alen x with
      | some st, some z, some inf, some sl, some n =>
        if 0 < st ∧ z.length = st ∧ (2 * (sl + n) + 1024) * inf.bytes ≤ 2 ^ 48 ∧ sl + n ≤ 2 ^ 48 then
          (match firstCells H st s sl, firstCells H st x n with
          | some old, some new => if new.all AV.one then (match s with
            | .nils | .esl => if n = 0 then some (s, H) else some (.sl H.nxt 0 (sl + n) st, H.new (.cells e (old ++ new) 0 true))
            | .sl id off _ _ => (match H.get id with
              | some (.cells t' _ frz cl) => if frz ≤ off + sl * st ∧ t' = e then some (.sl H.nxt 0 (sl + n) st, (H.kill id).new (.cells e (old ++ new) (frz - off) (cl && off == 0))) else none
              | _ => none)
            | _ => none) else none
          | _, _ => none)
        else none
      | _, _, _, _, _ => none)
    | _, _ => none)
  | _ => none

def acopy (H : AH) (ts : List TypeId) (d x : AV) : Option (AV × AH) :=
  match ts, d, alen d, alen x with
  | t :: _, .sl id off _ st', some dl, some n => (match P.underlying t with
    | some (.slice e) => (match szT P e with
      | some st => let m := min n dl
        (match firstCells H st x m, H.get id with
        | some new, some (.cells t' cs frz cl) => if st = st' ∧ off + new.length ≤ cs.length ∧ frz ≤ off ∧ new.all AV.one then some (.i .i64 m, H.put id (.cells t' (setMany cs off new) frz cl)) else none
        | _, _ => none)
      | none => none)
    | _ => none)
  | _, _, _, _ => none

def amin : AV → List AV → Option AV
  | x, [] => some x
  | .i k x, .i _ y :: r => amin (.i k (if y < x then y else x)) r
  | _, _ => none
def amax : AV → List AV → Option AV
  | x, [] => some x
  | .i k x, .i _ y :: r => amax (.i k (if y > x then y else x)) r
  | _, _ => none

def alenB (H : AH) (t : TypeId) (x : AV) : Option AV :=
  match P.underlying t, x with
  | some .string, .str s => some (.i .i64 s.length)
  | some (.array n _), _ => some (.i .i64 n)
  | some (.pointer a), _ => (match P.underlying a with | some (.array n _) => some (.i .i64 n) | _ => none)
  | some (.slice _), x => (match alen x with | some n => (match x with | .str _ => none | _ => some (.i .i64 n)) | none => none)
  | some (.map _ _), .nilm => some (.i .i64 0)
  | some (.map _ _), .mp id => (match H.get id with | some (.map es _) => some (.i .i64 es.length) | _ => none)
  | _, _ => none

def abuiltin (H : AH) (b : Builtin) (ts : List TypeId) (_ty : TypeId) (args : List AV) : Option (AV × AH) :=
  match b, ts, args with
  | .len, t :: _, [x] => (match alenB P H t x with | some a => some (a, H) | none => none)
  | .cap, t :: _, [.nils] => (match P.underlying t with | some (.slice _) => some (.i .i64 0, H) | _ => none)
  | .append, ts, [s, x] => aappend P H ts s x
  | .copy, ts, [d, x] => acopy P H ts d x
  | .min, _, x :: r => (match amin x r with | some a => some (a, H) | none => none)
  | .max, _, x :: r => (match amax x r with | some a => some (a, H) | none => none)
  | .unsafeSliceData, _, [.nils] => some (.nilp, H)
  | .unsafeSliceData, _, [.sl id off (_ + 1) (_ + 1)] => some (.ptr id off, H)
  | .unsafeString, [_, _], [.nilp, .i .i64 0] => some (.str [], H)
  | .unsafeString, [_, _], [.ptr _ _, .i .i64 0] => some (.str [], H)
  | .unsafeString, pt :: _, [.ptr id off, .i _ n] => (match P.underlying pt, H.get id, asNat n with
    | some (.pointer u), some (.cells t cs frz true), some n => if u = t ∧ szT P t = some 1 ∧ off = 0 ∧ n < 2 ^ 62 ∧ 0 < n ∧ n ≤ cs.length then
        (match aconvert.bytesOf ((cs.drop off).take n) with | some s => some (.str s, H.put id (.cells t cs (max frz (off + n)) true)) | none => none) else none
    | _, _, _ => none)
  | _, _, _ => none
end
end Go.Am

namespace Go.Am

inductive ADef where
  | fn (f : FuncId) (args : List AV)
  | coll (id : Nat)

inductive AN where
  | val (a : AV)
  | skip
  | enter (f : FuncId) (args : List AV)
  | known (f : FuncId) (a : AV)
  | round (id : Nat) (args : List AV)
  | defer (d : ADef)
  | recover
  | panic (a : AV)

/-- what is known of a function whole: it is taken as one operation -/
inductive XK where
  | noEscape | indexByte | count | makeNoZero | index | rep
  deriving DecidableEq

structure Cx where
  P : Program
  G : Nat → Option (List AV)
  X : FuncId → Option XK
  ints : List (Nat × IntKind)

def indexOf (s sub : List UInt8) : Nat → Nat → Int
  | 0, _ => -1
  | f + 1, i => if (s.take sub.length == sub) then i else match s with | [] => -1 | _ :: s => indexOf s sub f (i + 1)

/-- a text, so many times -/
def repS (s : List UInt8) : Nat → List UInt8
  | 0 => []
  | n + 1 => s ++ repS s n

def indexByteOf (c : UInt8) : List UInt8 → Nat → Int
  | [], _ => -1
  | b :: s, i => if b == c then i else indexByteOf c s (i + 1)

def ax (P : Program) (H : AH) (k : XK) (ts : Array TypeId) (args : List AV) : Option (AV × AH) :=
  match k, args with
  | .noEscape, [x] => some (x, H)
  | .indexByte, [.str s, .i .u8 c] => some (.i .i64 (indexByteOf (UInt8.ofNat c.toNat) s 0), H)
  | .count, [.str s, .i .u8 c] => some (.i .i64 ((s.filter (· == UInt8.ofNat c.toNat)).length : Nat), H)
  | .makeNoZero, [.i .i64 n] => (match ts[0]? with
    | some t => (match P.underlying t, asNat n with
      | some (.slice e), some m => if m ≤ 2 ^ 40 then some (.sl H.nxt 0 m 1, H.new (.cells e (List.replicate m .any) 0 true)) else none
      | _, _ => none)
    | none => none)
  | .rep, [.str s, .i .i64 c] => (match asNat c with
    | some n => if s.length * n ≤ 2 ^ 40 ∧ n ≤ 2 ^ 40 then some (.str (repS s n), H) else none
    | none => none)
  | .index, [.str s, .str sub] => if s.length < 2 ^ 31 ∧ sub.length < 2 ^ 31 then some (.i .i64 (indexOf s sub (s.length + 1) 0), H) else none
  | _, _ => none

inductive AI where
  | code (c : Code)
  | inBlock (id : Nat)
  | inLoop (body : Code)
  | inScope (body : Code)
  | inRegion (ops : Array Oper) (todo : List Nat)
  | inRF (id : Nat)
  | endRF (id : Nat)
  | beginRound

def aexitTo (id : Nat) : List AI → Option (List AI)
  | .inBlock id' :: k => if id' == id then some k else aexitTo id k
  | _ :: k => aexitTo id k
  | [] => none
def agotoIn (l : Nat) : List AI → Option (List AI)
  | .inScope body :: k => (match findLabel body l with
    | some rest => some (.code rest :: .inScope body :: k)
    | none => agotoIn l k)
  | _ :: k => agotoIn l k
  | [] => none

inductive AMode where
  | run | ret
  | pan (chain : List (AV × Bool))

structure AF where
  fn : FuncId
  tmps : PT AV
  n : Nat
  todo : List AI
  defers : List ADef
  mode : AMode
  kind : CallKind
  roundOf : Option Nat

structure AM where
  st : List AF
  H : AH

def tget (T : PT AV) (t : Nat) : AV := match PT.get TD T t with | some a => a | none => .any
def tset (T : PT AV) (n d : Nat) (a : AV) : PT AV := cond (Nat.blt d n) (PT.set TD T d (some a)) T
def tput (T : PT AV) (n : Nat) (d : Option Nat) (a : AV) : PT AV := match d with | some d => tset T n d a | none => T

def aev (C : Cx) (T : PT AV) : Operand → AV
  | .tmp t => tget T t
  | .const v => ofV 3 v
  | .global g => match C.G g with | some cs => .ip cs | none => .op (.pointer (some ⟨g, 0, none⟩))
  | .func f => .fn f [] []

def aevo (C : Cx) (T : PT AV) : Option Operand → Option AV
  | some x => some (aev C T x)
  | none => none

def argsIn : List AV → Nat → PT AV → PT AV
  | [], _, T => T
  | a :: as, i, T => argsIn as (i + 1) (PT.set TD T i (some a))

/-- what a call comes to -/
def acallFn (C : Cx) (H : AH) (f : FuncId) (args : List AV) : Option (AN × AH) :=
  match C.P.funcs[f]? with
  | none => none
  | some fn => match C.X f with
    | some k => (match ax C.P H k fn.resultTypes args with | some (a, H) => some (match fn.body with | none => .val a | some _ => .known f a, H) | none => none)
    | none => match fn.body with
      | some _ => some (.enter f args, H)
      | none => none

def amethod (C : Cx) (t : TypeId) (name : String) : Option FuncId :=
  match C.P.info? t with
  | some i => (match i.methods.find? (·.name == name) with
    | some m => if m.path.isEmpty then (match m.func, C.P.underlying t with
      | some (f, true), some (.pointer _) => some f
      | some (_, _), some (.pointer _) => none
      | some (f, false), some _ => some f
      | _, _ => none) else none
    | none => none)
  | none => none

def acall (C : Cx) (ρ : Operand → AV) (H : AH) (c : Call) (ty : TypeId) : Option (AN × AH) :=
  let args := c.args.toList.map ρ
  match c.callee with
  | .builtin .recover => some (.recover, H)
  | .builtin b => (match abuiltin C.P H b c.argTypes.toList ty args with | some (a, H) => some (.val a, H) | none => none)
  | .invoke recv name => (match ρ recv with
    | .ifc t v => (match amethod C t name with | some f => acallFn C H f (v :: args) | none => none)
    | _ => none)
  | .value f => (match ρ f with
    | .fn g first cap => acallFn C H g (first ++ args ++ cap)
    | .yld id => some (.round id args, H)
    | _ => none)

/-- does the operation only look at things? -/
def lightB : Builtin → Bool
  | .len | .cap | .min | .max => true
  | _ => false

def lightOp (C : Cx) (o : Oper) : Bool :=
  match o.op with
  | .move _ | .assign _ | .pick .. | .build .. | .load .. | .nilCheck _ | .binOp .. | .unOp .. | .makeInterface .. | .makeFunc .. | .slice .. | .fieldAddr .. | .field ..
  | .indexAddr .. | .index .. | .lookup .. | .typeAssert .. | .extract .. => true
  | .convert _ d _ => (match C.P.underlying d with | some (.int _) => true | _ => false)
  | .call c => (match c.callee with | .builtin b => lightB b | _ => false)
  | _ => false

def alightB (P : Program) (H : AH) (b : Builtin) (ts : List TypeId) (args : List AV) : Option AV :=
  match b, ts, args with
  | .len, t :: _, [x] => alenB P H t x
  | .cap, t :: _, [.nils] => (match P.underlying t with | some (.slice _) => some (.i .i64 0) | _ => none)
  | .min, _, x :: r => amin x r
  | .max, _, x :: r => amax x r
  | _, _, _ => none

/-- the value of an operation that only looks at things -/
def alight (C : Cx) (ρ : Operand → AV) (H : AH) (o : Oper) : Option AV :=
  match o.op with
  | .move x | .assign x => some (ρ x)
  | .pick c a b => (match ρ c with | .b true => some (ρ a) | .b false => some (ρ b) | _ => none)
  | .build t ps => abuild C.P t (ps.toList.map fun p => (p.1, ρ p.2))
  | .load t a => aload C.P H t (ρ a)
  | .nilCheck x => (match ρ x with
    | .ptr i o => some (.ptr i o)
    | .ip cs => some (.ip cs)
    | .fn f a b => some (.fn f a b)
    | _ => none)
  | .binOp op t x y _ => aBin C.P op t x y (ρ x) (ρ y)
  | .unOp op _ x => aUn op (ρ x)
  | .convert s d x => (match C.P.underlying s, C.P.underlying d, ρ x with
    | some _, some (.int k), .i _ n => some (.i k (aWrap k n))
    | _, _, _ => none)
  | .makeInterface t x => (match C.P.underlying t with
    | some (.interface _) | none => none
    | some _ => some (.ifc t (ρ x)))
  | .makeFunc (.func f) first cap => some (.fn f (first.toList.map ρ) (cap.toList.map ρ))
  | .slice t x lo hi mx => aslice C.P H t (ρ x) (lo.map ρ) (hi.map ρ) (mx.map ρ)
  | .fieldAddr s x f => (match C.P.underlying s with
    | some (.struct fs) => (match fieldAt? C.P fs.toList f with
      | some (off, _ + 1) => (match ρ x with
        | .ptr id o => some (.ptr id (o + off))
        | .ip cs => some (.ip (cs.drop off))
        | _ => none)
      | _ => none)
    | _ => none)
  | .field s x f => (match C.P.underlying s, ρ x with
    | some (.struct fs), .agg cs => (match fs[f]? with | some fd => loadFrom C.P fd.type cs fd.offset | none => none)
    | _, _ => none)
  | .indexAddr t x ix => (match ρ ix with | .i _ n => aindexAddr C.P H t (ρ x) n | _ => none)
  | .index t x ix => (match ρ ix with | .i _ n => aindex C.P t (ρ x) n | _ => none)
  | .lookup t x ix ok => alookup C.P H t (ρ x) (ρ ix) ok
  | .typeAssert x _ t ok => atypeAssert C.P (ρ x) t ok
  | .extract t ix => (match ρ t with | .tup vs => vs[ix]? | _ => none)
  | .call c => (match c.callee with
    | .builtin b => alightB C.P H b c.argTypes.toList (c.args.toList.map ρ)
    | _ => none)
  | _ => none

def freshOp (o : Oper) : Bool :=
  match o.op with
  | .alloc _ | .box .. | .buildSlice .. | .makeMap _ none | .makeSlice .. => true
  | _ => false
/-- the operations that lay a new block and touch no other -/
def afresh (C : Cx) (ρ : Operand → AV) (o : Oper) : Option (FK × Blk) :=
  match o.op with
  | .alloc t => (match zeroT C.P t with | some cs => some (.ptr, .cells t cs 0 true) | none => none)
  | .box t x => (match (ρ x).cells with | some cs => some (.ptr, .cells t cs 0 true) | none => none)
  | .buildSlice t n ps => abuildSlice C.P t n (ps.toList.map fun p => (p.1, ρ p.2))
  | .makeMap t none => (match C.P.underlying t with | some (.map _ _) => some (.mp, .map [] 0) | _ => none)
  | .makeSlice t l c => (match C.P.underlying t, ρ l, ρ c with
    | some (.slice e), .i .i64 ln, .i .i64 cn => (match szT C.P e, zeroT C.P e, C.P.info? e, asNat ln, asNat cn with
      | some st, some z, some inf, some ln, some cn => if ln ≤ cn ∧ inf.bytes * cn ≤ 2 ^ 48 ∧ cn ≤ 2 ^ 48 ∧ 0 < st ∧ z.length = st then
          some (.sl ln st, .cells e (repCells z cn) 0 true) else none
      | _, _, _, _, _ => none)
    | _, _, _ => none)
  | _ => none

/-- what the other operations do -/
def aheavy (C : Cx) (ρ : Operand → AV) (H : AH) (o : Oper) : Option (AN × AH) :=
  let vh (x : Option (AV × AH)) : Option (AN × AH) := match x with | some (a, H) => some (.val a, H) | none => none
  let h (x : Option AH) : Option (AN × AH) := match x with | some H => some (.skip, H) | none => none
  match o.op with
  | .alloc _ | .box .. | .buildSlice .. | .makeMap _ none | .makeSlice .. => (match afresh C ρ o with | some (k, x) => some (.val (k.mk H.nxt), H.new x) | none => none)
  | .store t a x => h (astore C.P H t (ρ a) (ρ x))
  | .convert s d x => vh (aconvert C.P H s d (ρ x))
  | .mapUpdate t m k x | .insert t m k x => h (aupdate C.P H t (ρ m) (ρ k) (ρ x))
  | .mapEntry t m k => vh (aentry C.P H t (ρ m) (ρ k))
  | .entryStore _ m s x => h (aentryStore H (ρ m) (ρ s) (ρ x))
  | .range t x => (match C.P.underlying t, ρ x with
    | some .string, .str s => some (.val (.ptr H.nxt 0), H.new (.siter s 0))
    | _, _ => none)
  | .next it true => (match ρ it with
    | .ptr id 0 => (match H.get id with
      | some (.siter s pos) => if pos < s.length then
          (let r := Utf8.decode ⟨⟨s⟩⟩ pos
           some (.val (.tup [.b true, .i .i64 pos, .i .i32 r.1]), H.put id (.siter s (pos + r.2)))) else some (.val (.tup [.b false]), H)
      | _ => none)
    | _ => none)
  | .call c => acall C ρ H c o.type
  | .defer c => (match c.callee with
    | .value f => (match ρ f with
      | .fn g first cap => some (.defer (.fn g (first ++ c.args.toList.map ρ ++ cap)), H)
      | _ => none)
    | _ => none)
  | .panic x => (match ρ x with | .ifc t a => some (.panic (.ifc t a), H) | _ => none)
  | _ => none

def aop (C : Cx) (ρ : Operand → AV) (H : AH) (o : Oper) : Option (AN × AH) :=
  cond (lightOp C o) (match alight C ρ H o with | some a => some (.val a, H) | none => none) (aheavy C ρ H o)

def ayield (ops : Array Oper) (T : PT AV) (j : Nat) : Option (Option Bool) :=
  match ops[j]? with
  | some o => (match o.dst with
    | some d => (match PT.get TD T d with | some (.b x) => some (some x) | some (.tup _) => some none | _ => none)
    | none => none)
  | none => none
/-- is the operation carried out; none: it is not known -/
def awanted (ops : Array Oper) (T : PT AV) (o : Oper) : Option Bool :=
  match o.guard with
  | none => some true
  | some (j, want) => match ayield ops T j with | some (some x) => some (x == want) | some none => some false | none => none

def undefA : AV := .tup []

/-- the frame behind an operation -/
def afin (fr : AF) (a : AV) : AF :=
  match fr.todo with
  | .inRegion ops (i :: rest) :: k => { fr with tmps := (match ops[i]? with | some o => tput fr.tmps fr.n o.dst a | none => fr.tmps), todo := .inRegion ops rest :: k }
  | .inRF id :: k => { fr with todo := .endRF id :: k }
  | .beginRound :: k => { fr with todo := k }
  | _ => fr

def aenter (C : Cx) (f : FuncId) (args : List AV) (kind : CallKind) : Option AF :=
  match C.P.funcs[f]? with
  | some fn => (match fn.body with
    | some c => if args.length ≤ fn.ntmps then some { fn := f, tmps := argsIn args 0 .lf, n := fn.ntmps, todo := [.code c], defers := [], mode := .run, kind, roundOf := none } else none
    | none => none)
  | none => none

def araise (fr : AF) (es : List (AV × Bool)) : AF :=
  match fr.mode with
  | .pan chain => { fr with mode := .pan (es ++ chain) }
  | _ => { fr with mode := .pan es }

/-- the results of a frame that returns -/
def aresults (C : Cx) (fr : AF) (H : AH) : Option AV :=
  match C.P.funcs[fr.fn]? with
  | some fn =>
    let rec go : List ResultVar → Option (List AV)
      | [] => some []
      | .tmp t :: r => (match go r with | some l => some (tget fr.tmps t :: l) | none => none)
      | .cell a t :: r => (match aload C.P H t (tget fr.tmps a), go r with | some x, some l => some (x :: l) | _, _ => none)
    (match go fn.results.toList with
    | some [a] => some a
    | some l => some (.tup l)
    | none => none)
  | none => none

/-- leaving a frame that has no deferred calls left: (frames, heap) -/
def areturn (v : AV) (fr : AF) (below : List AF) : Option (List AF) :=
  match below with
  | [] => none
  | c :: rest => match fr.kind with
    | .normal => (match c.mode with | .run => some (afin c v :: rest) | _ => none)
    | .deferred => some ((match c.mode with
        | .pan ((_, true) :: _) => { c with mode := .ret }
        | _ => c) :: rest)
    | _ => none

def around (H : AH) (id : Nat) (args : List AV) : Option AF :=
  match H.get id with
  | some (.loop l) => if l.params.size = args.length then
      some { fn := l.fn, tmps := (l.params.toList.zip args).foldl (fun T p => tset T l.n p.1 p.2) l.tmps, n := l.n, todo := [.code l.assign, .beginRound, .code l.body], defers := [], mode := .run, kind := .normal, roundOf := some id } else none
  | _ => none

/-- leaving the code of a frame -/
def aleave (fr : AF) (below : List AF) (H : AH) (jump : Option Code) : Option AM :=
  match fr.roundOf with
  | none => (match jump with
    | none | some .ret => some { st := { fr with mode := .ret } :: below, H := H }
    | _ => none)
  | some id => match H.get id with
    | some (.loop l) => (match fr.kind with
      | .normal => (match areturn (.b jump.isNone) fr below with
        | some st => some { st := st, H := H.put id (.loop { l with state := if jump.isNone then .ready else .done, pending := jump }) }
        | none => none)
      | _ => none)
    | _ => none

/-- The parts of an operation's run inside a region that draws: the value, or a panic. -/
inductive AO where
  | val (a : AV)
  | panic (chain : List (AV × Bool))

/-- the masks of the operations that come before -/
def masksGo : List Oper → List Nat → List Nat
  | [], acc => acc
  | o :: os, acc => masksGo os (acc ++ [o.after.toList.foldl (fun m e => cond (Region.binds .any e) (m ||| 2 ^ e.on ||| acc.getD e.on 0) m) 0])
def masks (ops : Array Oper) : List Nat := masksGo ops.toList []

def namesT : List Operand → Nat → Bool
  | [], _ => false
  | .tmp t :: r, d => cond (Nat.beq t d) true (namesT r d)
  | _ :: r, d => namesT r d
/-- does the operation look at the temporary -/
def looksAtT (ops : Array Oper) (o : Oper) (d : Nat) : Bool :=
  namesT o.op.operands.toList d || (match o.guard with
   | some (g, _) => (match ops[g]? with | some q => q.dst == some d | none => false)
   | none => false)
def apartD (ops : Array Oper) (x y : Oper) : Bool := match x.dst with | some d => !looksAtT ops y d && y.dst != some d | none => true
/-- any two operations touch other temporaries, or the one waits for the other -/
def apartOK (ops : Array Oper) : Bool :=
  let ms := masks ops
  (List.range ops.size).all fun i => (List.range ops.size).all fun j => Nat.beq i j || (ms.getD j 0).testBit i || (ms.getD i 0).testBit j ||
    (match ops[i]?, ops[j]? with | some x, some y => apartD ops x y | _, _ => false)

def readyA (ops : Array Oper) (listed : List Nat) : List Nat :=
  (List.range ops.size).filter fun i => !listed.contains i && (match ops[i]? with | some o => o.after.all fun e => !Region.binds .any e || listed.contains e.on | none => false)

mutual
def avEq : AV → AV → Bool
  | .b a, .b b => a == b
  | .i j a, .i k b => j == k && a == b
  | .str a, .str b => a == b
  | .nilp, .nilp | .nils, .nils | .nilm, .nilm | .nilf, .nilf | .nili, .nili | .esl, .esl => true
  | .ptr a b, .ptr c d => Nat.beq a c && Nat.beq b d
  | .sl a b c d, .sl e f g h => Nat.beq a e && Nat.beq b f && Nat.beq c g && Nat.beq d h
  | .ip a, .ip b => avEqs a b
  | .isl a n, .isl b m => avEqs a b && Nat.beq n m
  | .mp a, .mp b => Nat.beq a b
  | .fn f a b, .fn g c d => Nat.beq f g && avEqs a c && avEqs b d
  | .yld a, .yld b => Nat.beq a b
  | .ifc t a, .ifc u b => Nat.beq t u && avEq a b
  | .agg a, .agg b => avEqs a b
  | .tup a, .tup b => avEqs a b
  | _, _ => false
def avEqs : List AV → List AV → Bool
  | [], [] => true
  | a :: as, b :: bs => avEq a b && avEqs as bs
  | _, _ => false
end

def blkHere (_x : Blk) (H : AH) (id : Nat) : Bool := match H.get id with | some _ => true | none => false
def idOf : AV → Nat
  | .ptr id _ => id
  | .mp id => id
  | .sl id _ _ _ => id
  | _ => 0
def blkEq : Blk → Blk → Bool
  | .cells t cs frz cl, .cells t' cs' frz' cl' => Nat.beq t t' && avEqs cs cs' && Nat.beq frz frz' && cl == cl'
  | .map [] c, .map [] c' => Nat.beq c c'
  | _, _ => false

/-- an operation that has been taken early is as it was -/
def recheck (C : Cx) (ops : Array Oper) (T : PT AV) (H : AH) (i : Nat) : Bool :=
  match ops[i]? with
  | some o => (match awanted ops T o with
    | some false => true
    | some true => cond (lightOp C o) (match alight C (aev C T) H o, o.dst with
      | some a, some d => avEq a (tget T d)
      | some _, none => true
      | none, _ => false) (match afresh C (aev C T) o, o.dst with
      | some (k, x), some d => avEq (k.mk (idOf (tget T d))) (tget T d) && (match H.get (idOf (tget T d)) with | some y => blkEq x y | none => false)
      | _, _ => false)
    | none => false)
  | none => false

section
variable (C : Cx) (sub : AM → Option AM)

/-- recover in a frame: the value, and the frames below -/
def arecover (fr : AF) (below : List AF) : Option (AV × List AF) :=
  match fr.roundOf, fr.kind, below with
  | none, .deferred, c :: rest => (match c.mode with
    | .pan ((v, false) :: older) => some (v, { c with mode := .pan ((v, true) :: older) } :: rest)
    | _ => some (.nili, below))
  | none, .normal, _ => some (.nili, below)
  | _, _, _ => none

/-- one operation of a region that draws, its calls run to their end -/
def runOp (fr : AF) (T : PT AV) (B : List AF) (H : AH) (o : Oper) : Option (AO × List AF × AH) :=
  match aop C (aev C T) H o with
    | some (.val a, H) => some (.val a, B, H)
    | some (.skip, H) => some (.val undefA, B, H)
    | some (.known _ a, H) => some (.val a, B, H)
    | some (.enter f args, H) => (match aenter C f args .normal with
      | some g => (match sub { st := [g], H } with
        | some { st := [g], H } => (match g.mode, g.defers, g.kind, C.P.funcs[g.fn]? with
          | .ret, [], .normal, _ => (match aresults C g H with | some a => some (.val a, B, H) | none => none)
          | .pan chain, [], _, some _ => some (.panic chain, B, H)
          | _, _, _, _ => none)
        | _ => none)
      | none => none)
    | some (.panic a, H) => some (.panic [(a, false)], B, H)
    | some (.recover, H) => (match arecover fr B with | some (v, B) => some (.val v, B, H) | none => none)
    | _ => none

end

def AM.final (M : AM) : Bool :=
  match M.st with
  | [fr] => (match fr.mode, fr.defers with
    | .run, _ => false
    | _, [] => fr.roundOf.isNone
    | _, _ => false)
  | _ => false

/-- may the operation be taken early: it is quiet, and nobody who may still be waiting (nor itself) touches what it writes -/
def early (C : Cx) (ops : Array Oper) (hs : List Nat) (T : PT AV) (i : Nat) : Bool :=
  match ops[i]? with
  | some o => (lightOp C o || freshOp o || (match awanted ops T o with | some false => true | _ => false)) &&
      (match o.dst with
      | some d => !looksAtT ops o d && (hs.all fun j => match ops[j]? with | some y => apartD ops o y | none => false)
      | none => true)
  | none => false

/-- two stores, at the end of a region, in whatever order -/
def twoStores (C : Cx) (ms : List Nat) (ops : Array Oper) (listed hs : List Nat) (T : PT AV) (H : AH) (j1 j2 : Nat) : Option AH :=
  match ops[j1]?, ops[j2]? with
  | some o1, some o2 => (match o1.op, o2.op with
    | .store t1 a1 x1, .store t2 a2 x2 =>
      let a := aev C T a1
      let b := aev C T a2
      cond (o1.dst.isNone && o2.dst.isNone && o1.guard.isNone && o2.guard.isNone && ((List.range ops.size).all fun i => Nat.beq i j1 || Nat.beq i j2 || listed.contains i))
        (match astore C.P H t1 a (aev C T x1), astore C.P H t2 b (aev C T x2) with
        | some H1, some H2 => (match astore C.P H1 t2 b (aev C T x2), astore C.P H2 t1 a (aev C T x1) with
          | some H12, some H21 => (match H12.get (idOf a), H21.get (idOf a), H12.get (idOf b), H21.get (idOf b) with
            | some u, some u', some v, some v' =>
              let h1 := hs.filter fun i => !(ms.getD j1 0).testBit i
              let h2 := hs.filter fun i => !(ms.getD j2 0).testBit i
              cond (blkEq u u' && blkEq v v' && h1.all (recheck C ops T H1) && h2.all (recheck C ops T H2) && (h1.filter fun i => !(ms.getD j2 0).testBit i).all (recheck C ops T H12)) (some H12) none
            | _, _, _, _ => none)
          | _, _ => none)
        | _, _ => none) none
    | _, _ => none)
  | _, _ => none

/-- a region that draws: what only looks at things is taken first, and is looked at again behind each other operation; of the others one alone may be ready -/
def drawRun (C : Cx) (sub : AM → Option AM) (fr : AF) (ms : List Nat) (ops : Array Oper) : Nat → List Nat → List Nat → PT AV → List AF → AH → Option (AO × PT AV × List AF × AH)
  | 0, _, _, _, _, _ => none
  | fuel + 1, listed, hs, T, B, H =>
    let r := readyA ops listed
    match r.find? (early C ops hs T) with
    | some i => (match ops[i]? with
      | some o => (match awanted ops T o with
        | some false => drawRun C sub fr ms ops fuel (i :: listed) (i :: hs) (tput T fr.n o.dst undefA) B H
        | some true => cond (lightOp C o) (match alight C (aev C T) H o with
          | some a => drawRun C sub fr ms ops fuel (i :: listed) (i :: hs) (tput T fr.n o.dst a) B H
          | none => none) (match afresh C (aev C T) o, o.dst with
          | some (k, x), some d => cond (blkHere x (H.new x) H.nxt && (H.get H.nxt).isNone && (PT.get TD (tset T fr.n d (k.mk H.nxt)) d).isSome) (drawRun C sub fr ms ops fuel (i :: listed) (i :: hs) (tset T fr.n d (k.mk H.nxt)) B (H.new x)) none
          | _, _ => none)
        | none => none)
      | none => none)
    | none => (match r with
      | [] => some (.val undefA, T, B, H)
      | [j] => (match ops[j]? with
        | some o => (match awanted ops T o with
          | some true => (match runOp C sub fr T B H o with
            | some (.val a, B, H) =>
              let T := tput T fr.n o.dst a
              let m := ms.getD j 0
              let hs := hs.filter fun i => !m.testBit i
              cond (hs.all (recheck C ops T H)) (drawRun C sub fr ms ops fuel (j :: listed) hs T B H) none
            | some (.panic c, B, H) => some (.panic c, T, B, H)
            | none => none)
          | _ => none)
        | none => none)
      | [j1, j2] => (match twoStores C ms ops listed hs T H j1 j2 with
        | some H => some (.val undefA, T, B, H)
        | none => none)
      | _ => none)

/-- behind an operation -/
def aoper (C : Cx) (fr : AF) (below : List AF) (H : AH) : AN → Option AM
  | .val a => some { st := afin fr a :: below, H := H }
  | .skip => some { st := afin fr undefA :: below, H := H }
  | .known _ a => some { st := afin fr a :: below, H := H }
  | .enter f args => (match aenter C f args .normal with
    | some g => some { st := g :: fr :: below, H := H }
    | none => none)
  | .round id args => (match around H id args with
    | some g => some { st := g :: fr :: below, H := H }
    | none => none)
  | .defer d => (match fr.roundOf with
    | none => some { st := afin { fr with defers := d :: fr.defers } undefA :: below, H := H }
    | some _ => none)
  | .recover => (match arecover fr below with
    | some (v, below) => some { st := afin fr v :: below, H := H }
    | none => none)
  | .panic a => some { st := araise fr [(a, false)] :: below, H := H }

/-- a statement 'for range f' -/
def arangeF (C : Cx) (fr : AF) (below : List AF) (H : AH) (f : Operand) (ps : Array Tmp) (asg body : Code) (k : List AI) : Option AM :=
  match fr.roundOf with
  | none => (match aev C fr.tmps f with
    | .fn g first cap =>
      let H1 := H.new .dfr
      let H2 := H1.new (.loop { state := .ready, pending := none, fn := fr.fn, tmps := fr.tmps, n := fr.n, params := ps, assign := asg, body, defers := H.nxt })
      (match C.X g, aenter C g (first ++ [.yld H1.nxt] ++ cap) .normal with
      | none, some g => some { st := g :: { fr with todo := .inRF H1.nxt :: k, defers := .coll H.nxt :: fr.defers } :: below, H := H2 }
      | _, _ => none)
    | _ => none)
  | some id => (match H.get id, aev C fr.tmps f with
    | some (.loop l), .fn g first cap =>
      let H2 := H.new (.loop { state := .ready, pending := none, fn := fr.fn, tmps := fr.tmps, n := fr.n, params := ps, assign := asg, body, defers := l.defers })
      (match C.X g, aenter C g (first ++ [.yld H.nxt] ++ cap) .normal with
      | none, some g => some { st := g :: { fr with todo := .inRF H.nxt :: k } :: below, H := H2 }
      | _, _ => none)
    | _, _ => none)

/-- a frame that runs -/
def acode (C : Cx) (sub : AM → Option AM) (fr : AF) (below : List AF) (H : AH) : Option AM :=
  let to (todo : List AI) : Option AM := some { st := { fr with todo } :: below, H }
  match fr.todo with
  | [] => aleave fr below H none
  | .code .ret :: _ => aleave fr below H (some .ret)
  | .code .skip :: k | .code (.label _) :: k | .inBlock _ :: k | .inScope _ :: k => to k
  | .code (.seq a b) :: k => to (.code a :: .code b :: k)
  | .code (.cond c a b) :: k => (match aev C fr.tmps c with
    | .b true => to (.code a :: k)
    | .b false => to (.code b :: k)
    | _ => none)
  | .code (.block id b) :: k => to (.code b :: .inBlock id :: k)
  | .code (.loop b) :: k | .inLoop b :: k => to (.code b :: .inLoop b :: k)
  | .code (.scope b) :: k => to (.code b :: .inScope b :: k)
  | .code (.exit id) :: k => (match aexitTo id k with | some k => to k | none => aleave fr below H (some (.exit id)))
  | .code (.goto l) :: k => (match agotoIn l k with | some k => to k | none => aleave fr below H (some (.goto l)))
  | .code (.rangeFunc f ps asg body) :: k => arangeF C fr below H f ps asg body k
  | .code (.refuse _) :: _ => none
  | .inRF _ :: _ => none
  | .beginRound :: k => (match fr.roundOf with
    | some id => (match H.get id with
      | some (.loop l) => (match l.state with
        | .ready => some { st := { fr with todo := k } :: below, H := H.put id (.loop { l with state := .busy }) }
        | _ => none)
      | _ => none)
    | none => none)
  | .endRF id :: k => (match H.get id with
    | some (.loop l) => (match l.state with
      | .busy => none
      | _ => some { st := { fr with todo := (match l.pending with | some c => .code c :: k | none => k) } :: below, H := H.put id (.loop { l with state := .exhausted }) })
    | _ => none)
  | .code (.region _ ops false) :: k => to (.inRegion ops (List.range ops.size) :: k)
  | .code (.region _ ops true) :: k => cond (apartOK ops) (match drawRun C sub fr (masks ops) ops (ops.size + 1) [] [] fr.tmps below H with
    | some (.val _, T, below, H) => some { st := { fr with tmps := T, todo := k } :: below, H }
    | some (.panic chain, _, below, H) => some { st := { fr with mode := .pan chain, tmps := .lf } :: below, H }
    | none => none) none
  | .inRegion _ [] :: k => to k
  | .inRegion ops (i :: rest) :: k => (match ops[i]? with
    | none => to (.inRegion ops rest :: k)
    | some o => match awanted ops fr.tmps o with
      | none => none
      | some false => some { st := afin fr undefA :: below, H }
      | some true => match aop C (aev C fr.tmps) H o with
        | some (n, H) => aoper C fr below H n
        | none => none)

/-- a frame that is being left -/
def aunwind (C : Cx) (fr : AF) (below : List AF) (H : AH) : Option AM :=
  match fr.defers with
  | .coll id :: ds => (match H.get id with
    | some .dfr => some { st := { fr with defers := ds } :: below, H := H.kill id }
    | _ => none)
  | .fn f args :: ds => (match C.X f, aenter C f args .deferred with
    | none, some g => some { st := g :: { fr with defers := ds } :: below, H }
    | _, _ => none)
  | [] => match fr.mode with
    | .pan chain => (match below, C.P.funcs[fr.fn]? with
      | c :: rest, some _ => some { st := araise c chain :: rest, H }
      | _, _ => none)
    | _ => (match fr.roundOf with
      | none => (match aresults C fr H with
        | some v => (match areturn v fr below with | some st => some { st, H } | none => none)
        | none => none)
      | some _ => none)

def astep (C : Cx) (sub : AM → Option AM) (M : AM) : Option AM :=
  match M.st with
  | [] => none
  | fr :: below => match fr.mode with
    | .run => acode C sub fr below M.H
    | _ => aunwind C fr below M.H

def arun (C : Cx) : Nat → AM → Option AM
  | 0, _ => none
  | n + 1, M => cond M.final (some M) (match astep C (arun C n) M with | some M => arun C n M | none => none)

end Go.Am
