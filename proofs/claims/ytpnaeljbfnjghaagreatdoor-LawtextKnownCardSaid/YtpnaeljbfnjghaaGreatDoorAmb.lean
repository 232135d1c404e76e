/-
  Each operation of the abstract machine is right. (No condition.)
-/
import Derived.Test.YtpnaeljbfnjghaaGreatDoorAma
import Derived.Laws.Small
import Derived.Laws.StructEq
import Derived.Laws.Concat
import Derived.Laws.Slices
import Derived.Laws.Tables
import Derived.Laws.Cover1
import Derived.Laws.Append
import Derived.Laws.BytesString
import Derived.Lib.UnsafeStr
namespace Go.Am

theorem VR_str {E : Env} (s : ByteArray) : VR E (.str s.data.toList) (.string s) := by simp [VR]

theorem ofV_sound {E : Env} : ∀ (n : Nat) (v : Value), VR E (ofV n v) v := by
  intro n
  induction n with
  | zero =>
    intro v
    unfold ofV
    split <;> simp_all [VR]
  | succ n ih =>
    intro v
    unfold ofV
    split
    case h_9 => rename_i k t v e; cases e; simp only [VR]; exact ⟨_, rfl, ih _⟩
    case h_10 =>
      rename_i k cs e
      cases e
      simp only [VR]
      refine ⟨cs, rfl, VRs.mk (by simp) (fun j a v ha hv => ?_)⟩
      simp only [List.getElem?_map] at ha
      rw [hv] at ha
      simp only [Option.map_some, Option.some.injEq] at ha
      subst ha
      exact ih v
    all_goals simp_all [VR]

theorem Value.cells_one {v : Value} (h : v.oneCell' = true) : v.cells = #[v] := by
  cases v <;> simp_all [Value.oneCell', Value.cells]

theorem cells_sound {E : Env} {a : AV} {v : Value} {cs : List AV} (h : VR E a v) (hc : a.cells = some cs) : VRs E cs v.cells.toList := by
  have one : ∀ a : AV, a.one = true → a.cells = some [a] → VR E a v → VRs E [a] v.cells.toList := by
    intro a ho _ h
    rw [Value.cells_one (h.one ho)]
    simp only [VRs]
    exact ⟨v, [], rfl, h, rfl⟩
  cases a
  case agg xs =>
    simp only [AV.cells, Option.some.injEq] at hc
    subst hc
    simp only [VR] at h
    obtain ⟨x, rfl, h⟩ := h
    exact h
  case tup | any => simp [AV.cells] at hc
  case op x =>
    simp only [AV.cells] at hc
    split at hc
    · simp only [Option.some.injEq] at hc; subst hc
      exact one _ (by simpa [AV.one] using ‹_›) (by simp [AV.cells, *]) h
    · cases hc
  all_goals (simp only [AV.cells, Option.some.injEq] at hc; subst hc; exact one _ rfl rfl h)

/-- every related value of one cell is one cell -/
theorem VRs.all_one {E : Env} {as : List AV} {vs : List Value} (h : VRs E as vs) (ho : as.all AV.one = true) : ∀ v ∈ vs, v.oneCell' = true := by
  intro v hv
  obtain ⟨j, hj, rfl⟩ := List.mem_iff_getElem.1 hv
  have hl := h.length
  obtain ⟨v', h1, h2⟩ := h.get j (as[j]'(by omega)) (List.getElem?_eq_getElem _)
  rw [List.getElem?_eq_getElem hj] at h1
  cases h1
  exact h2.one (List.all_eq_true.1 ho _ (List.getElem_mem _))

section
variable {P : Program} {E : Env} {H : AH} {w : World}

theorem szT_sound {t : TypeId} {n : Nat} (h : szT P t = some n) (w : World) : (sizeOf t).run P w = .ok n w := by
  unfold szT at h
  split at h
  · rename_i i hi
    cases h
    simp [sizeOf, typeInfo, hi]
  · cases h
theorem szT_info {t : TypeId} {n : Nat} (h : szT P t = some n) : ∃ i, P.info? t = some i ∧ i.size = n := by
  unfold szT at h
  split at h
  · rename_i i hi; cases h; exact ⟨i, hi, rfl⟩
  · cases h
theorem szT_cellsOf {t : TypeId} {n : Nat} (h : szT P t = some n) : P.cellsOf t = n := by
  obtain ⟨i, hi, rfl⟩ := szT_info h
  simp [Program.cellsOf, hi]
theorem und_sound {t : TypeId} {d : TypeDesc} (h : P.underlying t = some d) (w : World) : (underlying t).run P w = .ok d w := by
  simp [underlying, h]
theorem aggT_sound {t : TypeId} {x : Bool} (h : aggT P t = some x) (w : World) : (isAgg t).run P w = .ok x w := by
  unfold aggT at h
  split at h <;> simp only [Option.some.injEq, reduceCtorEq] at h
  · rename_i fs hu; subst h; simp [isAgg, und_sound hu]
  · rename_i n e hu; subst h; simp [isAgg, und_sound hu]
  · rename_i d h1 h2 hu
    subst h
    simp only [isAgg, Sem.run_bind, und_sound hu, Result.andThen_ok]
    cases d <;> first | rfl | (exact absurd rfl (h1 _)) | (exact absurd rfl (h2 _ _))
theorem zeroV_sound {t : TypeId} {a : AV} (h : zeroV P t = some a) (w : World) : ∃ v, (zeroValue t).run P w = .ok v w ∧ VR E a v ∧ ∃ i, P.info? t = some i ∧ i.zero = some v := by
  unfold zeroV at h
  split at h
  · rename_i i hi
    split at h
    · rename_i v hv
      cases h
      exact ⟨v, by simp [zeroValue, typeInfo, hi, hv], ofV_sound 3 v, i, hi, hv⟩
    · cases h
  · cases h
theorem zeroT_sound {t : TypeId} {cs : List AV} (h : zeroT P t = some cs) (w : World) : ∃ v, (zeroValue t).run P w = .ok v w ∧ VRs E cs v.cells.toList ∧ ∃ i, P.info? t = some i ∧ i.zero = some v := by
  unfold zeroT at h
  split at h
  · rename_i a ha
    obtain ⟨v, h1, h2, h3⟩ := zeroV_sound (E := E) ha w
    exact ⟨v, h1, cells_sound h2 h, h3⟩
  · cases h

theorem addr_add (b o n : Nat) : Addr.add ⟨b, o, none⟩ n = ⟨b, o + n, none⟩ := Addr.add_lit b o n

/-- a variable is read out of cells that are known -/
theorem loadVar_sound {t : TypeId} {cs : List AV} {off : Nat} {a : AV} (h : loadFrom P t cs off = some a) {b o : Nat}
    (hc : ∀ j x, cs[j]? = some x → ∃ v, w.cell? ⟨b, o + j, none⟩ = some v ∧ VR E x v) :
    ∃ v, (loadVar t ⟨b, o + off, none⟩).run P w = .ok v w ∧ VR E a v := by
  unfold loadFrom at h
  split at h
  · rename_i hag
    split at h
    · rename_i n hn
      split at h
      · rename_i hle
        cases h
        -- the concrete cells
        have hex : ∃ vs : List Value, vs.length = n ∧ VRs E ((cs.drop off).take n) vs ∧ ∀ j v, vs[j]? = some v → w.cell? ⟨b, o + off + j, none⟩ = some v := by
          have : ∀ (m : Nat), m ≤ n → ∃ vs : List Value, vs.length = m ∧ VRs E ((cs.drop off).take m) vs ∧ ∀ j v, vs[j]? = some v → w.cell? ⟨b, o + off + j, none⟩ = some v := by
            intro m
            induction m with
            | zero => exact fun _ => ⟨[], rfl, by simp [VRs], fun j v hv => by simp at hv⟩
            | succ m ih =>
              intro hm
              obtain ⟨vs, h1, h2, h3⟩ := ih (by omega)
              obtain ⟨v, k1, k2⟩ := hc (off + m) (cs[off + m]'(by omega)) (List.getElem?_eq_getElem _)
              refine ⟨vs ++ [v], by simp [h1], ?_, ?_⟩
              · have : (cs.drop off).take (m + 1) = (cs.drop off).take m ++ [cs[off + m]'(by omega)] := by
                  rw [List.take_succ_eq_append_getElem (by simp; omega)]
                  simp
                rw [this]
                exact h2.append (by simp only [VRs]; exact ⟨v, [], rfl, k2, rfl⟩)
              · intro j x hx
                by_cases hj : j < vs.length
                · rw [List.getElem?_append_left hj] at hx
                  exact h3 j x hx
                · rw [List.getElem?_append_right (by omega)] at hx
                  have hj' : j - vs.length = 0 := by
                    rcases Nat.eq_zero_or_pos (j - vs.length) with h | h
                    · exact h
                    · rw [List.getElem?_eq_none (by simp; omega)] at hx; cases hx
                  rw [hj'] at hx
                  simp only [List.getElem?_cons_zero, Option.some.injEq] at hx
                  subst hx
                  rw [show o + off + j = o + (off + m) by omega]
                  exact k1
          exact this n (Nat.le_refl _)
        obtain ⟨vs, h1, h2, h3⟩ := hex
        refine ⟨.agg vs.toArray, ?_, ?_⟩
        · simp only [loadVar, Sem.run_bind, aggT_sound hag, Result.andThen_ok, if_true, szT_sound hn]
          have := run_loadCells_list (P := P) w ⟨b, o + off, none⟩ vs (fun j v hv => by rw [addr_add]; exact h3 j v hv)
          rw [← h1, this]
          rfl
        · simp only [VR]; exact ⟨_, rfl, h2⟩
      · cases h
    · cases h
  · rename_i hag
    obtain ⟨v, k1, k2⟩ := hc off a h
    refine ⟨v, ?_, k2⟩
    simp only [loadVar, Sem.run_bind, aggT_sound hag, Result.andThen_ok, Bool.false_eq_true, if_false, run_load]
    rw [show o + off = o + off from rfl, k1]
  · cases h

theorem aload_sound {t : TypeId} {x a : AV} {v : Value} (h : aload P H t x = some a) (hr : HR E H w) (hv : VR E x v) :
    ∃ u, (Instr.loadAt t v).run P w = .ok u w ∧ VR E a u := by
  unfold aload at h
  split at h
  · rename_i id off
    split at h
    · rename_i t' cs frz cl hg
      simp only [VR] at hv
      obtain ⟨b, s, n, hi, rfl⟩ := hv
      obtain ⟨u, h1, h2⟩ := loadVar_sound (w := w) (E := E) h (b := b) (o := s) (fun j x hx => hr.cell hg hi hx)
      exact ⟨u, by simp [Instr.loadAt, Instr.sureAddr, h1], h2⟩
    · cases h
  · rename_i cs
    simp only [VR] at hv
    obtain ⟨b, o, vs, rfl, h1, h2⟩ := hv
    obtain ⟨u, k1, k2⟩ := loadVar_sound (w := w) (E := E) h (b := b) (o := o) (fun j x hx => by
      obtain ⟨v, q1, q2⟩ := h1.get j x hx
      exact ⟨v, hr.imm _ _ _ (h2 j v q1), q2⟩)
    exact ⟨u, by simpa [Instr.loadAt, Instr.sureAddr] using k1, k2⟩
  · cases h

/-- what an operation with a value has to give -/
def Gives (P : Program) (E : Env) (w : World) (s : Sem Value) (a : AV) (H' : AH) : Prop :=
  ∃ E' v w', s.run P w = .ok v w' ∧ HR E' H' w' ∧ Ext E w E' w' ∧ VR E' a v
theorem Gives.pure {s : Sem Value} {a : AV} (hr : HR E H w) (h : ∃ v, s.run P w = .ok v w ∧ VR E a v) : Gives P E w s a H :=
  let ⟨v, h1, h2⟩ := h; ⟨E, v, w, h1, hr, .refl E w, h2⟩

theorem storeVar_sound {t : TypeId} {id off : Nat} {x : AV} {v : Value} {t' : TypeId} {cs xs : List AV} {frz n b s m : Nat} {cl : Bool} (hr : HR E H w) (hg : H.get id = some (.cells t' cs frz cl))
    (hi : E.ι id = some (b, s, m)) (hxs : x.cells = some xs) (hn : szT P t = some n) (hl : xs.length = n) (hle : off + n ≤ cs.length) (hf : frz ≤ off) (ho : xs.all AV.one = true) (hv : VR E x v) :
    ∃ w', (storeVar t ⟨b, s + off, none⟩ v).run P w = .ok () w' ∧ HR E (H.put id (.cells t' (setMany cs off xs) frz cl)) w' ∧ Ext E w E w' := by
  have hc := cells_sound hv hxs
  have hlen := hc.length
  have hrm := (hr.blk hg hi).room (s + off) xs.length (by omega) (by obtain ⟨c, fz, _, _, k3, _⟩ := hr.blk hg hi; omega)
  obtain ⟨r1, r2⟩ := hr.store (off := off) hg hi hc (by omega)
  refine ⟨_, ?_, r1, r2⟩
  have hsz : v.cells.size = n := by rw [← hl, hlen]; simp
  simp only [storeVar, Sem.run_bind, szT_sound hn, Result.andThen_ok, hsz, ne_eq, not_true, if_false]
  exact run_storeCells' P (by rw [← hlen]; exact hrm.1) (by rw [← hlen]; exact hrm.2) (hc.all_one ho)

theorem astore_sound {t : TypeId} {p x : AV} {pv v : Value} {H' : AH} (h : astore P H t p x = some H') (hr : HR E H w) (hp : VR E p pv) (hv : VR E x v) :
    ∃ w', (Instr.storeAt t pv v).run P w = .ok () w' ∧ HR E H' w' ∧ Ext E w E w' := by
  unfold astore at h
  split at h
  · rename_i id off
    split at h
    · rename_i t' cs frz cl xs n hg hxs hn
      split at h
      · rename_i hcond
        obtain ⟨h1, h2, h3, h4⟩ := hcond
        cases h
        simp only [VR] at hp
        obtain ⟨b, s, m, hi, rfl⟩ := hp
        obtain ⟨w', k1, k2, k3⟩ := storeVar_sound hr hg hi hxs hn h1 h2 h3 h4 hv
        exact ⟨w', by simpa [Instr.storeAt, Instr.sureAddr] using k1, k2, k3⟩
      · cases h
    · cases h
  · cases h

/-- A NEW ROW of cells. -/
theorem newRow_sound {t : TypeId} {cs : List AV} {vs : List Value} (hr : HR E H w) (hc : VRs E cs vs) {m : Nat} (extra : List Value) (hm : vs.length + extra.length = m) :
    HR (E.add H.nxt (w.heap.size, 0, m)) (H.new (.cells t cs 0 true)) (w.alloc (.cells (vs ++ extra).toArray t)) ∧ Ext E w (E.add H.nxt (w.heap.size, 0, m)) (w.alloc (.cells (vs ++ extra).toArray t)) := by
  refine hr.alloc _ _ m ⟨(vs ++ extra).toArray, (0, 0), heap_alloc_new, by simp; omega, by rw [hc.length]; omega, fun _ => ⟨rfl, .inl rfl⟩, fun k _ _ hk => by omega, fun j a ha => ?_⟩
  obtain ⟨v, h1, h2⟩ := hc.get j a ha
  refine ⟨v, ?_, VR.mono (Env.le_add hr.fresh) _ _ h2⟩
  have hj := (List.getElem?_eq_some_iff.1 h1).1
  rw [Nat.zero_add, List.getElem?_toArray, List.getElem?_append_left hj]
  exact h1

/-- what lays a new block and touches no other -/
def Fresh (P : Program) (E : Env) (w : World) (s : Sem Value) (k : FK) (x : Blk) : Prop :=
  ∃ obj n v, s.run P w = .ok v (w.alloc obj) ∧ ∀ id, E.ι id = none → BR (E.add id (w.heap.size, 0, n)) (w.alloc obj) w.heap.size 0 n x ∧ VR (E.add id (w.heap.size, 0, n)) (k.mk id) v

theorem newRow_br {t : TypeId} {cs : List AV} {vs : List Value} (hc : VRs E cs vs) {m : Nat} (extra : List Value) (hm : vs.length + extra.length = m) (id : Nat) (hid : E.ι id = none) :
    BR (E.add id (w.heap.size, 0, m)) (w.alloc (.cells (vs ++ extra).toArray t)) w.heap.size 0 m (.cells t cs 0 true) := by
  refine ⟨(vs ++ extra).toArray, (0, 0), heap_alloc_new, by simp; omega, by rw [hc.length]; omega, fun _ => ⟨rfl, .inl rfl⟩, fun k _ _ hk => by omega, fun j a ha => ?_⟩
  obtain ⟨v, h1, h2⟩ := hc.get j a ha
  refine ⟨v, ?_, VR.mono (Env.le_add hid) _ _ h2⟩
  have hj := (List.getElem?_eq_some_iff.1 h1).1
  rw [Nat.zero_add, List.getElem?_toArray, List.getElem?_append_left hj]
  exact h1

theorem newRow_br' {t : TypeId} {cs : List AV} {arr : Array Value} (hc : VRs E cs arr.toList) {m : Nat} (hm : arr.size = m) (id : Nat) (hid : E.ι id = none) :
    BR (E.add id (w.heap.size, 0, m)) (w.alloc (.cells arr t)) w.heap.size 0 m (.cells t cs 0 true) := by
  have := newRow_br (w := w) (t := t) hc [] (m := m) (by simpa using hm) id hid
  simpa only [List.append_nil, Array.toArray_toList] using this

theorem alloc_sound {t : TypeId} {cs : List AV} (h : zeroT P t = some cs) : Fresh P E w (Instr.alloc t true (.tuple #[])) .ptr (.cells t cs 0 true) := by
  obtain ⟨v, h1, h2, _⟩ := zeroT_sound (E := E) h w
  refine ⟨_, v.cells.size, .pointer (some ⟨w.heap.size, 0, none⟩), ?_, fun id hid => ⟨newRow_br' h2 rfl id hid, ?_⟩⟩
  · simp [Instr.alloc, h1, newVar, newRow]
  · simp only [VR, FK.mk]; exact ⟨_, _, _, Env.add_same, rfl⟩

theorem box_sound {t : TypeId} {x : AV} {v : Value} {cs : List AV} (h : x.cells = some cs) (hv : VR E x v) : Fresh P E w (Instr.box t v) .ptr (.cells t cs 0 true) := by
  have h2 := cells_sound hv h
  refine ⟨_, v.cells.size, .pointer (some ⟨w.heap.size, 0, none⟩), ?_, fun id hid => ⟨newRow_br' h2 rfl id hid, ?_⟩⟩
  · simp [Instr.box, newVar, newRow]
  · simp only [VR, FK.mk]; exact ⟨_, _, _, Env.add_same, rfl⟩
end
end Go.Am

namespace Go.Am

/-- what laying a row of values into an array does -/
theorem foldl_set (off : Nat) : ∀ (vs : List Value) (k : Nat) (c : Array Value), off + k + vs.length ≤ c.size →
    let r := (vs.zipIdx k).foldl (fun (cs : Array Value) p => cs.setIfInBounds (off + p.2) p.1) c
    r.size = c.size ∧ (∀ j v, vs[j]? = some v → r[off + k + j]? = some v) ∧ ∀ i, (i < off + k ∨ off + k + vs.length ≤ i) → r[i]? = c[i]?
  | [], k, c, _ => ⟨rfl, fun j v h => by simp at h, fun _ _ => rfl⟩
  | v :: vs, k, c, h => by
    simp only [List.length_cons] at h
    obtain ⟨h1, h2, h3⟩ := foldl_set off vs (k + 1) (c.setIfInBounds (off + k) v) (by simp; omega)
    simp only [List.zipIdx_cons, List.foldl_cons]
    refine ⟨by rw [h1]; simp, ?_, ?_⟩
    · intro j x hx
      cases j with
      | zero =>
        simp only [List.getElem?_cons_zero, Option.some.injEq] at hx
        subst hx
        rw [h3 (off + k + 0) (.inl (by omega))]
        simp only [Nat.add_zero, Array.getElem?_setIfInBounds_self]
        rw [if_pos (by omega)]
      | succ j =>
        simp only [List.getElem?_cons_succ] at hx
        have := h2 j x hx
        rwa [show off + (k + 1) + j = off + k + (j + 1) by omega] at this
    · intro i hi
      simp only [List.length_cons] at hi
      rw [h3 i (by omega), Array.getElem?_setIfInBounds, if_neg (by omega)]

theorem VRs_setMany {E : Env} {cs xs : List AV} {off : Nat} {vs us : List Value} (h : VRs E cs vs) (k : VRs E xs us) (_hle : off + xs.length ≤ cs.length) :
    VRs E (setMany cs off xs) (vs.take off ++ us ++ vs.drop (off + us.length)) := by
  rw [← k.length]
  exact ((h.take off).append k).append (h.drop _)

theorem fill_one {E : Env} {cs xs : List AV} {off : Nat} {c : Array Value} {v : Value} {x : AV} (h : VRs E cs c.toList) (hx : x.cells = some xs) (hv : VR E x v) (hle : off + xs.length ≤ cs.length) :
    VRs E (setMany cs off xs) (v.cells.zipIdx.foldl (fun cs (c, j) => cs.setIfInBounds (off + j) c) c).toList := by
  have k := cells_sound hv hx
  have hl := k.length
  have hc := h.length
  simp only [Array.length_toList] at hl hc
  obtain ⟨h1, h2, h3⟩ := foldl_set off v.cells.toList 0 c (by simp; omega)
  have he : v.cells.zipIdx.foldl (fun cs (c, j) => cs.setIfInBounds (off + j) c) c = (v.cells.toList.zipIdx 0).foldl (fun (cs : Array Value) p => cs.setIfInBounds (off + p.2) p.1) c := by
    rw [← Array.foldl_toList, Array.toList_zipIdx]
  rw [he]
  generalize (v.cells.toList.zipIdx 0).foldl (fun (cs : Array Value) p => cs.setIfInBounds (off + p.2) p.1) c = r at h1 h2 h3
  refine VRs.mk (by simp [setMany]; omega) (fun j a u ha hu => ?_)
  rw [Array.getElem?_toList] at hu
  simp only [setMany, List.append_assoc] at ha
  by_cases hj : j < off
  · rw [List.getElem?_append_left (by simp; omega)] at ha
    simp only [List.getElem?_take, hj, if_true] at ha
    rw [h3 j (by omega)] at hu
    obtain ⟨u', k1, k2⟩ := h.get j a ha
    rw [Array.getElem?_toList, hu] at k1
    cases k1; exact k2
  · rw [List.getElem?_append_right (by simp; omega)] at ha
    simp only [List.length_take, show min off cs.length = off by omega] at ha
    by_cases hj2 : j - off < xs.length
    · rw [List.getElem?_append_left hj2] at ha
      obtain ⟨u', k1, k2⟩ := k.get _ a ha
      have := h2 _ _ k1
      rw [show off + 0 + (j - off) = j by omega, hu] at this
      cases this; exact k2
    · rw [List.getElem?_append_right (by omega)] at ha
      simp only [List.getElem?_drop] at ha
      rw [show off + xs.length + (j - off - xs.length) = j by omega] at ha
      rw [h3 j (by simp; omega)] at hu
      obtain ⟨u', k1, k2⟩ := h.get j a ha
      rw [Array.getElem?_toList, hu] at k1
      cases k1; exact k2

/-- parts related: the same places, related values -/
def PRs (E : Env) : List (Nat × AV) → List (Nat × Value) → Prop
  | [], ps => ps = []
  | (i, a) :: as, ps => ∃ v rest, ps = (i, v) :: rest ∧ VR E a v ∧ PRs E as rest

theorem fill_sound {E : Env} {place : Nat → Option (Nat × Nat)} : ∀ (ps : List (Nat × AV)) (qs : List (Nat × Value)) (cs out : List AV) (c : Array Value),
    afill place cs ps = some out → PRs E ps qs → VRs E cs c.toList → ∃ c', Instr.fill place c qs = some c' ∧ VRs E out c'.toList
  | [], qs, cs, out, c, h, hp, hc => by
    simp only [afill, Option.some.injEq] at h
    simp only [PRs] at hp
    subst h hp
    exact ⟨c, rfl, hc⟩
  | (i, a) :: ps, qs, cs, out, c, h, hp, hc => by
    simp only [PRs] at hp
    obtain ⟨v, rest, rfl, hv, hp⟩ := hp
    simp only [afill] at h
    split at h
    · rename_i off size xs hpl hxs
      split at h
      · rename_i hcond
        obtain ⟨e1, e2⟩ := hcond
        have hsz : v.cells.size = size := by rw [← e1, (cells_sound hv hxs).length]; simp
        have hlen : c.size = cs.length := by rw [hc.length]; simp
        obtain ⟨c', k1, k2⟩ := fill_sound ps rest _ out _ h hp (fill_one hc hxs hv (by omega))
        refine ⟨c', ?_, k2⟩
        simp only [Instr.fill, hpl]
        rw [if_neg (by simp only [hsz, hlen, ne_eq, not_true, decide_false, Bool.false_or, decide_eq_true_eq]; simp; omega)]
        exact k1
      · cases h
    · cases h

section
variable {P : Program} {E : Env} {H : AH} {w : World}

theorem fieldAt_sound : ∀ (fs : List Field) , sizesOk P fs = true → ∃ places, fs.mapM (fun f => (P.info? f.type).map fun i => (f.offset, i.size)) = some places ∧ ∀ i, places[i]? = fieldAt? P fs i
  | [], _ => ⟨[], rfl, fun i => by simp [fieldAt?]⟩
  | f :: fs, h => by
    simp only [sizesOk, List.all_cons, Bool.and_eq_true] at h
    obtain ⟨h1, h2⟩ := h
    obtain ⟨places, k1, k2⟩ := fieldAt_sound fs h2
    obtain ⟨n, hn⟩ := Option.isSome_iff_exists.1 h1
    obtain ⟨i, hi, rfl⟩ := szT_info hn
    refine ⟨(f.offset, i.size) :: places, ?_, ?_⟩
    · simp only [List.mapM_cons, hi, Option.map_some, Option.bind_eq_bind, Option.bind_some, k1, Option.pure_def]
    · intro j
      cases j with
      | zero => simp [fieldAt?, hn]
      | succ j => simp [fieldAt?, k2]

theorem build_sound {t : TypeId} {parts : List (Nat × AV)} {a : AV} (h : abuild P t parts = some a) (qs : Array (Nat × Value)) (hp : PRs E parts qs.toList) :
    ∃ v, (Instr.build t qs).run P w = .ok v w ∧ VR E a v := by
  unfold abuild at h
  split at h
  · rename_i z fs hz hu
    split at h
    · rename_i hs
      split at h
      · rename_i cs hf
        cases h
        obtain ⟨zv, _, hzv, i, hi, hiz⟩ := zeroT_sound (E := E) hz w
        obtain ⟨places, k1, k2⟩ := fieldAt_sound fs.toList hs
        have hpl : (fun x => places.toArray[x]?) = fieldAt? P fs.toList := by funext i; simp [k2]
        obtain ⟨c', q1, q2⟩ := fill_sound _ _ _ _ zv.cells hf hp hzv
        refine ⟨.agg c', run_build w t qs c' ?_, by simp only [VR]; exact ⟨_, rfl, q2⟩⟩
        simp only [Program.built, hi, hu, hiz, k1, hpl]
        exact q1
      · cases h
    · cases h
  · rename_i z k e hz hu
    split at h
    · rename_i n hn
      split at h
      · rename_i cs hf
        cases h
        obtain ⟨zv, _, hzv, i, hi, hiz⟩ := zeroT_sound (E := E) hz w
        obtain ⟨ie, hie, rfl⟩ := szT_info hn
        obtain ⟨c', q1, q2⟩ := fill_sound _ _ _ _ zv.cells hf hp hzv
        refine ⟨.agg c', run_build w t qs c' ?_, by simp only [VR]; exact ⟨_, rfl, q2⟩⟩
        simp only [Program.built, hi, hu, hiz, hie]
        exact q1
      · cases h
    · cases h
  · cases h

theorem repCells_get (z : List AV) (hz : 0 < z.length) : ∀ (n j : Nat), j < n * z.length → (repCells z n)[j]? = z[j % z.length]?
  | 0, j, h => by omega
  | n + 1, j, h => by
    simp only [repCells]
    by_cases hj : j < z.length
    · rw [List.getElem?_append_left hj, Nat.mod_eq_of_lt hj]
    · rw [List.getElem?_append_right (by omega), repCells_get z hz n (j - z.length) (by rw [Nat.add_mul] at h; omega)]
      congr 1
      rw [Nat.mod_eq_sub_mod (by omega : z.length ≤ j)]
theorem repCells_length (z : List AV) : ∀ n : Nat, (repCells z n).length = n * z.length
  | 0 => by simp [repCells]
  | n + 1 => by simp [repCells, repCells_length z n, Nat.add_mul]; omega

theorem rep_sound {z : List AV} {zv : Value} (hz : VRs E z zv.cells.toList) (n st : Nat) (hst : z.length = st) (hpos : 0 < st) :
    VRs E (repCells z n) ((Array.range (n * st)).map (zv.cells[· % zv.cells.size]!)).toList := by
  have hl := hz.length
  simp only [Array.length_toList] at hl
  refine VRs.mk (by rw [repCells_length]; simp [hst]) (fun j a v ha hv => ?_)
  have hj : j < n * z.length := by
    have := (List.getElem?_eq_some_iff.1 ha).1
    rwa [repCells_length] at this
  rw [repCells_get z (by omega) n j hj] at ha
  obtain ⟨u, k1, k2⟩ := hz.get _ _ ha
  have hm : j % z.length < zv.cells.size := by rw [← hl]; exact Nat.mod_lt _ (by omega)
  rw [Array.getElem?_toList] at hv k1
  simp only [Array.getElem?_map, Array.getElem?_range] at hv
  rw [if_pos (by rw [← hst]; exact hj)] at hv
  simp only [Option.map_some, Option.some.injEq] at hv
  rw [← hl, getElem!_pos zv.cells _ hm] at hv
  rw [Array.getElem?_eq_getElem hm] at k1
  simp only [Option.some.injEq] at k1
  rw [← hv, k1]
  exact k2

theorem buildSlice_sound {t : TypeId} {len : Nat} {parts : List (Nat × AV)} {k : FK} {x : Blk} (h : abuildSlice P t len parts = some (k, x)) (qs : Array (Nat × Value)) (hp : PRs E parts qs.toList) :
    Fresh P E w (Instr.buildSlice t len qs) k x := by
  unfold abuildSlice at h
  split at h
  · rename_i e hu
    split at h
    · rename_i n z hn hz
      split at h
      · rename_i hcond
        obtain ⟨c1, c2, c3⟩ := hcond
        split at h
        · rename_i cs hf
          simp only [Option.some.injEq, Prod.mk.injEq] at h
          obtain ⟨rfl, rfl⟩ := h
          obtain ⟨zv, hzr, hzv, i, hi, hiz⟩ := zeroT_sound (E := E) hz w
          have hrep := rep_sound hzv len n c3 c2
          obtain ⟨c', q1, q2⟩ := fill_sound _ _ _ _ _ hf hp hrep
          have hcl : cs.length = len * n := by
            have hfl : ∀ (place : Nat → Option (Nat × Nat)) (ps : List (Nat × AV)) (cs out : List AV), afill place cs ps = some out → out.length = cs.length := by
              intro place ps
              induction ps with
              | nil => intro cs out h; simp only [afill, Option.some.injEq] at h; rw [h]
              | cons p ps ih =>
                intro cs out h
                obtain ⟨i, v⟩ := p
                simp only [afill] at h
                split at h
                · split at h
                  · rename_i hc
                    rw [ih _ _ h]
                    simp [setMany]; omega
                  · cases h
                · cases h
            rw [hfl _ _ _ _ hf, repCells_length, c3]
          have hsz : c'.size = len * n := by have := q2.length; rw [hcl, Array.length_toList] at this; exact this.symm
          refine ⟨_, len * n, .slice (some ⟨w.heap.size, 0, none⟩) len len, ?_, fun id hid => ⟨newRow_br' q2 hsz id hid, ?_⟩⟩
          · simp only [Instr.buildSlice, Sem.run_bind, und_sound hu, Result.andThen_ok, szT_sound hn]
            rw [if_neg (by omega)]
            by_cases h0 : len * n = 0
            · have hl0 : len = 0 := by
                rcases Nat.mul_eq_zero.1 h0 with h | h
                · exact h
                · omega
              subst hl0
              have hz0 : ((Array.range 0).map (zv.cells[· % zv.cells.size]!)) = #[] := by simp
              simp only [Nat.zero_mul] at q1
              rw [hz0] at q1
              simp only [Nat.zero_mul, if_true, Sem.run_bind, Sem.run_pure, Result.andThen_ok]
              have hz1 : ((Array.range 0).map ((#[] : Array Value)[· % (#[] : Array Value).size]!)) = #[] := by simp
              rw [hz1, q1]
              simp [newRow]
            · simp [h0, hzr, q1, newRow]
          · simp only [VR, FK.mk]
            exact ⟨_, _, _, _, _, Env.add_same, rfl, Nat.le_refl _, by omega, fun _ => rfl⟩
        · cases h
      · cases h
    · cases h
  · cases h
end
end Go.Am

namespace Go.Am
section
variable {P : Program} {E : Env} {H : AH} {w : World}

theorem aWrap_eq (k : IntKind) (n : Int) : aWrap k n = k.wrap n := by
  unfold aWrap
  split
  · rename_i m
    cases h : Nat.ble m 127
    · rfl
    · have hm : m ≤ 127 := Nat.le_of_ble_eq_true h
      simp only [cond_true]
      cases k <;> simp [IntKind.wrap, IntKind.bits, IntKind.signed] <;> omega
  · rfl

theorem aBits_sound {op : BinOp} {k : IntKind} {x y n : Int} (h : aBits op k x y = some n) (w : World) : (Op.intBits op k x y).run P w = .ok (.int k n) w := by
  unfold aBits at h
  cases op <;> simp only [Option.some.injEq, reduceCtorEq] at h <;> subst h <;> rfl

theorem aInt_sound {op : BinOp} {t : TypeId} {k : IntKind} {x y : Int} {a : AV} (h : aInt op k x y = some a) (w : World) :
    ∃ v, (binOp op t (.int k x) (.int k y)).run P w = .ok v w ∧ VR E a v := by
  unfold aInt at h
  cases op <;> simp only [Option.some.injEq] at h
  case shl | shr => cases h
  case quo =>
    split at h
    · cases h
    · rename_i hy; cases h
      exact ⟨.int k (k.wrap (x.tdiv y)), by simp [binOp, Op.intDiv, hy], by simp [VR, aWrap_eq]⟩
  case rem =>
    split at h
    · cases h
    · rename_i hy; cases h
      exact ⟨.int k (x.tmod y), by simp [binOp, Op.intDiv, hy], by simp [VR]⟩
  case and | or | xor | andNot =>
    split at h
    · rename_i n hn
      cases h
      exact ⟨_, by simp only [binOp, ne_eq, not_true, if_false]; exact aBits_sound hn w, by simp [VR]⟩
    · cases h
  all_goals (subst h; exact ⟨_, by simp [binOp, Op.intArith, Op.intCmp]; rfl, by simp [VR, aWrap_eq]⟩)

theorem aShift_sound {op : BinOp} {t : TypeId} {k k' : IntKind} {x y : Int} {a : AV} (ho : op = .shl ∨ op = .shr) (h : aShift op k x y = some a) (w : World) :
    ∃ v, (binOp op t (.int k x) (.int k' y)).run P w = .ok v w ∧ VR E a v := by
  unfold aShift at h
  split at h
  · cases h
  · rename_i hy
    rcases ho with rfl | rfl <;> simp only [Option.some.injEq] at h <;> subst h <;> exact ⟨_, by simp [binOp, Op.shift, hy]; rfl, by simp [VR]⟩

theorem part_sound {t : TypeId} {cs : List AV} {off : Nat} {a : AV} (h : loadFrom P t cs off = some a) {c : Array Value} (hc : VRs E cs c.toList) (w : World) :
    ∃ v, (part t c off).run P w = .ok v w ∧ VR E a v := by
  unfold loadFrom at h
  split at h
  · rename_i hag
    split at h
    · rename_i n hn
      split at h
      · rename_i hle
        cases h
        refine ⟨.agg (c.extract off (off + n)), by simp [part, aggT_sound hag, szT_sound hn], ?_⟩
        simp only [VR]
        refine ⟨_, rfl, ?_⟩
        have : (c.extract off (off + n)).toList = (c.toList.drop off).take n := by
          simp [List.extract_eq_take_drop]
        rw [this]
        exact (hc.drop off).take n
      · cases h
    · cases h
  · rename_i hag
    obtain ⟨v, h1, h2⟩ := hc.get off a h
    rw [Array.getElem?_toList] at h1
    exact ⟨v, by simp [part, aggT_sound hag, h1], h2⟩
  · cases h

theorem aeqFields_sound {d : Nat} {eq : TypeId → AV → AV → Option Bool} (ih : ∀ (t : TypeId) (x y : AV) (u v : Value) (b : Bool), eq t x y = some b → VR E x u → VR E y v → (Op.equalIn d t u v).run P w = .ok b w)
    {xs ys : List AV} {us vs : Array Value} (hx : VRs E xs us.toList) (hy : VRs E ys vs.toList) : ∀ (fs : List Field) (b : Bool), aeqFields P eq xs ys fs = some b → (Op.eqFields d us vs fs).run P w = .ok b w
  | [], b, h => by simp only [aeqFields, Option.some.injEq] at h; subst h; rfl
  | f :: fs, b, h => by
    simp only [aeqFields] at h
    by_cases hn : f.name ≠ "_"
    · simp only [hn, if_true, ne_eq, not_false_eq_true] at h
      split at h
      · rename_i a b' ha hb
        obtain ⟨u, k1, k2⟩ := part_sound ha hx w
        obtain ⟨v, q1, q2⟩ := part_sound hb hy w
        cases he : eq f.type a b' with
        | none => rw [he] at h; cases h
        | some r =>
          have hr := ih _ _ _ _ _ _ he k2 q2
          rw [he] at h
          cases r
          · simp only [Option.some.injEq] at h
            subst h
            simp [Op.eqFields, hn, k1, q1, hr]
          · simp only at h
            have := aeqFields_sound ih hx hy fs b h
            simp [Op.eqFields, hn, k1, q1, hr, this]
      · cases h
    · simp only [hn, if_false] at h
      have := aeqFields_sound ih hx hy fs b h
      simp only [Op.eqFields, hn, if_false]
      exact this

theorem aeq_sound : ∀ (d : Nat) (t : TypeId) (x y : AV) (u v : Value) (b : Bool), aeq P d t x y = some b → VR E x u → VR E y v → (Op.equalIn d t u v).run P w = .ok b w := by
  intro d
  induction d with
  | zero => intro t x y u v b h; simp [aeq] at h
  | succ d ih =>
    intro t x y u v b h hx hy
    simp only [aeq] at h
    split at h
    · rename_i hu
      simp only [Option.some.injEq] at h; subst h
      simp only [VR] at hx hy; subst hx hy
      exact run_equalIn_bool w d t _ _ hu
    · rename_i hu
      split at h
      · rename_i hk
        simp only [Option.some.injEq] at h; subst h
        simp only [VR] at hx hy; subst hx hy hk
        exact run_equalIn_int w d t _ _ _ _ hu
      · cases h
    · rename_i hu
      simp only [Option.some.injEq] at h; subst h
      simp only [VR] at hx hy; subst hx hy
      rw [run_equalIn_string w d t _ _ hu, ByteArray.toList_mk, ByteArray.toList_mk]
    · rename_i fs xs ys hu
      split at h
      · cases h
      · rename_i hp
        simp only [VR] at hx hy
        obtain ⟨us, rfl, hx⟩ := hx
        obtain ⟨vs, rfl, hy⟩ := hy
        have hfo : P.fieldsOf t = fs := by simp [Program.fieldsOf, hu]
        rw [run_equalIn_struct w d t us vs (by rw [hfo]; exact hu) (by simpa using hp), hfo]
        exact aeqFields_sound (ih) hx hy _ _ h
    · cases h

theorem equal_ptr_d (d0 : Nat) {t e : TypeId} (hu : P.underlying t = some (.pointer e)) (a : Option Addr) : (Op.equalIn (d0 + 1) t (.pointer none) (.pointer a)).run P w = .ok a.isNone w := by
  simp [Op.equalIn, und_sound hu]
theorem equal_ptr {t e : TypeId} (hu : P.underlying t = some (.pointer e)) (a : Option Addr) : (Op.equal t (.pointer none) (.pointer a)).run P w = .ok a.isNone w := equal_ptr_d 9999 hu a
theorem equal_ptrN_d (d0 : Nat) {t e : TypeId} (hu : P.underlying t = some (.pointer e)) (a : Addr) : (Op.equalIn (d0 + 1) t (.pointer (some a)) (.pointer none)).run P w = .ok false w := by
  simp [Op.equalIn, und_sound hu]
theorem equal_ptrN {t e : TypeId} (hu : P.underlying t = some (.pointer e)) (a : Addr) : (Op.equal t (.pointer (some a)) (.pointer none)).run P w = .ok false w := equal_ptrN_d 9999 hu a
theorem equal_same_d (d0 : Nat) {t e : TypeId} {n : Nat} (hu : P.underlying t = some (.pointer e)) (hn : szT P e = some (n + 1)) (b o o' : Nat) :
    (Op.equalIn (d0 + 1) t (.pointer (some ⟨b, o, none⟩)) (.pointer (some ⟨b, o', none⟩))).run P w = .ok (o == o') w := by
  have he : ((⟨b, o, none⟩ : Addr) == ⟨b, o', none⟩) = (o == o') := by
    cases h : o == o'
    · simp at h; simp [h]
    · simp at h; simp [h]
  simp only [Op.equalIn, Sem.run_bind, und_sound hu, Result.andThen_ok, szT_sound hn]
  simp [sameAddr, he]
theorem equal_same {t e : TypeId} {n : Nat} (hu : P.underlying t = some (.pointer e)) (hn : szT P e = some (n + 1)) (b o o' : Nat) :
    (Op.equal t (.pointer (some ⟨b, o, none⟩)) (.pointer (some ⟨b, o', none⟩))).run P w = .ok (o == o') w := equal_same_d 9999 hu hn b o o'
theorem guardIn_d (d0 : Nat) {t : TypeId} {ms : Array (String × TypeId)} (hu : P.underlying t = some (.interface ms)) : (Op.eqGuardIn (d0 + 1) t .nilIface .nilIface).run P w = .ok (!ms.isEmpty) w := by
  simp [Op.eqGuardIn, und_sound hu]
theorem guardIn {t : TypeId} {ms : Array (String × TypeId)} (hu : P.underlying t = some (.interface ms)) : (Op.eqGuardIn Op.maxDepth t .nilIface .nilIface).run P w = .ok (!ms.isEmpty) w := guardIn_d 9999 hu
theorem equal_slice_d (d0 : Nat) {t e : TypeId} (hu : P.underlying t = some (.slice e)) (a : Option Addr) (n m n' m' : Nat) : (Op.equalIn (d0 + 1) t (.slice none n m) (.slice a n' m')).run P w = .ok a.isNone w := by
  simp [Op.equalIn, und_sound hu]
theorem equal_slice {t e : TypeId} (hu : P.underlying t = some (.slice e)) (a : Option Addr) (n m n' m' : Nat) : (Op.equal t (.slice none n m) (.slice a n' m')).run P w = .ok a.isNone w := equal_slice_d 9999 hu a n m n' m'
theorem equal_sliceN_d (d0 : Nat) {t e : TypeId} (hu : P.underlying t = some (.slice e)) (a : Addr) (n m n' m' : Nat) : (Op.equalIn (d0 + 1) t (.slice (some a) n m) (.slice none n' m')).run P w = .ok false w := by
  simp [Op.equalIn, und_sound hu]
theorem equal_sliceN {t e : TypeId} (hu : P.underlying t = some (.slice e)) (a : Addr) (n m n' m' : Nat) : (Op.equal t (.slice (some a) n m) (.slice none n' m')).run P w = .ok false w := equal_sliceN_d 9999 hu a n m n' m'
theorem equal_map_d (d0 : Nat) {t k e : TypeId} (hu : P.underlying t = some (.map k e)) (a : Option Nat) : (Op.equalIn (d0 + 1) t (.map none) (.map a)).run P w = .ok a.isNone w := by
  simp [Op.equalIn, und_sound hu]
theorem equal_map {t k e : TypeId} (hu : P.underlying t = some (.map k e)) (a : Option Nat) : (Op.equal t (.map none) (.map a)).run P w = .ok a.isNone w := equal_map_d 9999 hu a
theorem equal_mapN_d (d0 : Nat) {t k e : TypeId} (hu : P.underlying t = some (.map k e)) (a : Nat) : (Op.equalIn (d0 + 1) t (.map (some a)) (.map none)).run P w = .ok false w := by
  simp [Op.equalIn, und_sound hu]
theorem equal_mapN {t k e : TypeId} (hu : P.underlying t = some (.map k e)) (a : Nat) : (Op.equal t (.map (some a)) (.map none)).run P w = .ok false w := equal_mapN_d 9999 hu a
theorem equal_func_d (d0 : Nat) {t : TypeId} {x y : Array TypeId} {z : Bool} (hu : P.underlying t = some (.func x y z)) : (Op.equalIn (d0 + 1) t .nilFunc .nilFunc).run P w = .ok true w := by
  simp [Op.equalIn, und_sound hu]
theorem equal_func {t : TypeId} {x y : Array TypeId} {z : Bool} (hu : P.underlying t = some (.func x y z)) : (Op.equal t .nilFunc .nilFunc).run P w = .ok true w := equal_func_d 9999 hu
theorem equal_func1_d (d0 : Nat) {t : TypeId} {x y : Array TypeId} {z : Bool} (hu : P.underlying t = some (.func x y z)) (f : Fn) (p q : Array Value) : (Op.equalIn (d0 + 1) t (.func f p q) .nilFunc).run P w = .ok false w := by
  simp [Op.equalIn, und_sound hu]
theorem equal_func1 {t : TypeId} {x y : Array TypeId} {z : Bool} (hu : P.underlying t = some (.func x y z)) (f : Fn) (p q : Array Value) : (Op.equal t (.func f p q) .nilFunc).run P w = .ok false w := equal_func1_d 9999 hu f p q
theorem equal_func2_d (d0 : Nat) {t : TypeId} {x y : Array TypeId} {z : Bool} (hu : P.underlying t = some (.func x y z)) (f : Fn) (p q : Array Value) : (Op.equalIn (d0 + 1) t .nilFunc (.func f p q)).run P w = .ok false w := by
  simp [Op.equalIn, und_sound hu]
theorem equal_func2 {t : TypeId} {x y : Array TypeId} {z : Bool} (hu : P.underlying t = some (.func x y z)) (f : Fn) (p q : Array Value) : (Op.equal t .nilFunc (.func f p q)).run P w = .ok false w := equal_func2_d 9999 hu f p q
theorem equal_iface1_d (d0 : Nat) {t : TypeId} {ms : Array (String × TypeId)} (hu : P.underlying t = some (.interface ms)) (d : TypeId) (z : Value) : (Op.equalIn (d0 + 1) t .nilIface (.iface d z)).run P w = .ok false w := by
  simp [Op.equalIn, und_sound hu]
theorem equal_iface1 {t : TypeId} {ms : Array (String × TypeId)} (hu : P.underlying t = some (.interface ms)) (d : TypeId) (z : Value) : (Op.equal t .nilIface (.iface d z)).run P w = .ok false w := equal_iface1_d 9999 hu d z
theorem equal_iface2_d (d0 : Nat) {t : TypeId} {ms : Array (String × TypeId)} (hu : P.underlying t = some (.interface ms)) (d : TypeId) (z : Value) : (Op.equalIn (d0 + 1) t (.iface d z) .nilIface).run P w = .ok false w := by
  simp [Op.equalIn, und_sound hu]
theorem equal_iface2 {t : TypeId} {ms : Array (String × TypeId)} (hu : P.underlying t = some (.interface ms)) (d : TypeId) (z : Value) : (Op.equal t (.iface d z) .nilIface).run P w = .ok false w := equal_iface2_d 9999 hu d z
theorem equal_iface0_d (d0 : Nat) {t : TypeId} {ms : Array (String × TypeId)} (hu : P.underlying t = some (.interface ms)) : (Op.equalIn (d0 + 1) t .nilIface .nilIface).run P w = .ok true w := by
  simp [Op.equalIn, und_sound hu]
theorem equal_iface0 {t : TypeId} {ms : Array (String × TypeId)} (hu : P.underlying t = some (.interface ms)) : (Op.equal t .nilIface .nilIface).run P w = .ok true w := equal_iface0_d 9999 hu

theorem aEql_sound {t : TypeId} {x y : AV} {u v : Value} {b : Bool} (h : aEql P t x y = some b) (hx : VR E x u) (hy : VR E y v) :
    (Op.equal t u v).run P w = .ok b w ∧ (∀ op ox oy, (eqGuard op t ox oy u v).run P w = .ok () w) ∧ (binOp .eql t u v = (do pure (.bool (← Op.equal t u v)))) ∧ (binOp .neq t u v = (do pure (.bool (!(← Op.equal t u v))))) := by
  unfold aEql at h
  split at h
  · split at h <;> simp only [Option.some.injEq, reduceCtorEq] at h
    subst h; rename_i hu
    simp only [VR] at hx hy; subst hx hy
    exact ⟨equal_ptr hu _, fun op ox oy => by rw [eqGuard_at_pointer]; rfl, rfl, rfl⟩
  · split at h <;> simp only [Option.some.injEq, reduceCtorEq] at h
    subst h; rename_i hu
    simp only [VR] at hx hy; obtain ⟨_, _, _, _, rfl⟩ := hy; subst hx
    exact ⟨equal_ptr hu _, fun op ox oy => by rw [eqGuard_at_pointer]; rfl, rfl, rfl⟩
  · split at h <;> simp only [Option.some.injEq, reduceCtorEq] at h
    subst h; rename_i hu
    simp only [VR] at hx hy; obtain ⟨_, _, _, _, rfl⟩ := hx; subst hy
    exact ⟨equal_ptrN hu _, fun op ox oy => by rw [eqGuard_at_pointer]; rfl, rfl, rfl⟩
  · split at h <;> simp only [Option.some.injEq, reduceCtorEq] at h
    subst h; rename_i hu
    simp only [VR] at hx hy; obtain ⟨_, _, _, rfl, _⟩ := hy; subst hx
    exact ⟨equal_ptr hu _, fun op ox oy => by rw [eqGuard_at_pointer]; rfl, rfl, rfl⟩
  · split at h <;> simp only [Option.some.injEq, reduceCtorEq] at h
    subst h; rename_i hu
    simp only [VR] at hx hy; obtain ⟨_, _, _, rfl, _⟩ := hx; subst hy
    exact ⟨equal_ptrN hu _, fun op ox oy => by rw [eqGuard_at_pointer]; rfl, rfl, rfl⟩
  · rename_i i o j o'
    split at h <;> (try (cases h; done))
    rename_i e hu
    split at h <;> (try (cases h; done))
    rename_i m hn
    split at h <;> (try (cases h; done))
    rename_i hij
    subst hij
    simp only [Option.some.injEq] at h; subst h
    simp only [VR] at hx hy
    obtain ⟨b1, s1, n1, e1, rfl⟩ := hx
    obtain ⟨b2, s2, n2, e2, rfl⟩ := hy
    rw [e1] at e2; cases e2
    refine ⟨?_, fun op ox oy => by rw [eqGuard_at_pointer]; rfl, rfl, rfl⟩
    rw [equal_same hu hn]
    congr 1
    cases hq : o == o'
    · simp at hq; simp; omega
    · simp at hq; simp [hq]
  · split at h <;> simp only [Option.some.injEq, reduceCtorEq] at h
    subst h; rename_i hu
    simp only [VR] at hx hy; subst hx hy
    exact ⟨equal_slice hu _ _ _ _ _, fun op ox oy => by rw [eqGuard_at_slice]; rfl, rfl, rfl⟩
  · split at h <;> simp only [Option.some.injEq, reduceCtorEq] at h
    subst h; rename_i hu
    simp only [VR] at hx hy; obtain ⟨_, _, _, _, _, _, rfl, _⟩ := hx; subst hy
    exact ⟨equal_sliceN hu _ _ _ _ _, fun op ox oy => by rw [eqGuard_at_slice]; rfl, rfl, rfl⟩
  · split at h <;> simp only [Option.some.injEq, reduceCtorEq] at h
    subst h; rename_i hu
    simp only [VR] at hx hy; obtain ⟨_, _, _, _, _, _, rfl, _⟩ := hy; subst hx
    exact ⟨equal_slice hu _ _ _ _ _, fun op ox oy => by rw [eqGuard_at_slice]; rfl, rfl, rfl⟩
  · split at h <;> simp only [Option.some.injEq, reduceCtorEq] at h
    subst h; rename_i hu
    simp only [VR] at hx hy; subst hx hy
    exact ⟨equal_map hu _, fun op ox oy => by rw [eqGuard_at_map]; rfl, rfl, rfl⟩
  · split at h <;> simp only [Option.some.injEq, reduceCtorEq] at h
    subst h; rename_i hu
    simp only [VR] at hx hy; obtain ⟨_, _, _, _, rfl⟩ := hx; subst hy
    exact ⟨equal_mapN hu _, fun op ox oy => by rw [eqGuard_at_map]; rfl, rfl, rfl⟩
  · split at h <;> simp only [Option.some.injEq, reduceCtorEq] at h
    subst h; rename_i hu
    simp only [VR] at hx hy; obtain ⟨_, _, _, _, rfl⟩ := hy; subst hx
    exact ⟨equal_map hu _, fun op ox oy => by rw [eqGuard_at_map]; rfl, rfl, rfl⟩
  · split at h <;> simp only [Option.some.injEq, reduceCtorEq] at h
    subst h; rename_i hu
    simp only [VR] at hx hy; subst hx hy
    exact ⟨equal_func hu, fun op ox oy => by rw [eqGuard_at_nilFunc]; rfl, rfl, rfl⟩
  · split at h <;> simp only [Option.some.injEq, reduceCtorEq] at h
    subst h; rename_i hu
    simp only [VR] at hx hy; obtain ⟨_, _, rfl, _⟩ := hx; subst hy
    exact ⟨equal_func1 hu _ _ _, fun op ox oy => by rw [eqGuard_at_func]; rfl, rfl, rfl⟩
  · split at h <;> simp only [Option.some.injEq, reduceCtorEq] at h
    subst h; rename_i hu
    simp only [VR] at hx hy; obtain ⟨_, _, rfl, _⟩ := hy; subst hx
    exact ⟨equal_func2 hu _ _ _, fun op ox oy => by rw [eqGuard_at_nilFunc]; rfl, rfl, rfl⟩
  · split at h <;> simp only [Option.some.injEq, reduceCtorEq] at h
    subst h; rename_i hu
    simp only [VR] at hx hy; obtain ⟨_, rfl, _⟩ := hy; subst hx
    exact ⟨equal_iface1 hu _ _, fun op ox oy => by rw [eqGuard_nil_iface]; rfl, rfl, rfl⟩
  · split at h <;> simp only [Option.some.injEq, reduceCtorEq] at h
    subst h; rename_i hu
    simp only [VR] at hx hy; obtain ⟨_, rfl, _⟩ := hx; subst hy
    exact ⟨equal_iface2 hu _ _, fun op ox oy => by rw [eqGuard_at_iface]; rfl, rfl, rfl⟩
  · split at h <;> simp only [Option.some.injEq, reduceCtorEq] at h
    subst h; rename_i hu
    simp only [VR] at hx hy; subst hx hy
    exact ⟨run_equal_bool w t _ _ hu, fun op ox oy => by rw [eqGuard_at_bool]; rfl, rfl, rfl⟩
  · rename_i xs ys
    split at h
    · cases h
    · rename_i hg
      have hx0 := hx
      have hy0 := hy
      simp only [VR] at hx hy
      obtain ⟨us, rfl, hx'⟩ := hx
      obtain ⟨vs, rfl, hy'⟩ := hy
      exact ⟨aeq_sound 10000 t _ _ _ _ _ h hx0 hy0, fun op ox oy => run_eqGuard_agg w op t ox oy us vs (by simpa using hg), rfl, rfl⟩
  · cases h

theorem str_len {s : List UInt8} : (⟨⟨s⟩⟩ : ByteArray).size = s.length := rfl

theorem aBin_sound {op : BinOp} {t : TypeId} {ox oy : Operand} {x y a : AV} {u v : Value} (h : aBin P op t ox oy x y = some a) (hx : VR E x u) (hy : VR E y v) :
    ∃ r, (do eqGuard op t ox oy u v; binOp op t u v : Sem Value).run P w = .ok r w ∧ VR E a r := by
  unfold aBin at h
  split at h
  · rename_i k m k' n
    simp only [VR] at hx hy; subst hx hy
    rw [eqGuard_at_int]
    show ∃ r, (binOp op t _ _).run P w = .ok r w ∧ VR E a r
    split at h
    · exact aShift_sound (.inl rfl) h w
    · exact aShift_sound (.inr rfl) h w
    · split at h
      · rename_i hk; subst hk
        exact aInt_sound h w
      · cases h
  · rename_i s1 s2
    simp only [VR] at hx hy; subst hx hy
    rw [eqGuard_at_string]
    show ∃ r, (binOp op t _ _).run P w = .ok r w ∧ VR E a r
    cases op <;> simp only [Option.some.injEq, reduceCtorEq] at h
    case add =>
      split at h
      · rename_i hl
        cases h
        refine ⟨.string ⟨⟨s1 ++ s2⟩⟩, ?_, by simp only [VR]⟩
        rw [binOp_string_add, run_string_add_sum w _ _ (by simp only [str_len]; omega)]
        have := ByteArray.mk_append_mk s1 s2
        rw [← this]
      · cases h
    all_goals (subst h; refine ⟨_, by simp [binOp, Op.stringOp, ByteArray.toList_mk]; rfl, by simp [VR]⟩)
  · simp only [VR] at hx hy; subst hx hy
    split at h <;> (try (cases h; done))
    rename_i ms hu
    split at h <;> (try (cases h; done))
    rename_i hc
    have hg : (eqGuard op t ox oy .nilIface .nilIface).run P w = .ok () w := by
      have hk : isConst ox = true ∨ isConst oy = true ∨ ms.isEmpty = true := by
        cases h1 : isConst ox <;> cases h2 : isConst oy <;> simp_all
      rcases hk with hk | hk | hk
      · cases ox <;> simp [isConst] at hk
        cases op <;> rfl
      · cases oy <;> simp [isConst] at hk
        cases op <;> cases ox <;> rfl
      · cases op <;> (try rfl)
        all_goals
          cases ox <;> cases oy <;> (try rfl)
          all_goals
            unfold eqGuard
            simp only [Bool.not_true, Bool.false_eq_true, if_false, Bool.or_self, Sem.run_bind, guardIn hu, Result.andThen_ok, hk]
            rfl
    cases op <;> simp only [Option.some.injEq, reduceCtorEq] at h
    · subst h
      refine ⟨.bool true, ?_, by simp [VR]⟩
      simp only [Sem.run_bind, hg, Result.andThen_ok]
      simp [binOp, equal_iface0 hu]
    · subst h
      refine ⟨.bool false, ?_, by simp [VR]⟩
      simp only [Sem.run_bind, hg, Result.andThen_ok]
      simp [binOp, equal_iface0 hu]
  · cases op <;> simp only [reduceCtorEq] at h
    all_goals
      split at h <;> (try (cases h; done))
      rename_i b he
      obtain ⟨h1, h2, h3, h4⟩ := aEql_sound (w := w) he hx hy
      simp only [Option.some.injEq] at h
      subst h
    · refine ⟨.bool b, ?_, by simp [VR]⟩
      simp only [Sem.run_bind, h2, Result.andThen_ok, h3, h1, Sem.run_pure]
    · refine ⟨.bool (!b), ?_, by simp [VR]⟩
      simp only [Sem.run_bind, h2, Result.andThen_ok, h4, h1, Sem.run_pure]

theorem aUn_sound {op : UnOp} {x a : AV} {u : Value} (h : aUn op x = some a) (hx : VR E x u) : ∃ r, (Op.unary op u).run P w = .ok r w ∧ VR E a r := by
  unfold aUn at h
  split at h
  · rename_i k n
    simp only [VR] at hx; subst hx
    cases op <;> simp only [Option.some.injEq, reduceCtorEq] at h
    · subst h; exact ⟨_, by simp [Op.unary, Op.intArith]; rfl, by simp [VR]⟩
    · split at h
      · rename_i m hm; cases h
        exact ⟨_, by simp only [Op.unary]; exact aBits_sound hm w, by simp [VR]⟩
      · cases h
  · simp only [VR] at hx; subst hx
    cases op <;> simp only [Option.some.injEq, reduceCtorEq] at h
    subst h
    exact ⟨_, by simp [Op.unary]; rfl, by simp [VR]⟩
  · cases h
end
end Go.Am

namespace Go.Am
section
variable {P : Program} {E : Env} {H : AH} {w : World}

theorem asNat_eq {n : Int} {i : Nat} (h : asNat n = some i) : n = i := by
  unfold asNat at h
  split at h
  · simp only [Option.some.injEq] at h; subst h; rfl
  · cases h

theorem ip_drop {cs : List AV} {v : Value} (h : VR E (.ip cs) v) : ∃ b o vs, v = .pointer (some ⟨b, o, none⟩) ∧ VRs E cs vs ∧ ∀ (j : Nat) (x : Value), vs[j]? = some x → E.I b (o + j) = some x := by simpa only [VR] using h
theorem ip_at {cs : List AV} {b o : Nat} {vs : List Value} (h1 : VRs E cs vs) (h2 : ∀ (j : Nat) (x : Value), vs[j]? = some x → E.I b (o + j) = some x) (k : Nat) : VR E (.ip (cs.drop k)) (.pointer (some ⟨b, o + k, none⟩)) := by
  simp only [VR]
  refine ⟨b, o + k, vs.drop k, rfl, h1.drop k, fun j x hx => ?_⟩
  rw [List.getElem?_drop] at hx
  rw [Nat.add_assoc]
  exact h2 _ x hx

theorem indexAddr_sound {t : TypeId} {x a : AV} {n : Int} {k : IntKind} {u : Value} (h : aindexAddr P H t x n = some a) (hx : VR E x u) :
    ∃ r, (Instr.indexAt t u (.int k n)).run P w = .ok r w ∧ VR E a r := by
  unfold aindexAddr at h
  split at h
  · rename_i len e i hu hn
    have hni := asNat_eq hn
    subst hni
    split at h <;> (try (cases h; done))
    rename_i st hst
    split at h <;> (try (cases h; done))
    rename_i hlt
    split at h <;> (try (cases h; done))
    · rename_i id off
      cases h
      simp only [VR] at hx
      obtain ⟨b, s, m, hi, rfl⟩ := hx
      refine ⟨.pointer (some ⟨b, s + off + i * st, none⟩), ?_, by simp only [VR]; exact ⟨b, s, m, hi, by rw [Nat.add_assoc]⟩⟩
      simp [Instr.indexAt, asIntOf, und_sound hu, Instr.sureAddr, hlt, szT_sound hst, addr_add]
    · rename_i cs
      cases h
      obtain ⟨b, o, vs, rfl, h1, h2⟩ := ip_drop hx
      refine ⟨.pointer (some ⟨b, o + i * st, none⟩), ?_, ip_at h1 h2 _⟩
      simp [Instr.indexAt, asIntOf, und_sound hu, Instr.sureAddr, hlt, szT_sound hst, addr_add]
  · rename_i e i hu hn
    have hni := asNat_eq hn
    subst hni
    split at h <;> (try (cases h; done))
    rename_i st hst
    split at h <;> (try (cases h; done))
    · rename_i id off len st'
      split at h <;> (try (cases h; done))
      rename_i hc
      obtain ⟨hlt, rfl⟩ := hc
      cases h
      simp only [VR] at hx
      obtain ⟨b, s, m, cap, x, hi, rfl, hle, _, hx⟩ := hx
      obtain rfl := hx (by omega)
      refine ⟨.pointer (some ⟨b, s + off + i * st, none⟩), ?_, by simp only [VR]; exact ⟨b, s, m, hi, by rw [Nat.add_assoc]⟩⟩
      simp [Instr.indexAt, asIntOf, und_sound hu, hlt, szT_sound hst, addr_add]
    · rename_i cs len
      split at h <;> (try (cases h; done))
      rename_i hlt
      cases h
      simp only [VR] at hx
      rcases hx with ⟨_, h0, _⟩ | ⟨b, o, cap, vs, rfl, _, h1, h2⟩
      · omega
      · refine ⟨.pointer (some ⟨b, o + i * st, none⟩), ?_, ip_at h1 h2 _⟩
        simp [Instr.indexAt, asIntOf, und_sound hu, hlt, szT_sound hst, addr_add]
  · cases h

theorem index_sound {t : TypeId} {x a : AV} {n : Int} {k : IntKind} {u : Value} (h : aindex P t x n = some a) (hx : VR E x u) :
    ∃ r, (Instr.index t u (.int k n)).run P w = .ok r w ∧ VR E a r := by
  unfold aindex at h
  split at h
  · rename_i len e i cs hu hn
    have hni := asNat_eq hn
    subst hni
    split at h <;> (try (cases h; done))
    rename_i st hst
    split at h <;> (try (cases h; done))
    rename_i hlt
    simp only [VR] at hx
    obtain ⟨c, rfl, hc⟩ := hx
    obtain ⟨r, h1, h2⟩ := part_sound h hc w
    refine ⟨r, ?_, h2⟩
    simp [Instr.index, asIntOf, und_sound hu, hlt, szT_sound hst, h1]
  · rename_i i s hu hn
    have hni := asNat_eq hn
    subst hni
    split at h <;> (try (cases h; done))
    rename_i c hc
    cases h
    simp only [VR] at hx
    subst hx
    refine ⟨.int .u8 c.toNat, ?_, by simp only [VR]⟩
    have hlt := (List.getElem?_eq_some_iff.1 hc)
    obtain ⟨h1, h2⟩ := hlt
    have hg : (⟨⟨s⟩⟩ : ByteArray)[i]? = some c := by
      rw [ByteArray.getElem?_lt' _ _ (by simpa [str_len] using h1)]
      simp only [Option.some.injEq]
      exact h2
    simp [Instr.index, asIntOf, und_sound hu, hg]
  · cases h

theorem abounds_sound {len cap l hh : Nat} {lo hi : Option AV} {lov hiv : Option Value} (h : abounds len cap lo hi = some (l, hh)) (hlo : ∀ a, lo = some a → ∃ v, lov = some v ∧ VR E a v) (hlo' : lo = none → lov = none)
    (hhi : ∀ a, hi = some a → ∃ v, hiv = some v ∧ VR E a v) (hhi' : hi = none → hiv = none) (isSlice : Bool) (cap' : Nat) (hcap : cap ≤ cap') :
    (Instr.sliceBounds isSlice len cap' lov hiv none).run P w = .ok (l, hh, cap') w ∧ l ≤ hh ∧ hh ≤ cap := by
  unfold abounds at h
  split at h
  · rename_i h0 l0 e1 e2
    split at h <;> (try (cases h; done))
    rename_i hc
    simp only [Option.some.injEq, Prod.mk.injEq] at h
    obtain ⟨rfl, rfl⟩ := h
    refine ⟨?_, hc.1, hc.2⟩
    have k1 : ∃ hv : Option Value, hiv = hv ∧ ((hv = none ∧ h0 = len) ∨ ∃ k, hv = some (.int k h0)) := by
      split at e1
      · rename_i k n
        obtain ⟨v, hv, hr⟩ := hhi _ rfl
        simp only [VR] at hr
        subst hr
        have := asNat_eq e1
        subst this
        exact ⟨_, hv, .inr ⟨k, rfl⟩⟩
      · simp only [Option.some.injEq] at e1
        exact ⟨_, hhi' rfl, .inl ⟨rfl, e1.symm⟩⟩
      · cases e1
    have k2 : ∃ lv : Option Value, lov = lv ∧ ((lv = none ∧ l0 = 0) ∨ ∃ k, lv = some (.int k l0)) := by
      split at e2
      · rename_i k n
        obtain ⟨v, hv, hr⟩ := hlo _ rfl
        simp only [VR] at hr
        subst hr
        have := asNat_eq e2
        subst this
        exact ⟨_, hv, .inr ⟨k, rfl⟩⟩
      · simp only [Option.some.injEq] at e2
        exact ⟨_, hlo' rfl, .inl ⟨rfl, e2.symm⟩⟩
      · cases e2
    obtain ⟨hv, rfl, k1⟩ := k1
    obtain ⟨lv, rfl, k2⟩ := k2
    have hle : (h0 : Int) ≤ cap' := by omega
    have hb1 : ∀ (k : IntKind) (code : BoundsCode) (m y : Nat), m ≤ y → (Instr.sliceBound (.int k (m : Nat)) y code).run P w = .ok m w := by
      intro k code m y hmy
      have : (m : Int) ≤ y := by omega
      simp [Instr.sliceBound, asIntOf, this]
    rcases k1 with ⟨rfl, rfl⟩ | ⟨k, rfl⟩ <;> rcases k2 with ⟨rfl, rfl⟩ | ⟨k', rfl⟩
    · simp [Instr.sliceBounds]
    · simp [Instr.sliceBounds, hb1 _ _ _ _ hc.1]
    · simp [Instr.sliceBounds, hb1 _ _ _ _ (Nat.le_trans hc.2 hcap)]
    · simp [Instr.sliceBounds, hb1 _ _ _ _ (Nat.le_trans hc.2 hcap), hb1 _ _ _ _ hc.1]
  · cases h

/-- related options -/
def ORs (E : Env) : Option AV → Option Value → Prop
  | none, v => v = none
  | some a, v => ∃ u, v = some u ∧ VR E a u

theorem slice_sound {t : TypeId} {x a : AV} {lo hi mx : Option AV} {u : Value} {lov hiv mxv : Option Value} (h : aslice P H t x lo hi mx = some a) (hr : HR E H w) (hx : VR E x u) (hlo : ORs E lo lov) (hhi : ORs E hi hiv) (hmx : ORs E mx mxv) :
    ∃ r, (Instr.sliceAt t u lov hiv mxv).run P w = .ok r w ∧ VR E a r := by
  have elo : ∀ a, lo = some a → ∃ v, lov = some v ∧ VR E a v := fun a ha => by subst ha; exact hlo
  have elo' : lo = none → lov = none := fun ha => by subst ha; exact hlo
  have ehi : ∀ a, hi = some a → ∃ v, hiv = some v ∧ VR E a v := fun a ha => by subst ha; exact hhi
  have ehi' : hi = none → hiv = none := fun ha => by subst ha; exact hhi
  unfold aslice at h
  split at h
  · -- a third index
    rename_i m
    have key : ∀ {e : TypeId} (_ : P.underlying t = some (.slice e)) {k k' : IntKind} (_ : lo = none) (_ : hi = some (.i k 0)) (_ : m = .i k' 0) (base : Option Addr) (len cap : Nat) {st : Nat}, szT P e = some st →
        ∃ r, (Instr.sliceAt t (.slice base len cap) lov hiv mxv).run P w = .ok r w ∧ VR E .esl r := by
      intro e hu k k' hl hh hm base len cap st hst
      obtain ⟨hv, hv1, hv2⟩ := ehi _ hh
      obtain ⟨mv, mv1, mv2⟩ := hmx
      subst hm
      simp only [VR] at hv2 mv2
      subst hv2 mv2 hv1 mv1
      rw [elo' hl]
      refine ⟨.slice base 0 0, ?_, by simp [VR]⟩
      simp [Instr.sliceAt, und_sound hu, Instr.slice, Instr.sliceBounds, Instr.sliceBound, asIntOf, szT_sound hst]
    split at h <;> (try (cases h; done))
    all_goals
      rename_i hu
      split at h <;> (try (cases h; done))
      rename_i st hst
      cases h
    · simp only [VR] at hx; obtain ⟨_, _, _, _, _, _, rfl, _⟩ := hx
      exact key hu rfl rfl rfl _ _ _ hst
    · simp only [VR] at hx
      rcases hx with ⟨_, _, _, _, rfl⟩ | ⟨_, _, _, _, rfl, _⟩
      · exact key hu rfl rfl rfl _ _ _ hst
      · exact key hu rfl rfl rfl _ _ _ hst
    · simp only [VR] at hx; subst hx
      exact key hu rfl rfl rfl _ _ _ hst
    · simp only [VR] at hx; obtain ⟨_, rfl⟩ := hx
      exact key hu rfl rfl rfl _ _ _ hst
  · simp only [ORs] at hmx
    subst hmx
    split at h
    · rename_i s hu
      split at h <;> (try (cases h; done))
      rename_i l hh hb
      cases h
      simp only [VR] at hx
      subst hx
      obtain ⟨h1, h2, h3⟩ := abounds_sound (P := P) (w := w) hb elo elo' ehi ehi' false s.length (Nat.le_refl _)
      refine ⟨.string ((⟨⟨s⟩⟩ : ByteArray).extract l hh), ?_, ?_⟩
      · have h1' : (Instr.sliceBounds false (⟨⟨s⟩⟩ : ByteArray).size (⟨⟨s⟩⟩ : ByteArray).size lov hiv none).run P w = .ok (l, hh, s.length) w := h1
        simp [Instr.sliceAt, Instr.slice, und_sound hu, h1']
      · simp only [VR, Value.string.injEq]
        apply ByteArray.ext
        simp [ByteArray.data_extract, List.extract_eq_take_drop]
    · rename_i e id off len st hu
      split at h <;> (try (cases h; done))
      rename_i l hh st' hb hst
      split at h <;> (try (cases h; done))
      rename_i hq
      subst hq
      cases h
      simp only [VR] at hx
      obtain ⟨b, s, n, cap, x, hi', rfl, hle, hcap, hx⟩ := hx
      obtain ⟨h1, h2, h3⟩ := abounds_sound (P := P) (w := w) hb elo elo' ehi ehi' true cap hle
      refine ⟨.slice (if cap = l then some x else some (x.add (l * st))) (hh - l) (cap - l), ?_, ?_⟩
      · simp only [Instr.sliceAt, Sem.run_bind, und_sound hu, Result.andThen_ok, Instr.slice, h1, szT_sound hst, Sem.run_pure]
        simp
      · simp only [VR]
        refine ⟨b, s, n, cap - l, if cap = l then x else x.add (l * st), hi', by split <;> rfl, by omega, ?_, fun hne => ?_⟩
        · rw [Nat.sub_mul]
          have : l * st ≤ cap * st := Nat.mul_le_mul_right _ (by omega)
          omega
        · rw [if_neg (by omega), hx (by omega), addr_add, Nat.add_assoc]
    · rename_i e cs len hu
      split at h <;> (try (cases h; done))
      rename_i l hh st hb hst
      cases h
      simp only [VR] at hx
      rcases hx with ⟨rfl, rfl, a, cap, rfl⟩ | ⟨b, o, cap, vs, rfl, hle, hv, hI⟩
      · obtain ⟨h1, h2, h3⟩ := abounds_sound (P := P) (w := w) hb elo elo' ehi ehi' true cap (Nat.zero_le _)
        obtain rfl : hh = 0 := by omega
        obtain rfl : l = 0 := by omega
        refine ⟨.slice (if cap = 0 then a else a.map (·.add (0 * st))) 0 (cap - 0), ?_, ?_⟩
        · simp only [Instr.sliceAt, Sem.run_bind, und_sound hu, Result.andThen_ok, Instr.slice, h1, szT_sound hst, Sem.run_pure]
        · simp only [VR]; exact .inl ⟨by simp, by simp, _, _, rfl⟩
      · obtain ⟨h1, h2, h3⟩ := abounds_sound (P := P) (w := w) hb elo elo' ehi ehi' true cap hle
        refine ⟨.slice (if cap = l then some ⟨b, o, none⟩ else some ⟨b, o + l * st, none⟩) (hh - l) (cap - l), ?_, ?_⟩
        · simp only [Instr.sliceAt, Sem.run_bind, und_sound hu, Result.andThen_ok, Instr.slice, h1, szT_sound hst, Sem.run_pure]
          simp [addr_add]
        · simp only [VR]
          by_cases hz : hh = l
          · exact .inl ⟨by simp [hz], by omega, (if cap = l then some ⟨b, o, none⟩ else some ⟨b, o + l * st, none⟩), cap - l, by rw [hz, Nat.sub_self]⟩
          · refine .inr ⟨b, o + l * st, cap - l, (vs.drop (l * st)).take ((hh - l) * st), by rw [if_neg (by omega)], by omega, (hv.drop _).take _, fun j x hx => ?_⟩
            simp only [List.getElem?_take, List.getElem?_drop] at hx
            split at hx
            · rw [Nat.add_assoc]; exact hI _ x hx
            · cases hx
    · rename_i e hu
      split at h <;> (try (cases h; done))
      rename_i l hh st hb hst
      cases h
      simp only [VR] at hx
      subst hx
      obtain ⟨h1, h2, h3⟩ := abounds_sound (P := P) (w := w) hb elo elo' ehi ehi' true 0 (Nat.le_refl _)
      obtain rfl : hh = 0 := by omega
      obtain rfl : l = 0 := by omega
      refine ⟨.slice none 0 0, ?_, by simp [VR]⟩
      simp only [Instr.sliceAt, Sem.run_bind, und_sound hu, Result.andThen_ok, Instr.slice, h1, szT_sound hst, Sem.run_pure]
      simp
    · rename_i e hu
      split at h <;> (try (cases h; done))
      rename_i l hh st hb hst
      cases h
      simp only [VR] at hx
      obtain ⟨a, rfl⟩ := hx
      obtain ⟨h1, h2, h3⟩ := abounds_sound (P := P) (w := w) hb elo elo' ehi ehi' true 0 (Nat.le_refl _)
      obtain rfl : hh = 0 := by omega
      obtain rfl : l = 0 := by omega
      refine ⟨.slice a 0 0, ?_, by simp [VR]⟩
      simp only [Instr.sliceAt, Sem.run_bind, und_sound hu, Result.andThen_ok, Instr.slice, h1, szT_sound hst, Sem.run_pure]
      simp
    · rename_i n e id off hu
      split at h <;> (try (cases h; done))
      rename_i l hh st hb hst
      split at h <;> (try (cases h; done))
      rename_i t' cs frz cl hg
      split at h <;> (try (cases h; done))
      rename_i hpos
      cases h
      simp only [VR] at hx
      obtain ⟨b, s, m, hi', rfl⟩ := hx
      obtain ⟨c, fz, _, _, hcm, _⟩ := hr.blk hg hi'
      obtain ⟨h1, h2, h3⟩ := abounds_sound (P := P) (w := w) hb elo elo' ehi ehi' false n (Nat.le_refl _)
      refine ⟨.slice (some (if n = l then ⟨b, s + off, none⟩ else ⟨b, s + off + l * st, none⟩)) (hh - l) (n - l), ?_, ?_⟩
      · simp only [Instr.sliceAt, Sem.run_bind, und_sound hu, Result.andThen_ok, Instr.sureAddr, h1, szT_sound hst, Sem.run_pure]
        simp [addr_add]
      · simp only [VR]
        refine ⟨b, s, m, n - l, _, hi', rfl, by omega, ?_, fun hne => ?_⟩
        · rw [Nat.sub_mul]
          have : l * st ≤ n * st := Nat.mul_le_mul_right _ (by omega)
          omega
        · rw [if_neg (by omega), Nat.add_assoc]
    · cases h

theorem fieldAddr_sound {s : TypeId} {fs : Array Field} {f off m : Nat} {x : AV} {u : Value} (hu : P.underlying s = some (.struct fs)) (hf : fieldAt? P fs.toList f = some (off, m + 1)) (hx : VR E x u) :
    (∀ id o, x = .ptr id o → ∃ r, (Instr.fieldAt s u f).run P w = .ok r w ∧ VR E (.ptr id (o + off)) r) ∧ (∀ cs, x = .ip cs → ∃ r, (Instr.fieldAt s u f).run P w = .ok r w ∧ VR E (.ip (cs.drop off)) r) := by
  have hfd : ∃ fd, fs[f]? = some fd ∧ fd.offset = off ∧ szT P fd.type = some (m + 1) := by
    have : ∀ (l : List Field) (f : Nat), fieldAt? P l f = some (off, m + 1) → ∃ fd, l[f]? = some fd ∧ fd.offset = off ∧ szT P fd.type = some (m + 1) := by
      intro l
      induction l with
      | nil => intro f h; simp [fieldAt?] at h
      | cons g l ih =>
        intro f h
        cases f with
        | zero =>
          simp only [fieldAt?] at h
          split at h
          · rename_i n hn
            simp only [Option.some.injEq, Prod.mk.injEq] at h
            obtain ⟨h1, rfl⟩ := h
            exact ⟨g, rfl, h1, hn⟩
          · cases h
        | succ f => simp only [fieldAt?] at h; exact ih f h
    obtain ⟨fd, h1, h2⟩ := this _ _ hf
    exact ⟨fd, by rw [← Array.getElem?_toList]; exact h1, h2⟩
  obtain ⟨fd, h1, rfl, h3⟩ := hfd
  have run : ∀ b o : Nat, (Instr.fieldAt s (.pointer (some ⟨b, o, none⟩)) f).run P w = .ok (.pointer (some ⟨b, o + fd.offset, none⟩)) w := by
    intro b o
    simp [Instr.fieldAt, und_sound hu, h1, Instr.sureAddr, fieldPlace, szT_sound h3, addr_add]
  refine ⟨fun id o e => ?_, fun cs e => ?_⟩
  · subst e
    simp only [VR] at hx
    obtain ⟨b, s', n, hi, rfl⟩ := hx
    exact ⟨_, run _ _, by simp only [VR]; exact ⟨b, s', n, hi, by rw [Nat.add_assoc]⟩⟩
  · subst e
    obtain ⟨b, o, vs, rfl, k1, k2⟩ := ip_drop hx
    exact ⟨_, run _ _, ip_at k1 k2 _⟩

theorem field_sound {s : TypeId} {fs : Array Field} {f : Nat} {fd : Field} {cs : List AV} {a : AV} {u : Value} (hu : P.underlying s = some (.struct fs)) (hf : fs[f]? = some fd) (h : loadFrom P fd.type cs fd.offset = some a) (hx : VR E (.agg cs) u) :
    ∃ r, (Instr.field s u f).run P w = .ok r w ∧ VR E a r := by
  simp only [VR] at hx
  obtain ⟨c, rfl, hc⟩ := hx
  obtain ⟨r, h1, h2⟩ := part_sound h hc w
  exact ⟨r, by simp [Instr.field, und_sound hu, hf, asAgg, h1], h2⟩

theorem iface_sound {t : TypeId} {x : AV} {u : Value} {d : TypeDesc} (hu : P.underlying t = some d) (hd : ∀ ms, d ≠ .interface ms) (hx : VR E x u) : ∃ r, (Instr.makeInterface t u).run P w = .ok r w ∧ VR E (.ifc t x) r := by
  refine ⟨.iface t u, ?_, by simp only [VR]; exact ⟨u, rfl, hx⟩⟩
  simp only [Instr.makeInterface, Sem.run_bind, und_sound hu, Result.andThen_ok]
  cases d <;> first | rfl | exact absurd rfl (hd _)

theorem extract_sound {vs : List AV} {i : Nat} {a : AV} {u : Value} (h : vs[i]? = some a) (hx : VR E (.tup vs) u) : ∃ r, (Instr.extract u i).run P w = .ok r w ∧ VR E a r := by
  simp only [VR] at hx
  obtain ⟨c, rfl, hc⟩ := hx
  obtain ⟨v, h1, h2⟩ := hc.get i a h
  rw [Array.getElem?_toList] at h1
  exact ⟨v, by simp [Instr.extract, h1], h2⟩
end
end Go.Am

namespace Go.Am
section
variable {P : Program} {E : Env} {H : AH} {w : World}

theorem checkKey_plain (d : Nat) (empty : Bool) {kt : TypeId} (h : plainT P kt = true) (v : Value) : (Instr.checkKey empty (d + 1) kt v).run P w = .ok () w := by
  unfold plainT at h
  split at h
  · rename_i hu; simp [Instr.checkKey, und_sound hu]
  · rename_i hu; simp [Instr.checkKey, und_sound hu]
  · rename_i hu; simp [Instr.checkKey, und_sound hu]
  · cases h

theorem forIn_unit_ok {α : Type} (body : α → PUnit → Sem (ForInStep PUnit)) : ∀ (l : List α), (∀ x ∈ l, (body x PUnit.unit).run P w = .ok (.yield PUnit.unit) w) → (forIn l PUnit.unit body).run P w = .ok PUnit.unit w
  | [], _ => rfl
  | x :: l, h => by
    rw [List.forIn_cons, Sem.run_bind, h x (by simp)]
    simp only [Result.andThen_ok]
    exact forIn_unit_ok body l (fun y hy => h y (by simp [hy]))

theorem checkKey_sound (d : Nat) (empty : Bool) {kt : TypeId} {k : AV} {v : Value} (h : keyFits P kt k = true) (hv : VR E k v) : (Instr.checkKey empty (d + 2) kt v).run P w = .ok () w := by
  unfold keyFits at h
  split at h
  · rename_i hu; exact checkKey_plain (d + 1) empty (by simp [plainT, hu]) v
  · rename_i hu; exact checkKey_plain (d + 1) empty (by simp [plainT, hu]) v
  · rename_i hu; exact checkKey_plain (d + 1) empty (by simp [plainT, hu]) v
  · rename_i fs cs hu
    simp only [VR] at hv
    obtain ⟨c, rfl, hc⟩ := hv
    have hck : ∀ (t : TypeId) (u : Value), plainT P t = true → (Instr.checkKey empty (d + 1) t u).run P w = .ok () w := fun t u ht => checkKey_plain d empty ht u
    show (Instr.checkKey empty ((d + 1) + 1) kt (.agg c)).run P w = _
    rw [Instr.checkKey]
    generalize Instr.checkKey empty (d + 1) = ck at hck
    simp only [Sem.run_bind, und_sound hu, Result.andThen_ok]
    rw [← Array.forIn_toList, forIn_unit_ok]
    · rfl
    · intro f hf
      have h1 := List.all_eq_true.1 h f hf
      by_cases hn : f.name = "_"
      · simp only [hn, ne_eq, not_true, if_false, Sem.run_pure]
      · simp only [Bool.or_eq_true, beq_iff_eq, hn, false_or, Bool.and_eq_true] at h1
        obtain ⟨a, ha⟩ := Option.isSome_iff_exists.1 h1.1
        obtain ⟨u, k1, k2⟩ := part_sound ha hc w
        simp only [ne_eq, hn, not_false_eq_true, if_true, Sem.run_bind, k1, Result.andThen_ok, hck f.type u h1.2, Sem.run_pure]
  · cases h

theorem ERs.get : ∀ {es : List (AV × AV × Nat)} {vs : List MapEntry}, ERs E es vs → ∀ (i : Nat) k x n, es[i]? = some (k, x, n) → ∃ e, vs[i]? = some e ∧ VR E k e.key ∧ VR E x e.val ∧ e.born = n
  | [], _, _, i, _, _, _, h => by simp at h
  | (k, x, n) :: es, vs, h, i, k', x', n', hi => by
    simp only [ERs] at h
    obtain ⟨e, rest, rfl, h1, h2, h3, h4⟩ := h
    cases i with
    | zero => simp only [List.getElem?_cons_zero, Option.some.injEq, Prod.mk.injEq] at hi; obtain ⟨rfl, rfl, rfl⟩ := hi; exact ⟨e, rfl, h1, h2, h3⟩
    | succ i => simp only [List.getElem?_cons_succ] at *; exact ERs.get h4 i k' x' n' hi
theorem ERs.length : ∀ {es : List (AV × AV × Nat)} {vs : List MapEntry}, ERs E es vs → es.length = vs.length
  | [], _, h => by simp only [ERs] at h; subst h; rfl
  | (k, x, n) :: es, vs, h => by
    simp only [ERs] at h
    obtain ⟨e, rest, rfl, _, _, _, h4⟩ := h
    simp [ERs.length h4]
theorem ERs.snoc {es : List (AV × AV × Nat)} {vs : List MapEntry} (h : ERs E es vs) {k x : AV} {n : Nat} {e : MapEntry} (h1 : VR E k e.key) (h2 : VR E x e.val) (h3 : e.born = n) : ERs E (es ++ [(k, x, n)]) (vs ++ [e]) := by
  induction es generalizing vs with
  | nil => simp only [ERs] at h; subst h; simp only [List.nil_append, ERs]; exact ⟨e, [], rfl, h1, h2, h3, rfl⟩
  | cons p es ih =>
    obtain ⟨k', x', n'⟩ := p
    simp only [ERs] at h
    obtain ⟨e', rest, rfl, q1, q2, q3, q4⟩ := h
    simp only [List.cons_append, ERs]
    exact ⟨e', rest ++ [e], rfl, q1, q2, q3, ih q4⟩
theorem ERs.modify {es : List (AV × AV × Nat)} {vs : List MapEntry} (h : ERs E es vs) (i : Nat) {k x : AV} {f : MapEntry → MapEntry} (hf : ∀ e, vs[i]? = some e → VR E k (f e).key ∧ VR E x (f e).val ∧ (f e).born = e.born) : ERs E (modAt es i k x) (vs.modify i f) := by
  induction es generalizing vs i with
  | nil => simp only [ERs] at h; subst h; simp [modAt, ERs]
  | cons p es ih =>
    obtain ⟨k', x', n'⟩ := p
    simp only [ERs] at h
    obtain ⟨e', rest, rfl, q1, q2, q3, q4⟩ := h
    cases i with
    | zero =>
      obtain ⟨r1, r2, r3⟩ := hf e' rfl
      simp only [modAt, List.modify_zero_cons, ERs]
      exact ⟨f e', rest, rfl, r1, r2, r3.trans q3, q4⟩
    | succ i =>
      simp only [modAt, List.modify_succ_cons, ERs]
      exact ⟨e', _, rfl, q1, q2, q3, ih q4 i (fun e he => hf e (by simpa using he))⟩

/-- what looking for a key comes to -/
def FindR (E : Env) (vs : List MapEntry) (base : Nat) : Option (Nat × AV × Nat) → Option (Nat × Value) → Prop
  | none, r => r = none
  | some (i, x, born), r => ∃ j e, i = base + j ∧ r = some (i, e.val) ∧ vs[j]? = some e ∧ VR E x e.val ∧ e.born = born

theorem FindR.up {vs : List MapEntry} {base : Nat} {e0 : MapEntry} {r : Option (Nat × AV × Nat)} {r' : Option (Nat × Value)} (h : FindR E vs (base + 1) r r') : FindR E (e0 :: vs) base r r' := by
  cases r with
  | none => exact h
  | some p =>
    obtain ⟨i, x, born⟩ := p
    obtain ⟨j, e, h1, h2, h3, h4, h5⟩ := h
    exact ⟨j + 1, e, by omega, h2, by simpa using h3, h4, h5⟩

theorem bytes_beq (a b : List UInt8) : ((⟨⟨a⟩⟩ : ByteArray) == ⟨⟨b⟩⟩) = (a == b) := by
  show ((⟨a⟩ : Array UInt8) == ⟨b⟩) = (a == b)
  simp

theorem aeq_sound' {d : Nat} {t : TypeId} {x y : AV} {b : Bool} (h : aeq P d t x y = some b) (d' : Nat) (hd : d ≤ d') : aeq P d' t x y = some b := by
  induction d generalizing t x y b d' with
  | zero => simp [aeq] at h
  | succ d ih =>
    obtain ⟨e, rfl⟩ : ∃ e, d' = e + 1 := ⟨d' - 1, by omega⟩
    have hf : ∀ (xs ys : List AV) (l : List Field) (b : Bool), aeqFields P (aeq P d) xs ys l = some b → aeqFields P (aeq P e) xs ys l = some b := by
      intro xs ys l
      induction l with
      | nil => intro b h; exact h
      | cons f l ihl =>
        intro b h
        simp only [aeqFields] at h ⊢
        by_cases hn : f.name = "_"
        · simp only [hn, ne_eq, not_true, if_false] at h ⊢
          exact ihl b h
        · simp only [ne_eq, hn, not_false_eq_true, if_true] at h ⊢
          split at h
          · rename_i a c ha hc
            cases hq : aeq P d f.type a c with
            | none => rw [hq] at h; cases h
            | some q =>
              rw [hq] at h
              rw [ih hq e (by omega)]
              cases q
              · exact h
              · exact ihl b h
          · cases h
    unfold aeq at h ⊢
    split at h
    · exact h
    · exact h
    · exact h
    · split at h
      · cases h
      · rename_i hn
        rw [if_neg hn]
        exact hf _ _ _ _ h
    · cases h

theorem findNow_sound {kt : TypeId} {k : AV} {v : Value} (hv : VR E k v) (hp : plainT P kt = true) : ∀ (es : List (AV × AV × Nat)) (vs : List MapEntry) (i : Nat) (r : Option (Nat × AV × Nat)),
    afind P kt k es i = some r → ERs E es vs → ∃ d r', P.underlying kt = some d ∧ Instr.findNow d v vs i = some r' ∧ FindR E vs i r r'
  | [], vs, i, r, h, he => by
    simp only [afind, Option.some.injEq] at h
    simp only [ERs] at he
    subst h he
    have : ∃ d, P.underlying kt = some d := by
      unfold plainT at hp
      split at hp
      · exact ⟨_, by assumption⟩
      · exact ⟨_, by assumption⟩
      · exact ⟨_, by assumption⟩
      · cases hp
    obtain ⟨d, hd⟩ := this
    exact ⟨d, none, hd, rfl, rfl⟩
  | (k', x, born) :: es, vs, i, r, h, he => by
    simp only [ERs] at he
    obtain ⟨e, rest, rfl, q1, q2, q3, q4⟩ := he
    simp only [afind] at h
    have key : ∀ b, aeq P 100 kt k k' = some b → ∃ d, P.underlying kt = some d ∧ Instr.sameNow d v e.key = some b := by
      intro b hb
      unfold aeq at hb
      split at hb
      · rename_i hu
        simp only [Option.some.injEq] at hb; subst hb
        simp only [VR] at hv q1
        exact ⟨_, hu, by rw [hv, q1]; rfl⟩
      · rename_i hu
        split at hb
        · rename_i hk
          simp only [Option.some.injEq] at hb; subst hb
          simp only [VR] at hv q1
          exact ⟨_, hu, by rw [hv, q1]; simp [Instr.sameNow, hk]⟩
        · cases hb
      · rename_i hu
        simp only [Option.some.injEq] at hb; subst hb
        simp only [VR] at hv q1
        exact ⟨_, hu, by rw [hv, q1]; simp only [Instr.sameNow, bytes_beq]⟩
      · rename_i hu
        simp only [plainT, hu, Bool.false_eq_true] at hp
      · cases hb
    cases hb : aeq P 100 kt k k' with
    | none => rw [hb] at h; cases h
    | some b =>
      obtain ⟨d, hd, hs⟩ := key b hb
      rw [hb] at h
      cases b
      · simp only at h
        obtain ⟨d', r', k1, k2, k3⟩ := findNow_sound hv hp es rest (i + 1) r h q4
        rw [hd] at k1; cases k1
        exact ⟨d, r', hd, by simp only [Instr.findNow, hs]; exact k2, k3.up⟩
      · simp only [Option.some.injEq] at h
        subst h
        exact ⟨d, some (i, e.val), hd, by simp only [Instr.findNow, hs], 0, e, rfl, rfl, rfl, q2, q3⟩

theorem findAsk_sound {kt : TypeId} {k : AV} {v : Value} (hv : VR E k v) : ∀ (es : List (AV × AV × Nat)) (vs : List MapEntry) (i : Nat) (r : Option (Nat × AV × Nat)),
    afind P kt k es i = some r → ERs E es vs → ∃ r', (Instr.findAsking kt v vs i).run P w = .ok r' w ∧ FindR E vs i r r'
  | [], vs, i, r, h, he => by
    simp only [afind, Option.some.injEq] at h
    simp only [ERs] at he
    subst h he
    exact ⟨none, rfl, rfl⟩
  | (k', x, born) :: es, vs, i, r, h, he => by
    simp only [ERs] at he
    obtain ⟨e, rest, rfl, q1, q2, q3, q4⟩ := he
    simp only [afind] at h
    have mono : ∀ b, aeq P 100 kt k k' = some b → (Op.equal kt v e.key).run P w = .ok b w := by
      intro b hb
      exact aeq_sound 10000 kt k k' v e.key b (aeq_sound' hb _ (by omega)) hv q1
    cases hb : aeq P 100 kt k k' with
    | none => rw [hb] at h; cases h
    | some b =>
      have hs := mono b hb
      rw [hb] at h
      cases b
      · simp only at h
        obtain ⟨r', k1, k2⟩ := findAsk_sound hv es rest (i + 1) r h q4
        exact ⟨r', by simp [Instr.findAsking, hs, k1], k2.up⟩
      · simp only [Option.some.injEq] at h
        subst h
        exact ⟨some (i, e.val), by simp [Instr.findAsking, hs], 0, e, rfl, rfl, rfl, q2, q3⟩

theorem findKey_sound {kt : TypeId} {k : AV} {v : Value} (hv : VR E k v) (hk : keyFits P kt k = true) {es : List (AV × AV × Nat)} {vs : List MapEntry} {r : Option (Nat × AV × Nat)}
    (h : afind P kt k es 0 = some r) (he : ERs E es vs) : ∃ r', (Instr.findKey kt v vs).run P w = .ok r' w ∧ FindR E vs 0 r r' := by
  by_cases hp : plainT P kt = true
  · obtain ⟨d, r', h1, h2, h3⟩ := findNow_sound hv hp es vs 0 r h he
    exact ⟨r', by simp [Instr.findKey, und_sound h1, h2], h3⟩
  · unfold keyFits at hk
    split at hk
    · rename_i hu; simp [plainT, hu] at hp
    · rename_i hu; simp [plainT, hu] at hp
    · rename_i hu; simp [plainT, hu] at hp
    · rename_i fs cs hu
      obtain ⟨r', h1, h2⟩ := findAsk_sound (w := w) hv es vs 0 r h he
      cases vs with
      | nil =>
        have : r' = none := by
          have : (Instr.findAsking kt v [] 0).run P w = .ok none w := rfl
          rw [this] at h1; cases h1; rfl
        subst this
        exact ⟨none, by simp [Instr.findKey, und_sound hu, Instr.findNow], h2⟩
      | cons e vs =>
        simp only [VR] at hv
        obtain ⟨c, rfl, _⟩ := hv
        exact ⟨r', by simp [Instr.findKey, und_sound hu, Instr.findNow, Instr.sameNow, h1], h2⟩
    · cases hk

theorem run_getObj' {b : Nat} {es : Array MapEntry} {c : Nat} (h : w.heap[b]? = some (.map es c)) : (getObj b).run P w = .ok (.map es c) w := by
  simp [getObj, Sem.run, h]

theorem lookup_sound {t : TypeId} {x k a : AV} {ok : Bool} {u v : Value} (h : alookup P H t x k ok = some a) (hr : HR E H w) (hx : VR E x u) (hk : VR E k v) : ∃ r, (Instr.lookup t u v ok).run P w = .ok r w ∧ VR E a r := by
  unfold alookup at h
  split at h <;> (try (cases h; done))
  rename_i kt e hu
  split at h <;> (try (cases h; done))
  rename_i hkf
  split at h <;> (try (cases h; done))
  rename_i z es hz hes
  obtain ⟨zv, z1, z2, _⟩ := zeroV_sound (E := E) hz w
  have hmap : ∃ arr : Array MapEntry, ((u = .map none ∧ arr = #[]) ∨ ∃ b clock, u = .map (some b) ∧ (getObj b).run P w = .ok (.map arr clock) w) ∧ ERs E es arr.toList := by
    split at hes
    · simp only [Option.some.injEq] at hes; subst hes
      simp only [VR] at hx; subst hx
      exact ⟨#[], .inl ⟨rfl, rfl⟩, by simp [ERs]⟩
    · rename_i id
      split at hes <;> (try (cases hes; done))
      rename_i es' clock hg
      simp only [Option.some.injEq] at hes; subst hes
      simp only [VR] at hx
      obtain ⟨b, s, n, hi, rfl⟩ := hx
      obtain ⟨arr, h1, h2⟩ := hr.blk hg hi
      exact ⟨arr, .inr ⟨b, clock, rfl, run_getObj' h1⟩, h2⟩
    · cases hes
  obtain ⟨arr, m1, m2⟩ := hmap
  have hck := checkKey_sound (P := P) (w := w) 9998 arr.isEmpty hkf hk
  split at h
  · rename_i i y born hf
    obtain ⟨r', f1, f2⟩ := findKey_sound (w := w) hk hkf hf m2
    obtain ⟨j, en, _, e2, e3, e4, _⟩ := f2
    subst e2
    simp only [Option.some.injEq] at h
    subst h
    refine ⟨if ok then .tuple #[en.val, .bool true] else en.val, ?_, ?_⟩
    · rcases m1 with ⟨rfl, rfl⟩ | ⟨b, clock, rfl, m1⟩
      · simp only [Instr.lookup, Sem.run_bind, und_sound hu, Result.andThen_ok, hck, f1, Sem.run_pure]
      · simp only [Instr.lookup, Sem.run_bind, und_sound hu, Result.andThen_ok, m1, hck, f1, Sem.run_pure]
    · cases ok
      · simpa using e4
      · simp only [if_true, VR, VRs]; exact ⟨_, rfl, en.val, [.bool true], rfl, e4, .bool true, [], rfl, rfl, rfl⟩
  · rename_i hf
    obtain ⟨r', f1, f2⟩ := findKey_sound (w := w) hk hkf hf m2
    simp only [FindR] at f2
    subst f2
    simp only [Option.some.injEq] at h
    subst h
    refine ⟨if ok then .tuple #[zv, .bool false] else zv, ?_, ?_⟩
    · rcases m1 with ⟨rfl, rfl⟩ | ⟨b, clock, rfl, m1⟩
      · simp only [Instr.lookup, Sem.run_bind, und_sound hu, Result.andThen_ok, hck, f1, z1, Sem.run_pure]
      · simp only [Instr.lookup, Sem.run_bind, und_sound hu, Result.andThen_ok, m1, hck, f1, z1, Sem.run_pure]
    · cases ok
      · simpa using z2
      · simp only [if_true, VR, VRs]; exact ⟨_, rfl, zv, [.bool false], rfl, z2, .bool false, [], rfl, rfl, rfl⟩
  · cases h

theorem aSame_sound : ∀ (n m : Nat) (a b : AV) (u v : Value), n ≤ m → aSame n a b = true → VR E a u → VR E b v → Instr.sameBits m u v = true := by
  intro n
  induction n with
  | zero =>
    intro m a b u v _ h hu hv
    cases a <;> cases b <;> (try (simp only [aSame, Bool.false_eq_true] at h; done)) <;> simp only [aSame, VR] at h hu hv <;> subst hu hv <;> cases m <;> simpa [Instr.sameBits, bytes_beq] using h
  | succ n ih =>
    intro m a b u v hle h hu hv
    cases a <;> cases b <;> (try (simp only [aSame, Bool.false_eq_true] at h; done))
    case agg.agg a b =>
      obtain ⟨m, rfl⟩ : ∃ e, m = e + 1 := ⟨m - 1, by omega⟩
      simp only [VR] at hu hv
      obtain ⟨x, rfl, hx⟩ := hu
      obtain ⟨y, rfl, hy⟩ := hv
      simp only [aSame, Bool.and_eq_true, beq_iff_eq] at h
      have l1 := hx.length
      have l2 := hy.length
      simp only [Array.length_toList] at l1 l2
      simp only [Instr.sameBits, Bool.and_eq_true, beq_iff_eq]
      refine ⟨by omega, ?_⟩
      rw [List.all_eq_true]
      intro p hp
      obtain ⟨j, hj, rfl⟩ := List.mem_iff_getElem.1 hp
      simp only [List.length_zip, Array.length_toList] at hj
      rw [List.getElem_zip]
      obtain ⟨u, q1, q2⟩ := hx.get j (a[j]'(by omega)) (List.getElem?_eq_getElem _)
      obtain ⟨v, r1, r2⟩ := hy.get j (b[j]'(by omega)) (List.getElem?_eq_getElem _)
      rw [List.getElem?_eq_getElem (by simp; omega)] at q1 r1
      simp only [Option.some.injEq] at q1 r1
      have hall := List.all_eq_true.1 h.2 (a[j]'(by omega), b[j]'(by omega)) (by
        rw [List.mem_iff_getElem]; exact ⟨j, by simp; omega, by simp⟩)
      simp only
      rw [q1, r1]
      exact ih m _ _ _ _ (by omega) hall q2 r2
    all_goals (simp only [aSame, VR] at h hu hv; subst hu hv; cases m <;> simpa [Instr.sameBits, bytes_beq] using h)

theorem keyStays {es : List (AV × AV × Nat)} {arr : Array MapEntry} (he : ERs E es arr.toList) {i : Nat} {k : AV} {v : Value} (h : sameKey es i k = true) (hk : VR E k v) :
    (Instr.keyThatStays (((arr[i]?).map (·.key)).getD v) v).run P w = .ok v w := by
  unfold sameKey at h
  split at h
  · rename_i k' x n hi
    obtain ⟨e, h1, h2, _⟩ := he.get i _ _ _ hi
    rw [Array.getElem?_toList] at h1
    have := aSame_sound 9 10000 _ _ _ _ (by omega) h h2 hk
    simp [Instr.keyThatStays, h1, this]
  · cases h

theorem run_setObj {b : Nat} {o : Obj} (hb : ∃ es c, w.heap[b]? = some (.map es c)) : (setObj b o).run P w = .ok () { w with heap := w.heap.setIfInBounds b o } := by
  obtain ⟨es, c, h⟩ := hb
  simp [setObj, Sem.run, h]

theorem turn_obj {id b s n : Nat} {x y : Blk} {o : Obj} (hr : HR E H w) (hg : H.get id = some x) (hi : E.ι id = some (b, s, n)) (hy : ∀ w' : World, w'.heap[b]? = some o → BR E w' b s n y) :
    HR E (H.put id y) { w with heap := w.heap.setIfInBounds b o } ∧ Ext E w E { w with heap := w.heap.setIfInBounds b o } := by
  have hlt := hr.bnd _ _ _ hi
  refine hr.turn hg hi (by simp) (fun b' hb' => ?_) (hy _ ?_) rfl rfl rfl
  · simp only [Array.getElem?_setIfInBounds]; rw [if_neg (fun e => hb' e.symm)]
  · simp only [Array.getElem?_setIfInBounds_self]; rw [if_pos hlt]

theorem update_sound {t : TypeId} {m k x : AV} {u v z : Value} {H' : AH} (h : aupdate P H t m k x = some H') (hr : HR E H w) (hm : VR E m u) (hk : VR E k v) (hx : VR E x z) :
    ∃ w', (Instr.mapUpdate t u v z).run P w = .ok () w' ∧ HR E H' w' ∧ Ext E w E w' := by
  unfold aupdate at h
  split at h <;> (try (cases h; done))
  rename_i kt e id hu
  split at h <;> (try (cases h; done))
  rename_i hkf
  split at h <;> (try (cases h; done))
  rename_i es clock hg
  simp only [VR] at hm
  obtain ⟨b, s, n, hi, rfl⟩ := hm
  obtain ⟨arr, h1, h2⟩ := hr.blk hg hi
  have hck := checkKey_sound (P := P) (w := w) 9998 false hkf hk
  have hget : (getObj b).run P w = .ok (.map arr clock) w := by simp [getObj, Sem.run, h1]
  split at h
  · rename_i i y born hf
    split at h <;> (try (cases h; done))
    rename_i hsk
    simp only [Option.some.injEq] at h
    subst h
    obtain ⟨r', f1, f2⟩ := findKey_sound (w := w) hk hkf hf h2
    obtain ⟨j, en, e1, e2, e3, e4, _⟩ := f2
    subst e2
    obtain ⟨q1, q2⟩ := turn_obj (y := .map (modAt es i k x) clock) (o := .map (arr.modify i fun e => { e with key := v, val := z }) clock) hr hg hi (fun w' hw' => ⟨_, hw', by
      rw [Array.toList_modify]
      exact h2.modify i (fun e _ => ⟨hk, hx, rfl⟩)⟩)
    refine ⟨_, ?_, q1, q2⟩
    simp only [Instr.mapUpdate, Sem.run_bind, und_sound hu, Result.andThen_ok, hget, hck, f1, keyStays h2 hsk hk, run_setObj ⟨_, _, h1⟩]
  · rename_i hf
    simp only [Option.some.injEq] at h
    subst h
    obtain ⟨r', f1, f2⟩ := findKey_sound (w := w) hk hkf hf h2
    simp only [FindR] at f2
    subst f2
    obtain ⟨q1, q2⟩ := turn_obj (y := .map (es ++ [(k, x, clock)]) (clock + 1)) (o := .map (arr.push { key := v, val := z, born := clock }) (clock + 1)) hr hg hi (fun w' hw' => ⟨_, hw', by
      rw [Array.toList_push]
      exact h2.snoc hk hx rfl⟩)
    refine ⟨_, ?_, q1, q2⟩
    simp only [Instr.mapUpdate, Sem.run_bind, und_sound hu, Result.andThen_ok, hget, hck, f1, run_setObj ⟨_, _, h1⟩]
  · cases h

theorem entry_sound {t : TypeId} {m k a : AV} {u v : Value} {H' : AH} (h : aentry P H t m k = some (a, H')) (hr : HR E H w) (hm : VR E m u) (hk : VR E k v) : Gives P E w (Instr.mapEntry t u v) a H' := by
  unfold aentry at h
  split at h <;> (try (cases h; done))
  rename_i kt e id hu
  split at h <;> (try (cases h; done))
  rename_i hkf
  split at h <;> (try (cases h; done))
  rename_i es clock z hg hz
  obtain ⟨zv, z1, z2, _⟩ := zeroV_sound (E := E) hz w
  simp only [VR] at hm
  obtain ⟨b, s, n, hi, rfl⟩ := hm
  obtain ⟨arr, h1, h2⟩ := hr.blk hg hi
  have hck := checkKey_sound (P := P) (w := w) 9998 false hkf hk
  have hget : (getObj b).run P w = .ok (.map arr clock) w := by simp [getObj, Sem.run, h1]
  split at h
  · rename_i i y born hf
    split at h <;> (try (cases h; done))
    rename_i hsk
    simp only [Option.some.injEq, Prod.mk.injEq] at h
    obtain ⟨rfl, rfl⟩ := h
    obtain ⟨r', f1, f2⟩ := findKey_sound (w := w) hk hkf hf h2
    obtain ⟨j, en, e1, e2, e3, e4, e5⟩ := f2
    subst e2
    have hij : i = j := by omega
    rw [Array.getElem?_toList] at e3
    obtain ⟨q1, q2⟩ := turn_obj (y := .map (modAt es i k y) clock) (o := .map (arr.modify i fun e => { e with key := v }) clock) hr hg hi (fun w' hw' => ⟨_, hw', by
      rw [Array.toList_modify]
      refine h2.modify i (fun e he => ⟨hk, ?_, rfl⟩)
      rw [Array.getElem?_toList, hij, e3] at he
      cases he
      exact e4⟩)
    refine ⟨E, .tuple #[en.val, goInt born], _, ?_, q1, q2, ?_⟩
    · simp only [Instr.mapEntry, Sem.run_bind, und_sound hu, Result.andThen_ok, hget, hck, f1, keyStays h2 hsk hk, run_setObj ⟨_, _, h1⟩, Sem.run_pure]
      rw [hij, e3]
      simp [e5]
    · simp only [VR, VRs]; exact ⟨_, rfl, en.val, [goInt born], rfl, e4, goInt born, [], rfl, rfl, rfl⟩
  · rename_i hf
    simp only [Option.some.injEq, Prod.mk.injEq] at h
    obtain ⟨rfl, rfl⟩ := h
    obtain ⟨r', f1, f2⟩ := findKey_sound (w := w) hk hkf hf h2
    simp only [FindR] at f2
    subst f2
    obtain ⟨q1, q2⟩ := turn_obj (y := .map (es ++ [(k, z, clock)]) (clock + 1)) (o := .map (arr.push { key := v, val := zv, born := clock }) (clock + 1)) hr hg hi (fun w' hw' => ⟨_, hw', by
      rw [Array.toList_push]
      exact h2.snoc hk z2 rfl⟩)
    refine ⟨E, .tuple #[zv, goInt clock], _, ?_, q1, q2, ?_⟩
    · simp only [Instr.mapEntry, Sem.run_bind, und_sound hu, Result.andThen_ok, hget, hck, f1, z1, run_setObj ⟨_, _, h1⟩, Sem.run_pure]
    · simp only [VR, VRs]; exact ⟨_, rfl, zv, [goInt clock], rfl, z2, goInt clock, [], rfl, rfl, rfl⟩
  · cases h

theorem storeBorn_sound {x : AV} {z : Value} (hx : VR E x z) {born : Int} : ∀ (es es' : List (AV × AV × Nat)) (vs : List MapEntry), storeBorn es born x = some es' → ERs E es vs →
    ∃ i, vs.findIdx? (fun e => (e.born : Int) == born) = some i ∧ ERs E es' (vs.modify i fun e => { e with val := z })
  | [], _, _, h, _ => by simp [storeBorn] at h
  | (k, y, n) :: es, es', vs, h, he => by
    simp only [ERs] at he
    obtain ⟨e, rest, rfl, q1, q2, q3, q4⟩ := he
    simp only [storeBorn] at h
    split at h
    · rename_i hb
      simp only [Option.some.injEq] at h; subst h
      refine ⟨0, by simp [List.findIdx?_cons, q3, hb], ?_⟩
      simp only [List.modify_zero_cons, ERs]
      exact ⟨_, rest, rfl, q1, hx, q3, q4⟩
    · rename_i hb
      split at h
      · rename_i es1 hs
        simp only [Option.some.injEq] at h; subst h
        obtain ⟨i, i1, i2⟩ := storeBorn_sound hx es es1 rest hs q4
        refine ⟨i + 1, by simp [List.findIdx?_cons, q3, hb, i1], ?_⟩
        simp only [List.modify_succ_cons, ERs]
        exact ⟨e, _, rfl, q1, q2, q3, i2⟩
      · cases h

theorem entryStore_sound {t : TypeId} {m s x : AV} {u v z : Value} {H' : AH} (h : aentryStore H m s x = some H') (hr : HR E H w) (hm : VR E m u) (hs : VR E s v) (hx : VR E x z) :
    ∃ w', (Instr.entryStore t u v z).run P w = .ok () w' ∧ HR E H' w' ∧ Ext E w E w' := by
  unfold aentryStore at h
  split at h <;> (try (cases h; done))
  rename_i id kk born
  split at h <;> (try (cases h; done))
  rename_i es clock hg
  split at h <;> (try (cases h; done))
  rename_i es' hb
  simp only [Option.some.injEq] at h; subst h
  simp only [VR] at hm hs
  subst hs
  obtain ⟨b, s', n, hi, rfl⟩ := hm
  obtain ⟨arr, h1, h2⟩ := hr.blk hg hi
  obtain ⟨i, i1, i2⟩ := storeBorn_sound hx es es' arr.toList hb h2
  have hget : (getObj b).run P w = .ok (.map arr clock) w := by simp [getObj, Sem.run, h1]
  obtain ⟨q1, q2⟩ := turn_obj (y := .map es' clock) (o := .map (arr.modify i fun e => { e with val := z }) clock) hr hg hi (fun w' hw' => ⟨_, hw', by
    rw [Array.toList_modify]; exact i2⟩)
  have hfi : arr.findIdx? (fun e => (e.born : Int) == born) = some i := by
    rw [← List.findIdx?_toArray, Array.toArray_toList] at i1; exact i1
  refine ⟨_, ?_, q1, q2⟩
  simp only [Instr.entryStore, Sem.run_bind, Result.andThen_ok, hget, asInt, asIntOf, Sem.run_pure, hfi, run_setObj ⟨_, _, h1⟩]
end
end Go.Am

namespace Go.Am
section
variable {P : Program} {E : Env} {H : AH} {w : World}

theorem info_sound {t : TypeId} {i : TypeInfo} (h : P.info? t = some i) (w : World) : (typeInfo t).run P w = .ok i w := by simp [typeInfo, h]

theorem pair_VR {v : Value} {a : AV} (h : VR E a v) (b : Bool) : VR E (.tup [a, .b b]) (.tuple #[v, .bool b]) := by
  simp only [VR, VRs]; exact ⟨_, rfl, v, [.bool b], rfl, h, .bool b, [], rfl, rfl, rfl⟩

theorem holds_sound {v : Value} {a r : AV} {ok : Bool} (h : VR E a v) (hr : (if ok then AV.tup [a, .b true] else a) = r) : VR E r (if ok then .tuple #[v, .bool true] else v) := by
  subst hr; cases ok
  · simpa using h
  · simpa using pair_VR h true

theorem assert_other {asserted : TypeId} {d : TypeDesc} (hu : P.underlying asserted = some d) (hd : ∀ ms, d ≠ .interface ms) (t xt : TypeId) (y : Value) (ok : Bool) {z : Value} (hz : ok = true → t ≠ asserted → (zeroValue asserted).run P w = .ok z w) :
    (t = asserted → (Instr.typeAssert (.iface t y) xt asserted ok).run P w = .ok (if ok then .tuple #[y, .bool true] else y) w) ∧
    (t ≠ asserted → ok = true → (Instr.typeAssert (.iface t y) xt asserted ok).run P w = .ok (.tuple #[z, .bool false]) w) := by
  constructor
  · intro ht
    cases d <;> first | exact absurd rfl (hd _) | simp [Instr.typeAssert, und_sound hu, ht]
  · intro ht hok
    subst hok
    have hz := hz rfl ht
    cases d <;> first | exact absurd rfl (hd _) | simp [Instr.typeAssert, und_sound hu, ht, hz]

theorem assert_nil {asserted : TypeId} {d : TypeDesc} (hu : P.underlying asserted = some d) (xt : TypeId) {z : Value} (hz : (zeroValue asserted).run P w = .ok z w) :
    (Instr.typeAssert .nilIface xt asserted true).run P w = .ok (.tuple #[z, .bool false]) w := by
  cases d <;> simp [Instr.typeAssert, und_sound hu, hz]

theorem assert_sound {x a : AV} {t xt : TypeId} {ok : Bool} {u : Value} (h : atypeAssert P x t ok = some a) (hx : VR E x u) : ∃ r, (Instr.typeAssert u xt t ok).run P w = .ok r w ∧ VR E a r := by
  unfold atypeAssert at h
  split at h
  · rename_i want t' v hu
    simp only [VR] at hx
    obtain ⟨y, rfl, hy⟩ := hx
    split at h <;> (try (cases h; done))
    rename_i i hi
    split at h
    · rename_i hm
      refine ⟨if ok then .tuple #[.iface t' y, .bool true] else .iface t' y, ?_, holds_sound (a := .ifc t' v) (by simp only [VR]; exact ⟨y, rfl, hy⟩) (by simpa using h)⟩
      simp [Instr.typeAssert, und_sound hu, info_sound hi, hm]
    · rename_i m hm
      split at h <;> (try (cases h; done))
      rename_i hok
      split at h <;> (try (cases h; done))
      rename_i z hz
      obtain ⟨zv, z1, z2, _⟩ := zeroV_sound (E := E) hz w
      simp only [Option.some.injEq] at h; subst h
      refine ⟨.tuple #[zv, .bool false], ?_, pair_VR z2 false⟩
      simp [Instr.typeAssert, und_sound hu, info_sound hi, hm, hok, z1]
  · rename_i hu
    simp only [VR] at hx; subst hx
    split at h <;> (try (cases h; done))
    rename_i hok; subst hok
    split at h <;> (try (cases h; done))
    rename_i z hz
    obtain ⟨zv, z1, z2, _⟩ := zeroV_sound (E := E) hz w
    simp only [Option.some.injEq] at h; subst h
    exact ⟨_, assert_nil hu xt z1, pair_VR z2 false⟩
  · rename_i d t' v hn hu
    have hd : ∀ ms, d ≠ .interface ms := fun ms e => by subst e; exact hn _ rfl
    simp only [VR] at hx
    obtain ⟨y, rfl, hy⟩ := hx
    split at h
    · rename_i ht
      exact ⟨_, (assert_other (z := default) hu hd t' xt y ok (fun _ hne => absurd ht hne)).1 ht, holds_sound hy (by simpa using h)⟩
    · rename_i ht
      split at h <;> (try (cases h; done))
      rename_i hok
      split at h <;> (try (cases h; done))
      rename_i z hz
      obtain ⟨zv, z1, z2, _⟩ := zeroV_sound (E := E) hz w
      simp only [Option.some.injEq] at h; subst h
      exact ⟨_, (assert_other hu hd t' xt y ok (fun _ _ => z1)).2 ht hok, pair_VR z2 false⟩
  · rename_i d hn hu
    simp only [VR] at hx; subst hx
    split at h <;> (try (cases h; done))
    rename_i hok; subst hok
    split at h <;> (try (cases h; done))
    rename_i z hz
    obtain ⟨zv, z1, z2, _⟩ := zeroV_sound (E := E) hz w
    simp only [Option.some.injEq] at h; subst h
    exact ⟨_, assert_nil hu xt z1, pair_VR z2 false⟩
  · cases h

theorem wrap64 (n : Nat) (h : n < 2 ^ 63) : IntKind.i64.wrap (n : Int) = n := by
  simp only [IntKind.wrap, IntKind.bits, IntKind.signed]
  simp
  omega

theorem makeSlice_sound {t e : TypeId} {st ln cn : Nat} {z : List AV} {inf : TypeInfo} (hu : P.underlying t = some (.slice e)) (hst : szT P e = some st) (hz : zeroT P e = some z) (hi : P.info? e = some inf)
    (hle : ln ≤ cn) (hb : inf.bytes * cn ≤ 2 ^ 48) (hc : cn ≤ 2 ^ 48) (h0 : 0 < st) (hzl : z.length = st) :
    Fresh P E w (Instr.makeSlice t (.int .i64 ln) (.int .i64 cn)) (.sl ln st) (.cells e (repCells z cn) 0 true) := by
  obtain ⟨zv, z1, z2, _⟩ := zeroT_sound (E := E) hz w
  have hrep := rep_sound z2 cn st hzl h0
  refine ⟨_, cn * st, .slice (some ⟨w.heap.size, 0, none⟩) ln cn, ?_, fun id hid => ⟨newRow_br' hrep (by simp) id hid, ?_⟩⟩
  · have w1 := wrap64 ln (by omega)
    have w2 := wrap64 cn (by omega)
    have hb' : ¬ ((inf.bytes : Int) * (cn : Int) > 2 ^ 48) := by
      have e1 : (inf.bytes : Int) * (cn : Int) ≤ ((2 ^ 48 : Nat) : Int) := by rw [← Int.natCast_mul]; exact Int.ofNat_le.2 hb
      have e2 : ((2 : Int) ^ 48) = ((2 ^ 48 : Nat) : Int) := rfl
      rw [e2]
      exact Int.not_lt.2 e1
    have hneg : ¬ ((cn : Int) < 0) := by omega
    have hneg' : ¬ ((ln : Int) < 0) := by omega
    have hgt : ¬ ((ln : Int) > (cn : Int)) := by omega
    simp only [Instr.makeSlice, Sem.run_bind, und_sound hu, Result.andThen_ok, asInt, asIntOf, Sem.run_pure, info_sound hi, w1, w2]
    simp only [hneg, hb', hneg', hgt, decide_false, Bool.or_false, Bool.false_eq_true, if_false, Sem.run_bind, run_askRoom, Result.andThen_ok, Int.toNat_natCast, szT_sound hst]
    by_cases hn : cn * st = 0
    · rw [if_pos hn]
      have : cn = 0 := by
        rcases Nat.mul_eq_zero.1 hn with h | h
        · exact h
        · omega
      subst this
      have e0 : ∀ (f : Nat → Value), Array.map f (Array.range (0 * st)) = #[] := fun f => Array.eq_empty_of_size_eq_zero (by simp)
      simp only [Sem.run_bind, Sem.run_pure, Result.andThen_ok, newRow, run_newObj, e0]
      rfl
    · rw [if_neg hn]
      simp only [Sem.run_bind, z1, Sem.run_pure, Result.andThen_ok, newRow, run_newObj]
      rfl
  · simp only [VR, FK.mk]
    exact ⟨_, _, _, _, _, Env.add_same, rfl, hle, by omega, fun _ => rfl⟩

theorem makeMap_sound {t kt e : TypeId} (_hu : P.underlying t = some (.map kt e)) : Fresh P E w (Instr.makeMap t none) .mp (.map [] 0) := by
  refine ⟨.map #[] 0, 0, .map (some w.heap.size), ?_, fun id hid => ⟨⟨#[], heap_alloc_new, by simp [ERs]⟩, ?_⟩⟩
  · simp [Instr.makeMap]
  · simp only [VR, FK.mk]; exact ⟨_, _, _, Env.add_same, rfl⟩

theorem range_sound {t : TypeId} {s : List UInt8} {u : Value} (hu : P.underlying t = some .string) (hx : VR E (.str s) u) (hr : HR E H w) : Gives P E w (Instr.range t u) (.ptr H.nxt 0) (H.new (.siter s 0)) := by
  simp only [VR] at hx; subst hx
  obtain ⟨r1, r2⟩ := hr.alloc (.stringIter ⟨⟨s⟩⟩ 0) (.siter s 0) 0 ⟨rfl, heap_alloc_new⟩
  refine ⟨_, .pointer (some ⟨w.heap.size, 0, none⟩), _, ?_, r1, r2, ?_⟩
  · simp [Instr.range, und_sound hu]
  · simp only [VR]; exact ⟨_, _, _, Env.add_same, rfl⟩

theorem next_sound {id : Nat} {u : Value} {s : List UInt8} {pos : Nat} {ty : TypeId} (hx : VR E (.ptr id 0) u) (hg : H.get id = some (.siter s pos)) (hr : HR E H w) :
    Gives P E w (Instr.next u true ty) (if pos < s.length then (.tup [.b true, .i .i64 pos, .i .i32 (Utf8.decode ⟨⟨s⟩⟩ pos).1]) else .tup [.b false])
      (if pos < s.length then H.put id (.siter s (pos + (Utf8.decode ⟨⟨s⟩⟩ pos).2)) else H) := by
  simp only [VR] at hx
  obtain ⟨b, s0, n, hi, rfl⟩ := hx
  obtain ⟨rfl, hb⟩ := hr.blk hg hi
  have hget : (getObj b).run P w = .ok (.stringIter ⟨⟨s⟩⟩ pos) w := by simp [getObj, Sem.run, hb]
  by_cases hp : pos < s.length
  · rw [if_pos hp, if_pos hp]
    obtain ⟨q1, q2⟩ := turn_obj (y := .siter s (pos + (Utf8.decode ⟨⟨s⟩⟩ pos).2)) (o := .stringIter ⟨⟨s⟩⟩ (pos + (Utf8.decode ⟨⟨s⟩⟩ pos).2)) hr hg hi (fun w' hw' => ⟨rfl, hw'⟩)
    have hset : (setObj b (.stringIter ⟨⟨s⟩⟩ (pos + (Utf8.decode ⟨⟨s⟩⟩ pos).2))).run P w = .ok () { w with heap := w.heap.setIfInBounds b (.stringIter ⟨⟨s⟩⟩ (pos + (Utf8.decode ⟨⟨s⟩⟩ pos).2)) } := by simp [setObj, Sem.run, hb]
    have hp' : pos < (⟨⟨s⟩⟩ : ByteArray).size := hp
    refine ⟨E, .tuple #[.bool true, goInt pos, .int .i32 (Utf8.decode ⟨⟨s⟩⟩ pos).1], _, ?_, q1, q2, ?_⟩
    · simp only [Instr.next, Nat.zero_add, Sem.run_bind, hget, Result.andThen_ok, hp', if_true, hset, Sem.run_pure]
    · simp only [VR, VRs]; exact ⟨_, rfl, _, _, rfl, rfl, _, _, rfl, rfl, _, _, rfl, rfl, rfl⟩
  · rw [if_neg hp, if_neg hp]
    have hp' : ¬ pos < (⟨⟨s⟩⟩ : ByteArray).size := hp
    refine ⟨E, .tuple #[.bool false], w, ?_, hr, .refl E w, ?_⟩
    · simp only [Instr.next, Nat.zero_add, Sem.run_bind, hget, Result.andThen_ok, hp', if_false, Sem.run_pure]
    · simp only [VR, VRs]; exact ⟨_, rfl, _, _, rfl, rfl, rfl⟩
end
end Go.Am

namespace Go.Am
section
variable {P : Program} {E : Env} {H : AH} {w : World}

/-- a row of cells that is read -/
theorem row_read {id off m b s n : Nat} {t : TypeId} {cs : List AV} {frz : Nat} {cl : Bool} (hr : HR E H w) (hg : H.get id = some (.cells t cs frz cl)) (hi : E.ι id = some (b, s, n)) (hle : off + m ≤ cs.length) :
    ∃ vs : List Value, vs.length = m ∧ VRs E ((cs.drop off).take m) vs ∧ ∀ j v, vs[j]? = some v → w.cell? ((⟨b, s + off, none⟩ : Addr).add j) = some v := by
  obtain ⟨c, fz, h1, h2, h3, h4, h5, h6⟩ := hr.blk hg hi
  refine ⟨(c.toList.drop (s + off)).take m, by simp; omega, VRs.mk (by simp; omega) (fun j a v ha hv => ?_), fun j v hv => ?_⟩
  · simp only [List.getElem?_take, List.getElem?_drop] at ha hv
    split at ha
    · rename_i hj
      rw [if_pos hj, Array.getElem?_toList] at hv
      obtain ⟨v', k1, k2⟩ := h6 (off + j) a ha
      rw [← Nat.add_assoc, hv] at k1
      cases k1
      exact k2
    · cases ha
  · simp only [List.getElem?_take, List.getElem?_drop] at hv
    split at hv
    · rw [addr_add, cell?_of h1]; rw [Array.getElem?_toList] at hv; exact hv
    · cases hv

theorem firstCells_sound {st n : Nat} {x : AV} {u : Value} {cs : List AV} (h : firstCells H st x n = some cs) (hr : HR E H w) (hx : VR E x u) :
    ∃ vs : List Value, (Builtin.firstCells st n u).run P w = .ok vs.toArray w ∧ VRs E cs vs := by
  unfold firstCells at h
  split at h
  · simp only [Option.some.injEq] at h; subst h
    simp only [VR] at hx; subst hx
    exact ⟨[], by simp [Builtin.firstCells], by simp [VRs]⟩
  · simp only [Option.some.injEq] at h; subst h
    simp only [VR] at hx; obtain ⟨a, rfl⟩ := hx
    exact ⟨[], by cases a <;> simp [Builtin.firstCells, loadCells, loadCellsFrom], by simp [VRs]⟩
  · rename_i id off len st' n
    split at h <;> (try (cases h; done))
    rename_i hc
    obtain ⟨rfl, hn⟩ := hc
    split at h <;> (try (cases h; done))
    rename_i t cs' frz cl hg
    split at h <;> (try (cases h; done))
    rename_i hle
    simp only [Option.some.injEq] at h; subst h
    simp only [VR] at hx
    obtain ⟨b, s, nn, cap, x, hi, rfl, h1, h2, h3⟩ := hx
    obtain ⟨vs, v1, v2, v3⟩ := row_read hr hg hi hle
    by_cases hcap : cap = 0
    · have hn0 : n = 0 := by omega
      subst hn0
      have : vs = [] := List.eq_nil_of_length_eq_zero (by rw [v1]; simp)
      subst this
      exact ⟨[], run_firstCells_some w st 0 x len cap [] (by simp) (by simp), v2⟩
    · rw [h3 hcap]
      exact ⟨vs, run_firstCells_some w st n _ len cap vs v1 v3, v2⟩
  · rename_i cs' len
    split at h <;> (try (cases h; done))
    rename_i hc
    simp only [Option.some.injEq] at h; subst h
    simp only [VR] at hx
    rcases hx with ⟨rfl, rfl, a, cap, rfl⟩ | ⟨b, o, cap, vs, rfl, hcap, hv, hI⟩
    · have hn0 : n = 0 := by omega
      subst hn0
      exact ⟨[], by cases a <;> simp [Builtin.firstCells, loadCells, loadCellsFrom], by simp [VRs]⟩
    · have hl := hv.length
      refine ⟨vs.take (n * st), run_firstCells_some w st n _ len cap _ (by simp; omega) (fun j v hj => ?_), hv.take _⟩
      rw [List.getElem?_take] at hj
      split at hj
      · rw [addr_add]; exact hr.imm _ _ _ (hI j v hj)
      · cases hj
  · rename_i s
    split at h <;> (try (cases h; done))
    rename_i hc
    obtain ⟨hn, rfl⟩ := hc
    simp only [Option.some.injEq] at h; subst h
    simp only [VR] at hx; subst hx
    refine ⟨(s.take n).map fun b => .int .u8 b.toNat, ?_, VRs.mk (by simp) (fun j a v ha hv => ?_)⟩
    · simp [Builtin.firstCells, ByteArray.data_extract, List.extract_eq_take_drop]
    · simp only [List.getElem?_map, Option.map_eq_some_iff] at ha hv
      obtain ⟨b, hb, rfl⟩ := ha
      obtain ⟨b', hb', rfl⟩ := hv
      rw [hb] at hb'; cases hb'
      simp [VR]
  · cases h

theorem alen_sound {x : AV} {u : Value} {n : Nat} (h : alen x = some n) (hx : VR E x u) : (Builtin.lenOf u).run P w = .ok n w ∧ ((∀ s, x ≠ .str s) → ∃ a c, u = .slice a n c) := by
  unfold alen at h
  split at h <;> (try (cases h; done)) <;> simp only [Option.some.injEq] at h <;> subst h <;> simp only [VR] at hx
  · subst hx; exact ⟨rfl, fun h => absurd rfl (h _)⟩
  · subst hx; exact ⟨rfl, fun _ => ⟨_, _, rfl⟩⟩
  · obtain ⟨a, rfl⟩ := hx; exact ⟨rfl, fun _ => ⟨_, _, rfl⟩⟩
  · obtain ⟨_, _, _, _, _, _, rfl, _⟩ := hx; exact ⟨rfl, fun _ => ⟨_, _, rfl⟩⟩
  · rcases hx with ⟨_, rfl, _, _, rfl⟩ | ⟨_, _, _, _, rfl, _⟩ <;> exact ⟨rfl, fun _ => ⟨_, _, rfl⟩⟩

/-- A NEW ROW of cells, said to be less than it is. -/
theorem newRow_less {t : TypeId} {cs : List AV} {vs : List Value} (hr : HR E H w) (hc : VRs E cs vs) {m frz : Nat} {cl : Bool} (extra : List Value) (hm : vs.length + extra.length = m) :
    HR (E.add H.nxt (w.heap.size, 0, m)) (H.new (.cells t cs frz cl)) (w.alloc (.cells (vs ++ extra).toArray t)) ∧ Ext E w (E.add H.nxt (w.heap.size, 0, m)) (w.alloc (.cells (vs ++ extra).toArray t)) := by
  refine hr.alloc _ _ m ⟨(vs ++ extra).toArray, (0, 0), heap_alloc_new, by simp; omega, by rw [hc.length]; omega, fun _ => ⟨rfl, .inl rfl⟩, fun k _ _ hk => by omega, fun j a ha => ?_⟩
  obtain ⟨v, h1, h2⟩ := hc.get j a ha
  refine ⟨v, ?_, VR.mono (Env.le_add hr.fresh) _ _ h2⟩
  have hj := (List.getElem?_eq_some_iff.1 h1).1
  rw [Nat.zero_add, List.getElem?_toArray, List.getElem?_append_left hj]
  exact h1

/-- THE RUN OF append, room -/
theorem append_room {t tx e : TypeId} {d : TypeDesc} {ty : TypeId} (hu : P.underlying t = some (.slice e)) (hux : P.underlying tx = some d) (hd : slStr d = true) {st : Nat} (hst : szT P e = some st)
    {base : Option Addr} {sLen cap n : Nat} {xv : Value} {new : List Value} (hn : (Builtin.lenOf xv).run P w = .ok n w) (hnew : (Builtin.firstCells st n xv).run P w = .ok new.toArray w) (hroom : sLen + n ≤ cap) :
    (Builtin.append_ #[t, tx] ty #[.slice base sLen cap, xv]).run P w = ((match base with | some a => storeCells (a.add (sLen * st)) new | none => pure ()).run P w).andThen fun _ w => .ok (.slice base (sLen + n) cap) w := by
  have hsz := szT_sound hst w
  cases base with
  | none => cases d <;> simp [slStr] at hd <;> simp [Builtin.append_, und_sound hu, und_sound hux, hsz, hn, hroom, hnew]
  | some a => cases d <;> simp [slStr] at hd <;> simp [Builtin.append_, und_sound hu, und_sound hux, hsz, hn, hroom, hnew]

theorem append_grow {t tx e : TypeId} {d : TypeDesc} {ty : TypeId} (hu : P.underlying t = some (.slice e)) (hux : P.underlying tx = some d) (hd : slStr d = true) {st : Nat} (hst : szT P e = some st) {inf : TypeInfo} (hi : P.info? e = some inf)
    {zv : Value} (hz : (zeroValue e).run P w.drew = .ok zv w.drew) {base : Option Addr} {sLen cap n : Nat} {xv : Value} {old new : List Value} (hn : (Builtin.lenOf xv).run P w = .ok n w) (hnew : (Builtin.firstCells st n xv).run P w.drew = .ok new.toArray w.drew)
    (hold : (Builtin.firstCells st sLen (.slice base sLen cap)).run P w.drew = .ok old.toArray w.drew) (hroom : cap < sLen + n) (h63 : sLen + n ≤ 2 ^ 48) (hb : 2 * (sLen + n) * inf.bytes ≤ 2 ^ 48) :
    (Builtin.append_ #[t, tx] ty #[.slice base sLen cap, xv]).run P w = .ok (.slice (some ⟨w.heap.size, 0, none⟩) (sLen + n) (grownCap w (sLen + n) cap e))
        (w.drew.alloc (.cells ((old ++ new) ++ (Builtin.zeroCells zv.cells (grownCap w (sLen + n) cap e - (sLen + n))).toList).toArray e)) := by
  have hsz := szT_sound hst w
  have hty := info_sound hi w
  have hty' := info_sound hi w.drew
  have hn' : ¬ (sLen + n ≤ cap) := by omega
  have h63' : ¬ (9223372036854775807 < ((sLen : Int) + (n : Int))) := by omega
  have h48 : ¬ (281474976710656 < Builtin.nextslicecap (sLen + n) cap * inf.bytes) := by
    have := Nat.mul_le_mul_right inf.bytes (nextslicecap_le hroom)
    omega
  have hsz' := szT_sound hst w.drew
  have key : (Builtin.append_ #[t, tx] ty #[.slice base sLen cap, xv]).run P w = .ok (.slice (some ⟨w.heap.size, 0, none⟩) (sLen + n) (grownCap w (sLen + n) cap e))
        (w.drew.alloc (.cells (old.toArray ++ new.toArray ++ (Builtin.zeroCells zv.cells (grownCap w (sLen + n) cap e - (sLen + n)))) e)) := by
    cases d <;> simp [slStr] at hd <;> simp [Builtin.append_, und_sound hu, und_sound hux, hsz, hty, hn, hn', h63', h48, Question.forced, hty', hold, hnew, hz, newRow, grownCap] <;> (congr 2; apply Array.ext'; simp)
  rw [key]
  congr 3
  apply Array.ext'
  simp
end
end Go.Am

namespace Go.Am
section
variable {P : Program} {E : Env} {H : AH} {w : World}

theorem setCells_nil (b o : Nat) (w : World) : w.setCells b o [] = w := rfl

theorem grownCap_ge' (w : World) (need old : Nat) (e : TypeId) : need ≤ grownCap w need old e := by
  simp only [grownCap, Question.cut]; omega

theorem Ext.drew {E' : Env} {w' : World} (h : Ext E w.drew E' w') : Ext E w E' w' := (Ext.draw E w).trans h

theorem zeroT_drew {t : TypeId} {cs : List AV} (h : zeroT P t = some cs) (E : Env) : ∃ v, (∀ w : World, (zeroValue t).run P w = .ok v w) ∧ VRs E cs v.cells.toList := by
  obtain ⟨v, h1, h2, i, hi, hz⟩ := zeroT_sound (E := E) h (w := default)
  exact ⟨v, fun w => by simp [zeroValue, typeInfo, hi, hz], h2⟩

theorem firstCells_len {x : AV} {st n : Nat} {cs : List AV} (h : firstCells H st x n = some cs) : cs.length = n * st := by
  unfold firstCells at h
  split at h
  · simp only [Option.some.injEq] at h; subst h; simp
  · simp only [Option.some.injEq] at h; subst h; simp
  · split at h <;> (try (cases h; done))
    rename_i hc
    split at h <;> (try (cases h; done))
    split at h <;> (try (cases h; done))
    rename_i hle
    simp only [Option.some.injEq] at h; subst h
    simp; omega
  · split at h <;> (try (cases h; done))
    rename_i hc
    simp only [Option.some.injEq] at h; subst h
    simp; omega
  · split at h <;> (try (cases h; done))
    rename_i hc
    obtain ⟨hc, rfl⟩ := hc
    simp only [Option.some.injEq] at h; subst h
    simp; omega
  · cases h

theorem zero_sound {z : List AV} {zv : Value} (hz : VRs E z zv.cells.toList) (n st : Nat) (hst : z.length = st) (hpos : 0 < st) : VRs E (repCells z n) (Builtin.zeroCells zv.cells n).toList := by
  have hl := hz.length
  simp only [Array.length_toList] at hl
  have := rep_sound hz n st hst hpos
  unfold Builtin.zeroCells
  rw [← hl, hst]
  rw [← hl, hst] at this
  exact this

theorem append_make {t tx e : TypeId} {k : IntKind} {ty : TypeId} (hu : P.underlying t = some (.slice e)) (hux : P.underlying tx = some (.int k)) {st : Nat} (hst : szT P e = some st) {inf : TypeInfo} (hi : P.info? e = some inf)
    {zv : Value} (hz : ∀ w : World, (zeroValue e).run P w = .ok zv w) {n : Nat} (h0 : 0 < n) (hst0 : 0 < st) (hn : n ≤ 2 ^ 30) (hb : (2 * n + 1024) * inf.bytes ≤ 2 ^ 48) :
    (Builtin.append_ #[t, tx] ty #[.slice none 0 0, .int .i64 n]).run P w = .ok (.slice (some ⟨w.heap.size, 0, none⟩) n (grownCap w n 0 e))
        (w.drew.alloc (.cells ((Builtin.zeroCells zv.cells n).toList ++ (Builtin.zeroCells zv.cells (grownCap w n 0 e - n)).toList).toArray e)) := by
  have w1 := wrap64 n (by omega)
  have hneg : ¬ ((n : Int) < 0) := by omega
  have hty := fun w => info_sound (P := P) hi w
  have hsz := fun w => szT_sound (P := P) hst w
  have hbn : n * inf.bytes ≤ 2 ^ 48 := by
    have := Nat.mul_le_mul_right inf.bytes (show n ≤ 2 * n + 1024 by omega)
    omega
  have hb' : ¬ ((n : Int) * (inf.bytes : Int) > 2 ^ 48) := by
    have e1 : (n : Int) * (inf.bytes : Int) ≤ ((2 ^ 48 : Nat) : Int) := by rw [← Int.natCast_mul]; exact Int.ofNat_le.2 hbn
    have e2 : ((2 : Int) ^ 48) = ((2 ^ 48 : Nat) : Int) := rfl
    rw [e2]
    exact Int.not_lt.2 e1
  have hroom : ¬ (0 + n ≤ 0) := by omega
  have hmax : ¬ (((0 + n : Nat) : Int) > IntKind.i64.max ∧ (True ∨ inf.bytes = 0)) := by
    rintro ⟨h, _⟩
    have : IntKind.i64.max = 9223372036854775807 := rfl
    rw [this] at h
    omega
  have h48 : ¬ (Builtin.nextslicecap (0 + n) 0 * inf.bytes > 2 ^ 48) := by
    rw [Nat.zero_add, nextslicecap_zero h0]; omega
  have hns : ¬ (n * st = 0) := by
    intro h; rcases Nat.mul_eq_zero.1 h with h | h <;> omega
  have h63' : ¬ (9223372036854775807 < (n : Int)) := by omega
  have h48' : ¬ (281474976710656 < Builtin.nextslicecap n 0 * inf.bytes) := by rw [nextslicecap_zero h0]; omega
  have hb'' : ¬ (281474976710656 < (n : Int) * (inf.bytes : Int)) := hb'
  have hn0 : n ≠ 0 := by omega
  have hst1 : st ≠ 0 := by omega
  simp [Builtin.append_, und_sound hu, und_sound hux, hsz, hty, asInt, asIntOf, w1, hneg, hb'', h63', h48', Question.forced, hn0, hz, newRow, grownCap, Builtin.firstCells]
  rw [if_neg hns]
  congr 3
  apply Array.ext'
  simp

theorem append_sound {ts : List TypeId} {s x a : AV} {u v : Value} {ty : TypeId} {H' : AH} (h : aappend P H ts s x = some (a, H')) (hr : HR E H w) (hs : VR E s u) (hx : VR E x v) :
    Gives P E w (Builtin.append_ ts.toArray ty #[u, v]) a H' := by
  unfold aappend at h
  split at h <;> (try (cases h; done))
  rename_i t tx
  split at h
  · rename_i e k hu hux
    split at h <;> (try (cases h; done))
    rename_i st z inf xn hst hz hi
    split at h <;> (try (cases h; done))
    rename_i n hn
    split at h <;> (try (cases h; done))
    rename_i hc
    obtain ⟨c1, c2, c3, c4, c5⟩ := hc
    simp only [Option.some.injEq, Prod.mk.injEq] at h
    obtain ⟨rfl, rfl⟩ := h
    have := asNat_eq hn
    subst this
    simp only [VR] at hs hx
    subst hs hx
    obtain ⟨zv, z1, z2⟩ := zeroT_drew hz E
    have hzl : zv.cells.size = st := by have := z2.length; simp only [Array.length_toList] at this; omega
    have hg := grownCap_ge' w n 0 e
    obtain ⟨r1, r2⟩ := newRow_less (t := e) (frz := 0) (cl := true) (hr.draw (w' := w.drew) rfl) (zero_sound z2 n st c2 c1) (Builtin.zeroCells zv.cells (grownCap w n 0 e - n)).toList (m := grownCap w n 0 e * st) (by
      rw [Array.length_toList, Array.length_toList]
      simp only [Builtin.zeroCells, Array.size_map, Array.size_range, hzl]
      rw [← Nat.add_mul]; congr 1; omega)
    refine ⟨_, _, _, append_make hu hux hst hi z1 c5 c1 c4 c3, r1, r2.drew, ?_⟩
    simp only [VR]
    exact ⟨_, _, _, _, _, Env.add_same, rfl, hg, by simp, fun _ => rfl⟩
  · rename_i e d _ hu hux
    split at h <;> (try (cases h; done))
    rename_i hd
    have hd : slStr d = true := by simpa using hd
    split at h <;> (try (cases h; done))
    rename_i st z inf sl n hst hz hi hal han
    split at h <;> (try (cases h; done))
    rename_i hc
    obtain ⟨c1, c2, c3, c4⟩ := hc
    split at h <;> (try (cases h; done))
    rename_i old new ho hn
    split at h <;> (try (cases h; done))
    rename_i hone
    have hlen := (alen_sound (P := P) (w := w) han hx).1
    obtain ⟨news, n1, n2⟩ := firstCells_sound hn hr hx
    have hrd : HR E H w.drew := hr.draw rfl
    obtain ⟨news', m1, m2⟩ := firstCells_sound hn hrd hx
    obtain ⟨olds', o1, o2⟩ := firstCells_sound ho hrd hs
    obtain ⟨zv, z1, z2⟩ := zeroT_drew hz E
    have hb : 2 * (sl + n) * inf.bytes ≤ 2 ^ 48 := by
      have := Nat.mul_le_mul_right inf.bytes (show 2 * (sl + n) ≤ 2 * (sl + n) + 1024 by omega)
      omega
    have hzl : zv.cells.size = st := by have := z2.length; simp only [Array.length_toList] at this; omega
    have grow : ∀ (base : Option Addr) (cap : Nat) (frz : Nat) (cl : Bool) (H1 : AH), u = .slice base sl cap → cap < sl + n → HR E H1 w → H1.nxt = H.nxt →
        Gives P E w (Builtin.append_ [t, tx].toArray ty #[u, v]) (.sl H.nxt 0 (sl + n) st) (H1.new (.cells e (old ++ new) frz cl)) := by
      intro base cap frz cl H1 hu' hcap hr1 hnx
      subst hu'
      have hr1d : HR E H1 w.drew := hr1.draw rfl
      have hg := grownCap_ge' w (sl + n) cap e
      obtain ⟨r1, r2⟩ := newRow_less (t := e) (frz := frz) (cl := cl) hr1d (o2.append m2) (Builtin.zeroCells zv.cells (grownCap w (sl + n) cap e - (sl + n))).toList (m := grownCap w (sl + n) cap e * st) (by
        rw [List.length_append, ← o2.length, ← m2.length, firstCells_len ho, firstCells_len hn, Array.length_toList]
        simp only [Builtin.zeroCells, Array.size_map, Array.size_range, hzl]
        rw [← Nat.add_mul, ← Nat.add_mul]; congr 1; omega)
      rw [hnx] at r1 r2
      refine ⟨_, _, _, append_grow hu hux hd hst hi (z1 _) hlen m1 o1 hcap c4 hb, r1, r2.drew, ?_⟩
      simp only [VR]
      exact ⟨_, _, _, _, _, Env.add_same, rfl, hg, by simp, fun _ => rfl⟩
    have none_new : n = 0 → news = [] := fun h0 => by
      have := n2.length
      rw [firstCells_len hn, h0, Nat.zero_mul] at this
      exact List.eq_nil_of_length_eq_zero this.symm
    have fold0 : old = [] ∨ 0 < sl := by
      have := firstCells_len ho
      rcases Nat.eq_zero_or_pos sl with h0 | h0
      · rw [h0, Nat.zero_mul] at this; exact .inl (List.eq_nil_of_length_eq_zero this)
      · exact .inr h0
    cases s
    case nils =>
      simp only [alen, Option.some.injEq] at hal
      subst hal
      have hs' := hs
      simp only [VR] at hs'
      by_cases h0 : n = 0
      · simp only [h0, if_true, Option.some.injEq, Prod.mk.injEq] at h
        obtain ⟨rfl, rfl⟩ := h
        have hnil := none_new h0
        subst hs' h0
        refine ⟨E, _, w, ?_, hr, .refl E w, hs⟩
        rw [append_room hu hux hd hst hlen n1 (Nat.le_refl _)]
        rfl
      · simp only [h0, if_false, Option.some.injEq, Prod.mk.injEq] at h
        obtain ⟨rfl, rfl⟩ := h
        exact grow none 0 0 true H hs' (by omega) hr rfl
    case esl =>
      simp only [alen, Option.some.injEq] at hal
      subst hal
      have hs' := hs
      simp only [VR] at hs'
      obtain ⟨ba, hs'⟩ := hs'
      by_cases h0 : n = 0
      · simp only [h0, if_true, Option.some.injEq, Prod.mk.injEq] at h
        obtain ⟨rfl, rfl⟩ := h
        have hnil := none_new h0
        subst hs' h0
        refine ⟨E, _, w, ?_, hr, .refl E w, hs⟩
        rw [append_room hu hux hd hst hlen n1 (Nat.le_refl _), hnil]
        cases ba <;> rfl
      · simp only [h0, if_false, Option.some.injEq, Prod.mk.injEq] at h
        obtain ⟨rfl, rfl⟩ := h
        exact grow ba 0 0 true H hs' (by omega) hr rfl
    case sl id off len st' =>
      simp only [alen, Option.some.injEq] at hal
      subst hal
      simp only at h
      split at h <;> (try (cases h; done))
      rename_i t' cs frz cl hg
      split at h <;> (try (cases h; done))
      rename_i hfr
      obtain ⟨hfr, rfl⟩ := hfr
      simp only [Option.some.injEq, Prod.mk.injEq] at h
      obtain ⟨rfl, rfl⟩ := h
      have hs' := hs
      simp only [VR] at hs'
      obtain ⟨b, s0, nn, cap, x0, hi0, hs', hle, hcap, hx0⟩ := hs'
      have hst' : st = st' ∧ off + len * st ≤ cs.length ∧ old = (cs.drop off).take (len * st) := by
        simp only [firstCells, hg] at ho
        split at ho <;> (try (cases ho; done))
        rename_i hq
        split at ho <;> (try (cases ho; done))
        rename_i hq2
        simp only [Option.some.injEq] at ho
        exact ⟨hq.1, hq2, ho.symm⟩
      obtain ⟨rfl, hin, hold⟩ := hst'
      by_cases hroom : len + n ≤ cap
      · subst hs'
        have hnl : new.length = n * st := firstCells_len hn
        have hmul : len * st + n * st ≤ cap * st := by rw [← Nat.add_mul]; exact Nat.mul_le_mul_right _ hroom
        have hfr' : frz ≤ off + len * st := hfr
        obtain ⟨q1, q2⟩ := hr.appendIn hg hi0 n2 hin (by omega) hfr'
        rw [← hold] at q1
        -- the address, or no cell at all
        have hst0 : ((storeCells (x0.add (len * st)) news).run P w) = .ok () (w.setCells b (s0 + (off + len * st)) news) := by
          by_cases hc0 : cap = 0
          · have h0 : n = 0 := by omega
            rw [none_new h0]; rfl
          · rw [hx0 hc0, addr_add, Nat.add_assoc]
            obtain ⟨p1, p2⟩ := (hr.blk hg hi0).room (s0 + (off + len * st)) news.length (by omega) (by rw [← n2.length]; omega)
            exact run_storeCells' P p1 p2 (n2.all_one hone)
        refine ⟨_, .slice (some x0) (len + n) cap, _, ?_, q1, q2, ?_⟩
        · rw [append_room hu hux hd hst hlen n1 hroom]
          simp only [hst0, Result.andThen_ok]
        · simp only [VR]
          refine ⟨_, _, _, cap, x0, Env.add_same, rfl, hroom, by omega, fun hc => ?_⟩
          rw [hx0 hc, Nat.add_zero]
      · exact grow (some x0) cap _ _ (H.kill id) hs' (by omega) (hr.kill id) rfl
    all_goals (simp only [reduceCtorEq] at h)
  · cases h

theorem copy_sound {ts : List TypeId} {d x a : AV} {u v : Value} {ty : TypeId} {H' : AH} (h : acopy P H ts d x = some (a, H')) (hr : HR E H w) (hd : VR E d u) (hx : VR E x v) :
    Gives P E w (Builtin.copy_ ts.toArray ty #[u, v]) a H' := by
  unfold acopy at h
  split at h
  · rename_i t rest id off len st' dl n hal hdl
    split at h <;> (try (cases h; done))
    rename_i e hu
    split at h <;> (try (cases h; done))
    rename_i st hst
    simp only at h
    split at h <;> (try (cases h; done))
    rename_i new t' cs frz cl hn hg
    split at h <;> (try (cases h; done))
    rename_i hc
    obtain ⟨rfl, c2, c3, c4⟩ := hc
    simp only [Option.some.injEq, Prod.mk.injEq] at h
    obtain ⟨rfl, rfl⟩ := h
    simp only [alen, Option.some.injEq] at hdl
    subst hdl
    have hlen := (alen_sound (P := P) (w := w) hal hx).1
    obtain ⟨news, n1, n2⟩ := firstCells_sound hn hr hx
    simp only [VR] at hd
    obtain ⟨b, s0, nn, cap, x0, hi0, rfl, hle, hcap, hx0⟩ := hd
    obtain ⟨q1, q2⟩ := hr.store hg hi0 n2 c2
    have hst0 : ((storeCells x0 news).run P w) = .ok () (w.setCells b (s0 + off) news) := by
      by_cases hc0 : cap = 0
      · have h0 : min n len = 0 := by omega
        have := firstCells_len hn
        rw [h0, Nat.zero_mul] at this
        have h2 := n2.length
        rw [this] at h2
        rw [List.eq_nil_of_length_eq_zero h2.symm]; rfl
      · rw [hx0 hc0]
        obtain ⟨_, _, _, _, k3, _⟩ := hr.blk hg hi0
        obtain ⟨p1, p2⟩ := (hr.blk hg hi0).room (s0 + off) news.length (by omega) (by rw [← n2.length]; omega)
        exact run_storeCells' P p1 p2 (n2.all_one c4)
    have hmin : Nat.min n len = min n len := rfl
    have n1' : (Builtin.firstCells st (min n len) v).run P w = .ok news.toArray w := n1
    refine ⟨E, _, _, ?_, q1, q2, by simp only [VR]; rfl⟩
    simp only [Builtin.copy_, List.getElem?_toArray, List.getElem?_cons_zero, List.getElem?_cons_succ, Sem.run_bind, und_sound hu, Result.andThen_ok, hlen, szT_sound hst, hmin, n1', hst0, Sem.run_pure]
    rfl
  · cases h
end
end Go.Am

namespace Go.Am
section
variable {P : Program} {E : Env} {H : AH} {w : World}

theorem len_sound {t : TypeId} {ts : List TypeId} {x a : AV} {u : Value} {ty : TypeId} (h : alenB P H t x = some a) (hr : HR E H w) (hx : VR E x u) : ∃ r, (Builtin.len_ (t :: ts).toArray ty #[u]).run P w = .ok r w ∧ VR E a r := by
  unfold alenB at h
  split at h
  · rename_i s hu
    simp only [Option.some.injEq] at h; subst h
    simp only [VR] at hx; subst hx
    exact ⟨goInt s.length, by simp [Builtin.len_, und_sound hu]; rfl, by simp only [VR]; rfl⟩
  · rename_i n e hu
    simp only [Option.some.injEq] at h; subst h
    exact ⟨goInt n, by simp [Builtin.len_, und_sound hu], by simp only [VR]; rfl⟩
  · rename_i p hu
    split at h <;> (try (cases h; done))
    rename_i n e hp
    simp only [Option.some.injEq] at h; subst h
    exact ⟨goInt n, by simp [Builtin.len_, und_sound hu, und_sound hp], by simp only [VR]; rfl⟩
  · rename_i e hu
    split at h <;> (try (cases h; done))
    rename_i n hn
    split at h <;> (try (cases h; done))
    rename_i hns
    simp only [Option.some.injEq] at h; subst h
    obtain ⟨a, c, rfl⟩ := (alen_sound (P := P) (w := w) hn hx).2 hns
    exact ⟨goInt n, by simp [Builtin.len_, und_sound hu], by simp only [VR]; rfl⟩
  · rename_i kt e hu
    simp only [Option.some.injEq] at h; subst h
    simp only [VR] at hx; subst hx
    exact ⟨goInt 0, by simp [Builtin.len_, und_sound hu], by simp only [VR]; rfl⟩
  · rename_i kt e id hu
    split at h <;> (try (cases h; done))
    rename_i es clock hg
    simp only [Option.some.injEq] at h; subst h
    simp only [VR] at hx
    obtain ⟨b, s, n, hi, rfl⟩ := hx
    obtain ⟨arr, h1, h2⟩ := hr.blk hg hi
    have hl := h2.length
    simp only [Array.length_toList] at hl
    exact ⟨goInt arr.size, by simp [Builtin.len_, und_sound hu, run_getObj' h1], by simp only [VR]; rw [hl]; rfl⟩
  · cases h

theorem min_sound : ∀ (r : List AV) (x a : AV) (u : Value) (vs : List Value), amin x r = some a → VR E x u → VRs E r vs → ∃ q, (vs.foldlM Builtin.min2 u).run P w = .ok q w ∧ VR E a q
  | [], x, a, u, vs, h, hx, hv => by
    simp only [amin, Option.some.injEq] at h; subst h
    simp only [VRs] at hv; subst hv
    exact ⟨u, rfl, hx⟩
  | y :: r, x, a, u, vs, h, hx, hv => by
    simp only [VRs] at hv
    obtain ⟨v, rest, rfl, hy, hv⟩ := hv
    cases x <;> cases y <;> simp only [amin, reduceCtorEq] at h
    simp only [VR] at hx hy
    subst hx hy
    obtain ⟨q, q1, q2⟩ := min_sound r _ a _ rest h (by simp only [VR]; rfl) hv
    exact ⟨q, by simp [List.foldlM_cons, Builtin.min2, q1], q2⟩

theorem max_sound : ∀ (r : List AV) (x a : AV) (u : Value) (vs : List Value), amax x r = some a → VR E x u → VRs E r vs → ∃ q, (vs.foldlM Builtin.max2 u).run P w = .ok q w ∧ VR E a q
  | [], x, a, u, vs, h, hx, hv => by
    simp only [amax, Option.some.injEq] at h; subst h
    simp only [VRs] at hv; subst hv
    exact ⟨u, rfl, hx⟩
  | y :: r, x, a, u, vs, h, hx, hv => by
    simp only [VRs] at hv
    obtain ⟨v, rest, rfl, hy, hv⟩ := hv
    cases x <;> cases y <;> simp only [amax, reduceCtorEq] at h
    simp only [VR] at hx hy
    subst hx hy
    obtain ⟨q, q1, q2⟩ := max_sound r _ a _ rest h (by simp only [VR]; rfl) hv
    exact ⟨q, by simp [List.foldlM_cons, Builtin.max2, q1], q2⟩

/-- bytes read -/
theorem bytes_sound : ∀ {cs : List AV} {vs : List Value} {s : List UInt8}, aconvert.bytesOf cs = some s → VRs E cs vs → ∃ ns : List Int, vs = ns.map (Value.int .u8) ∧ s = ns.map fun n => UInt8.ofNat n.toNat
  | [], vs, s, h, hv => by
    simp only [aconvert.bytesOf, Option.some.injEq] at h; subst h
    simp only [VRs] at hv; subst hv
    exact ⟨[], rfl, rfl⟩
  | c :: cs, vs, s, h, hv => by
    unfold aconvert.bytesOf at h
    split at h <;> (try (cases h; done))
    · rename_i hc; cases hc
    · rename_i n r hc
      cases hc
      split at h <;> (try (cases h; done))
      rename_i s' hs
      simp only [Option.some.injEq] at h; subst h
      simp only [VRs] at hv
      obtain ⟨v, rest, rfl, hy, hv⟩ := hv
      simp only [VR] at hy; subst hy
      obtain ⟨ns, rfl, rfl⟩ := bytes_sound hs hv
      exact ⟨n :: ns, rfl, rfl⟩

theorem foldl_push : ∀ (ns : List Int) (s : ByteArray), ns.foldl (fun r n => r.push (UInt8.ofNat n.toNat)) s = ⟨s.data ++ (ns.map fun n => UInt8.ofNat n.toNat).toArray⟩
  | [], s => by simp
  | n :: ns, s => by
    rw [List.foldl_cons, foldl_push ns]
    apply ByteArray.ext
    simp [ByteArray.push]

theorem loadBytes_sound : ∀ (ns : List Int) (a : Addr) (acc : ByteArray), (∀ j x, (ns.map (Value.int .u8))[j]? = some x → w.cell? (a.add j) = some x) →
    (loadBytes a acc ns.length).run P w = .ok ⟨acc.data ++ (ns.map fun n => UInt8.ofNat n.toNat).toArray⟩ w
  | [], a, acc, _ => by simp [loadBytes]
  | x :: l, a, acc, h => by
    have h0 : w.cell? a = some (.int .u8 x) := by
      have := h 0 _ rfl
      simpa [Addr.add] using this
    have ih := loadBytes_sound l (a.add 1) (acc.push x.toNat.toUInt8) (fun j y hy => by
      have := h (j + 1) y (by simpa using hy)
      have e : (a.add 1).add j = a.add (j + 1) := by
        unfold Addr.add
        by_cases hj : j = 0
        · subst hj; simp
        · simp [hj]; omega
      rw [e]; exact this)
    simp only [List.length_cons, loadBytes, Sem.run_bind, run_load, h0, Result.andThen]
    rw [ih]
    congr 1
    apply ByteArray.ext
    simp [ByteArray.push]

theorem Gives.of_pure {s : Sem Value} {a : AV} (hr : HR E H w) {v : Value} (h : s.run P w = .ok v w) (hv : VR E a v) : Gives P E w s a H := Gives.pure hr ⟨v, h, hv⟩

theorem conv_int {src dst : TypeId} {d : TypeDesc} {k k' : IntKind} {n : Int} (h1 : P.underlying src = some d) (h2 : P.underlying dst = some (.int k)) : (convert src dst (.int k' n)).run P w = .ok (.int k (k.wrap n)) w := by
  simp [convert, und_sound h1, und_sound h2, Conv.intToInt]

theorem conv_intString {src dst : TypeId} {d : TypeDesc} {k' : IntKind} {n : Int} (h1 : P.underlying src = some d) (h2 : P.underlying dst = some .string) : (convert src dst (.int k' n)).run P w = .ok (.string (Utf8.encode n)) w := by
  simp [convert, und_sound h1, und_sound h2, Conv.intToString]

theorem conv_string {src dst : TypeId} {d : TypeDesc} {s : ByteArray} (h1 : P.underlying src = some d) (h2 : P.underlying dst = some .string) : (convert src dst (.string s)).run P w = .ok (.string s) w := by
  simp [convert, und_sound h1, und_sound h2]

theorem conv_bytes {src dst e : TypeId} {s : ByteArray} (h1 : P.underlying src = some .string) (h2 : P.underlying dst = some (.slice e)) (h3 : P.underlying e = some (.int .u8)) : (convert src dst (.string s)).run P w = (Conv.stringToBytes e s).run P w := by
  simp [convert, und_sound h1, und_sound h2, und_sound h3]

theorem freeze_heap {w : World} {b : Nat} {c : Array Value} {e : TypeId} {lo hi o n : Nat} (h : w.heap[b]? = some (.cells c e (lo, hi))) (hn : n ≠ 0) :
    (w.freeze ⟨b, o, none⟩ n).heap[b]? = some (.cells c e (if lo == hi then (o, o + n) else (min lo o, max hi (o + n)))) ∧
    (∀ b', b' ≠ b → (w.freeze ⟨b, o, none⟩ n).heap[b']? = w.heap[b']?) ∧ (w.freeze ⟨b, o, none⟩ n).heap.size = w.heap.size ∧
    (w.freeze ⟨b, o, none⟩ n).tape = w.tape ∧ (w.freeze ⟨b, o, none⟩ n).os = w.os ∧ (w.freeze ⟨b, o, none⟩ n).output = w.output := by
  simp only [World.freeze, if_neg hn]
  refine ⟨by simp [Array.getElem?_modify, h], fun b' hb => ?_, by simp⟩
  simp only [Array.getElem?_modify]
  rw [if_neg (fun e => hb e.symm)]

theorem alloc_freeze {w : World} {row : Array Value} {e : TypeId} {o : Nat} : (w.alloc (.cells row e)).freeze ⟨w.heap.size, o, none⟩ 1 = w.alloc (.cells row e (o, o + 1)) := by
  simp only [World.freeze, World.alloc]
  rw [if_neg (by omega)]
  congr 1
  apply Array.ext_getElem?
  intro i
  simp only [Array.getElem?_modify, Array.getElem?_push]
  by_cases h : i = w.heap.size
  · subst h; simp
  · rw [if_neg (fun e => h e.symm), if_neg h, if_neg h]

theorem stringToBytes_sound {e : TypeId} {s : List UInt8} (hr : HR E H w) : Gives P E w (Conv.stringToBytes e ⟨⟨s⟩⟩) (.sl H.nxt 0 s.length 1) (H.new (.cells e (s.map fun b => .i .u8 b.toNat) 0 false)) := by
  have hg := grownCap_ge' w s.length 0 e
  have hv : VRs E (s.map fun b => .i .u8 b.toNat) (s.map fun b => Value.int .u8 b.toNat) := VRs.mk (by simp) (fun j a v ha hv => by
    simp only [List.getElem?_map, Option.map_eq_some_iff] at ha hv
    obtain ⟨b, hb, rfl⟩ := ha
    obtain ⟨b', hb', rfl⟩ := hv
    rw [hb] at hb'; cases hb'
    simp [VR])
  have hd : HR E H w.drew := hr.draw rfl
  generalize hrow : (s.map (fun b : UInt8 => Value.int .u8 b.toNat) ++ List.replicate (grownCap w s.length 0 e - s.length) (Value.int .u8 0)).toArray = row
  have hsize : row.size = grownCap w s.length 0 e := by rw [← hrow]; simp; omega
  obtain ⟨r1, r2⟩ := hd.alloc (.cells row e (row.size, row.size + 1)) (.cells e (s.map fun b => .i .u8 b.toNat) 0 false) row.size
    ⟨row, _, heap_alloc_new, by simp, by rw [hsize]; simpa using hg, fun h => by simp at h, fun k _ hk hh => by simp only at hh; omega, fun j a ha => by
      obtain ⟨v, h1, h2⟩ := hv.get j a ha
      refine ⟨v, ?_, VR.mono (Env.le_add hd.fresh) _ _ h2⟩
      have hj := (List.getElem?_eq_some_iff.1 h1).1
      rw [Nat.zero_add, ← hrow, List.getElem?_toArray, List.getElem?_append_left hj]
      exact h1⟩
  refine ⟨_, .slice (some ⟨w.heap.size, 0, none⟩) s.length (grownCap w s.length 0 e), _, ?_, r1, r2.drew, ?_⟩
  · have hsh : (w.drew.alloc (.cells row e)).shape? w.heap.size = some (e, row.size) := by
      have : (w.drew.alloc (.cells row e)).heap[w.heap.size]? = some (.cells row e (0, 0)) := heap_alloc_new (w := w.drew)
      simp only [World.shape?, this]
    have hrow' : (Array.map (fun b : UInt8 => Value.int .u8 b.toNat) (⟨⟨s⟩⟩ : ByteArray).data ++ Array.replicate (grownCap w s.length 0 e - s.length) (Value.int .u8 0)) = row := by
      rw [← hrow]; apply Array.ext'; simp
    have hsz : (⟨⟨s⟩⟩ : ByteArray).size = s.length := rfl
    have hf := alloc_freeze (w := w.drew) (row := row) (e := e) (o := row.size)
    have hc : (choose (.appendCap s.length 0 e)).run P w = .ok (grownCap w s.length 0 e) w.drew := by simp [Question.forced, grownCap]
    simp only [Conv.stringToBytes, hsz, Sem.run_bind, hc, Result.andThen_ok, hrow', newRow, run_newObj, Sem.run_pure, markStringish, run_shape]
    have hsh' : ({ w.drew with heap := w.drew.heap.push (.cells row e) } : World).shape? w.drew.heap.size = some (e, row.size) := hsh
    simp only [hsh', run_freeze, Result.andThen_ok]
    rw [← hf]
    rfl
  · simp only [VR]
    exact ⟨_, _, _, _, _, Env.add_same, rfl, hg, by rw [hsize]; simp, fun _ => rfl⟩

theorem rowAt_mono {fits : TypeId → Bool} {d : Nat} {e : TypeId} {c c' off n : Nat} (hc : c ≤ c') (h : rowAt P fits d e c off n = true) : rowAt P fits d e c' off n = true := by
  cases d with
  | zero => simp [rowAt] at h
  | succ d =>
    simp only [rowAt] at h ⊢
    split at h
    · cases h
    · rename_i hs
      rw [if_neg hs]
      simp only [Bool.or_eq_true, Bool.and_eq_true, decide_eq_true_eq] at h ⊢
      rcases h with h | h
      · exact .inl ⟨⟨h.1.1, by omega⟩, h.2⟩
      · exact .inr ⟨by omega, h.2⟩

theorem liesAt_mono {e : TypeId} {c c' off : Nat} (hc : c ≤ c') : ∀ (d : Nat) (u : TypeId) (n : Nat), liesAt P d e c off u n = true → liesAt P d e c' off u n = true := by
  intro d
  induction d with
  | zero => intro u n h; simp [liesAt] at h
  | succ d ih =>
    intro u n h
    simp only [liesAt, Bool.or_eq_true] at h ⊢
    rcases h with h | h
    · exact .inl (rowAt_mono hc h)
    · right
      split at h
      · exact ih _ _ h
      · cases h

theorem shape_of {b : Nat} {c : Array Value} {t : TypeId} {fz : Nat × Nat} (h : w.heap[b]? = some (.cells c t fz)) : w.shape? b = some (t, c.size) := by simp only [World.shape?, h]

theorem seenAt_cells {a : Addr} {sh : TypeId × Nat} (h : w.shape? a.block = some sh) : (Conv.seenAt a).run P w = .ok a w := by
  simp [Conv.seenAt, viewAt, h]

theorem bytesToString_sound {cs : List AV} {s : List UInt8} {a : Addr} {len cap : Nat} {vs : List Value} (hb : aconvert.bytesOf cs = some s) (hv : VRs E cs vs) (hl : vs.length = len) (hc : ∀ j v, vs[j]? = some v → w.cell? (a.add j) = some v) :
    (Conv.bytesToString (.slice (some a) len cap)).run P w = .ok (.string ⟨⟨s⟩⟩) w := by
  obtain ⟨ns, rfl, rfl⟩ := bytes_sound hb hv
  have := run_loadCells_list (P := P) w a _ hc
  rw [hl] at this
  rw [run_bytesToString w a len cap ns this, foldl_push]
  congr 2
  apply ByteArray.ext
  apply Array.ext'
  simp

theorem convert_sound {src dst : TypeId} {x a : AV} {u : Value} {H' : AH} (h : aconvert P H src dst x = some (a, H')) (hr : HR E H w) (hx : VR E x u) : Gives P E w (convert src dst u) a H' := by
  unfold aconvert at h
  split at h
  · rename_i k k' n h1 h2
    simp only [Option.some.injEq, Prod.mk.injEq] at h; obtain ⟨rfl, rfl⟩ := h
    simp only [VR] at hx; subst hx
    exact .of_pure hr (conv_int h1 h2) (by simp only [VR, aWrap_eq])
  · rename_i k' n h1 h2
    simp only [Option.some.injEq, Prod.mk.injEq] at h; obtain ⟨rfl, rfl⟩ := h
    simp only [VR] at hx; subst hx
    exact .of_pure hr (conv_intString h1 h2) (VR_str _)
  · rename_i s h1 h2
    simp only [Option.some.injEq, Prod.mk.injEq] at h; obtain ⟨rfl, rfl⟩ := h
    have hx' := hx
    simp only [VR] at hx; subst hx
    exact .of_pure hr (conv_string h1 h2) hx'
  · rename_i e s h1 h2
    split at h <;> (try (cases h; done))
    rename_i h3
    split at h <;> (try (cases h; done))
    simp only [Option.some.injEq, Prod.mk.injEq] at h; obtain ⟨rfl, rfl⟩ := h
    simp only [VR] at hx; subst hx
    obtain ⟨E', v, w', g1, g2, g3, g4⟩ := stringToBytes_sound (P := P) (e := e) (s := s) hr
    exact ⟨E', v, w', by rw [conv_bytes h1 h2 h3]; exact g1, g2, g3, g4⟩
  · rename_i e h1 h2 _ _
    split at h
    · rename_i h3 _ _
      simp only [Option.some.injEq, Prod.mk.injEq] at h; obtain ⟨rfl, rfl⟩ := h
      simp only [VR] at hx; subst hx
      exact .of_pure hr (v := .string ⟨⟨[]⟩⟩) (by rw [run_convert_bytes_string w src dst e none 0 0 h1 h3 h2]; rfl) (by simp only [VR])
    · rename_i h3 _ _
      simp only [Option.some.injEq, Prod.mk.injEq] at h; obtain ⟨rfl, rfl⟩ := h
      simp only [VR] at hx; obtain ⟨a, rfl⟩ := hx
      refine .of_pure hr (v := .string ⟨⟨[]⟩⟩) ?_ (by simp only [VR])
      rw [run_convert_bytes_string w src dst e a 0 0 h1 h3 h2]
      cases a with
      | none => rfl
      | some a => exact bytesToString_sound (cs := []) (E := E) (vs := []) rfl (by simp [VRs]) rfl (by simp)
    · rename_i id off len h3 _ _
      split at h <;> (try (cases h; done))
      rename_i t cs frz cl hg
      split at h <;> (try (cases h; done))
      rename_i hle
      split at h <;> (try (cases h; done))
      rename_i s hs
      simp only [Option.some.injEq, Prod.mk.injEq] at h; obtain ⟨rfl, rfl⟩ := h
      simp only [VR] at hx
      obtain ⟨b, s0, nn, cap, x0, hi0, rfl, hlc, hcap, hx0⟩ := hx
      refine .of_pure hr (v := .string ⟨⟨s⟩⟩) ?_ (by simp only [VR])
      rw [run_convert_bytes_string w src dst e _ len cap h1 h3 h2]
      obtain ⟨vs, v1, v2, v3⟩ := row_read hr hg hi0 hle
      by_cases hc0 : cap = 0
      · have hl0 : len = 0 := by omega
        subst hl0
        have h0 : s = [] := by simpa [aconvert.bytesOf] using hs.symm
        subst h0
        exact bytesToString_sound (cs := []) (E := E) (vs := []) rfl (by simp [VRs]) rfl (by simp)
      · rw [hx0 hc0]
        exact bytesToString_sound hs v2 v1 v3
    · cases h
  · rename_i t id off h1 h2
    split at h <;> (try (cases h; done))
    rename_i t' cs frz cl m hg hm
    split at h <;> (try (cases h; done))
    rename_i hlt
    simp only [Option.some.injEq, Prod.mk.injEq] at h; obtain ⟨rfl, rfl⟩ := h
    have hx' := hx
    simp only [VR] at hx
    obtain ⟨b, s0, nn, hi0, rfl⟩ := hx
    obtain ⟨c, fz, k1, k2, k3, k4, k5, k6⟩ := hr.blk hg hi0
    have hsh := shape_of k1
    have hlt' : ¬ (c.size ≤ s0 + off) := by omega
    refine .of_pure hr (v := .pointer (some ⟨b, s0 + off, none⟩)) ?_ hx'
    have hsz := szT_sound hm w
    simp [convert, und_sound h1, und_sound h2, Conv.unsafePointer, seenAt_cells (a := ⟨b, s0 + off, none⟩) hsh, cellsIn, hsh, hlt', hsz]
  · rename_i t id off h1 h2
    split at h <;> (try (cases h; done))
    rename_i t' cs frz m hg hm
    split at h <;> (try (cases h; done))
    rename_i hlies
    simp only [Option.some.injEq, Prod.mk.injEq] at h; obtain ⟨rfl, rfl⟩ := h
    have hx' := hx
    simp only [VR] at hx
    obtain ⟨b, s0, nn, hi0, rfl⟩ := hx
    obtain ⟨c, fz, k1, k2, k3, k4, k5, k6⟩ := hr.blk hg hi0
    obtain ⟨rfl, _⟩ := k4 rfl
    have hsh := shape_of k1
    refine .of_pure hr (v := .pointer (some ⟨b, 0 + off, none⟩)) ?_ hx'
    have hsz := szT_sound hm w
    rw [Nat.zero_add]
    have hl2 := liesAt_mono (P := P) (c' := c.size / P.cellsOf t') (Nat.div_le_div_right (by omega)) _ _ _ hlies
    simp [convert, und_sound h1, und_sound h2, Conv.unsafePointer, seenAt_cells (a := ⟨b, off, none⟩) hsh, hsz, variablesAt, hsh, hl2]
  · cases h

theorem liesAt_head {e : TypeId} (hc : P.cellsOf e = 1) (count n : Nat) (hn : n ≤ count) : liesAt P P.depth e count 0 e n = true := Lib.liesAt_bytes hc count n hn

theorem unsafeString_sound {pt t : TypeId} {id n : Nat} {u : Value} {cs : List AV} {frz : Nat} {s : List UInt8} {k : IntKind} (rest : List TypeId) (ty : TypeId) (hp : P.underlying pt = some (.pointer t)) (hg : H.get id = some (.cells t cs frz true))
    (hst : szT P t = some 1) (h62 : n < 2 ^ 62) (h0 : 0 < n) (hn : n ≤ cs.length) (hb : aconvert.bytesOf ((cs.drop 0).take n) = some s) (hr : HR E H w) (hx : VR E (.ptr id 0) u) :
    Gives P E w (Builtin.unsafeString_ (pt :: rest).toArray ty #[u, .int k n]) (.str s) (H.put id (.cells t cs (max frz n) true)) := by
  simp only [VR] at hx
  obtain ⟨b, s0, nn, hi0, rfl⟩ := hx
  obtain ⟨vs, v1, v2, v3⟩ := row_read (off := 0) (m := n) hr hg hi0 (by omega)
  obtain ⟨c, fz, k1, k2, k3, k4, k5, k6⟩ := hr.blk hg hi0
  obtain ⟨rfl, k4⟩ := k4 rfl
  obtain ⟨ns, rfl, rfl⟩ := bytes_sound hb v2
  have hl : ns.length = n := by simpa using v1
  have hsh := shape_of k1
  have hcell := szT_cellsOf hst
  have hlies := liesAt_head hcell (c.size / P.cellsOf t) n (by rw [hcell]; simp; omega)
  have hlb := loadBytes_sound (P := P) (w := w) ns ⟨b, 0, none⟩ .empty v3
  rw [hl] at hlb
  obtain ⟨lo, hi⟩ := fz
  obtain ⟨f1, f2, f3, f4, f5, f6⟩ := freeze_heap (o := 0) (n := n) k1 (by omega)
  have hbr : BR E (w.freeze ⟨b, 0, none⟩ n) b 0 nn (.cells t cs (max frz n) true) := by
    refine ⟨c, _, f1, k2, k3, fun _ => ⟨rfl, ?_⟩, ?_, k6⟩
    · right
      by_cases hlh : lo == hi
      · simp only [hlh, if_true]; have := Nat.le_max_right frz n; omega
      · simp only [hlh, Bool.false_eq_true, if_false]
        rcases k4 with k4 | k4
        · simp only at k4; simp [k4] at hlh
        · simp only at k4
          have h1 := Nat.le_max_left frz n
          have h2 := Nat.le_max_right frz n
          exact Nat.max_le.2 ⟨by omega, by omega⟩
    · intro j hj hjc
      have hj' : max frz n ≤ j := by omega
      have h1 : frz ≤ j := Nat.le_trans (Nat.le_max_left ..) hj'
      have h2 : n ≤ j := Nat.le_trans (Nat.le_max_right ..) hj'
      by_cases hlh : lo == hi
      · simp only [hlh, if_true]; omega
      · simp only [hlh, Bool.false_eq_true, if_false]
        rcases k4 with k4 | k4
        · simp only at k4; simp [k4] at hlh
        · simp only at k4
          have : max hi (0 + n) ≤ j := Nat.max_le.2 ⟨by omega, by omega⟩
          omega
  obtain ⟨q1, q2⟩ := hr.turn (w' := w.freeze ⟨b, 0, none⟩ n) (y := .cells t cs (max frz n) true) hg hi0 f3 f2 hbr f4 f5 f6
  · refine ⟨E, .string ⟨⟨ns.map fun n => UInt8.ofNat n.toNat⟩⟩, _, ?_, q1, q2, by simp only [VR]⟩
    have hmax : IntKind.i64.max = 9223372036854775807 := rfl
    have hneg : ¬ (n : Int) < 0 := by omega
    have h63' : ¬ (9223372036854775807 : Int) < (n : Int) := by omega
    have hn0 : n ≠ 0 := by omega
    refine Eq.trans (congrArg (fun m : Sem Value => m.run P w) (show Builtin.unsafeString_ (pt :: rest).toArray ty #[.pointer (some ⟨b, 0 + 0, none⟩), .int k n] = asInt (.int k n) >>= _ from rfl)) ?_
    simp [asInt, asIntOf, hmax, h63', hneg, hn0, variablesAt, hsh, elemOf, und_sound hp, hlies, hlb]

theorem builtin_sound {b : Builtin} {ts : List TypeId} {ty : TypeId} {args : List AV} {vs : List Value} {a : AV} {H' : AH} {cs : Array Bool} (h : abuiltin P H b ts ty args = some (a, H')) (hr : HR E H w) (hv : VRs E args vs) :
    ∃ E' v w', (builtin b ts.toArray ty cs vs.toArray).run P w = .ok (.value v) w' ∧ HR E' H' w' ∧ Ext E w E' w' ∧ VR E' a v := by
  unfold abuiltin at h
  split at h
  · rename_i t ts x
    split at h <;> (try (cases h; done))
    rename_i a' ha
    simp only [Option.some.injEq, Prod.mk.injEq] at h; obtain ⟨rfl, rfl⟩ := h
    simp only [VRs] at hv
    obtain ⟨v, _, rfl, hx, rfl⟩ := hv
    obtain ⟨r, r1, r2⟩ := len_sound (P := P) (ts := ts) (ty := ty) ha hr hx
    exact ⟨E, r, w, by simp [builtin, r1], hr, .refl E w, r2⟩
  · rename_i t ts
    split at h <;> (try (cases h; done))
    rename_i e hu
    simp only [Option.some.injEq, Prod.mk.injEq] at h; obtain ⟨rfl, rfl⟩ := h
    simp only [VRs, VR] at hv
    obtain ⟨v, _, rfl, rfl, rfl⟩ := hv
    exact ⟨E, goInt 0, w, by simp [builtin, Builtin.cap_, und_sound hu], hr, .refl E w, by simp only [VR]; rfl⟩
  · rename_i ts s x
    simp only [VRs] at hv
    obtain ⟨v, _, rfl, hs, v', _, rfl, hx, rfl⟩ := hv
    obtain ⟨E', r, w', g1, g2, g3, g4⟩ := append_sound (ty := ty) h hr hs hx
    exact ⟨E', r, w', by simp [builtin, g1], g2, g3, g4⟩
  · rename_i ts s x
    simp only [VRs] at hv
    obtain ⟨v, _, rfl, hs, v', _, rfl, hx, rfl⟩ := hv
    obtain ⟨E', r, w', g1, g2, g3, g4⟩ := copy_sound (ty := ty) h hr hs hx
    exact ⟨E', r, w', by simp [builtin, g1], g2, g3, g4⟩
  · rename_i ts x r
    split at h <;> (try (cases h; done))
    rename_i a' ha
    simp only [Option.some.injEq, Prod.mk.injEq] at h; obtain ⟨rfl, rfl⟩ := h
    simp only [VRs] at hv
    obtain ⟨v, rest, rfl, hx, hv⟩ := hv
    obtain ⟨q, q1, q2⟩ := min_sound (P := P) (w := w) r x _ v rest ha hx hv
    exact ⟨E, q, w, by simp [builtin, Builtin.min_, q1], hr, .refl E w, q2⟩
  · rename_i ts x r
    split at h <;> (try (cases h; done))
    rename_i a' ha
    simp only [Option.some.injEq, Prod.mk.injEq] at h; obtain ⟨rfl, rfl⟩ := h
    simp only [VRs] at hv
    obtain ⟨v, rest, rfl, hx, hv⟩ := hv
    obtain ⟨q, q1, q2⟩ := max_sound (P := P) (w := w) r x _ v rest ha hx hv
    exact ⟨E, q, w, by simp [builtin, Builtin.max_, q1], hr, .refl E w, q2⟩
  · simp only [Option.some.injEq, Prod.mk.injEq] at h; obtain ⟨rfl, rfl⟩ := h
    simp only [VRs, VR] at hv
    obtain ⟨v, _, rfl, rfl, rfl⟩ := hv
    exact ⟨E, .pointer none, w, by simp [builtin, Lib.run_unsafeSliceData_nil], hr, .refl E w, by simp only [VR]⟩
  · rename_i id off len st
    simp only [Option.some.injEq, Prod.mk.injEq] at h; obtain ⟨rfl, rfl⟩ := h
    simp only [VRs, VR] at hv
    obtain ⟨v, _, rfl, ⟨b, s0, nn, cap, x0, hi0, rfl, hlc, hcap, hx0⟩, rfl⟩ := hv
    have hc : cap ≠ 0 := by omega
    refine ⟨E, .pointer (some x0), w, ?_, hr, .refl E w, by simp only [VR]; exact ⟨_, _, _, hi0, by rw [hx0 hc]⟩⟩
    have := Lib.run_unsafeSliceData_row (P := P) w ts.toArray ty x0 (len + 1) cap hc
    simp [builtin, this]
  · simp only [Option.some.injEq, Prod.mk.injEq] at h; obtain ⟨rfl, rfl⟩ := h
    simp only [VRs, VR] at hv
    obtain ⟨v, _, rfl, rfl, v', _, rfl, rfl, rfl⟩ := hv
    exact ⟨E, .string ⟨⟨[]⟩⟩, w, by simp [builtin, Lib.run_unsafeString_none]; rfl, hr, .refl E w, by simp only [VR]⟩
  · simp only [Option.some.injEq, Prod.mk.injEq] at h; obtain ⟨rfl, rfl⟩ := h
    simp only [VRs, VR] at hv
    obtain ⟨v, _, rfl, ⟨b, s0, nn, hi0, rfl⟩, v', _, rfl, rfl, rfl⟩ := hv
    exact ⟨E, .string ⟨⟨[]⟩⟩, w, by simp [builtin, Lib.run_unsafeString_none]; rfl, hr, .refl E w, by simp only [VR]⟩
  · rename_i pt ts id off k n _
    split at h <;> (try (cases h; done))
    rename_i u t cs frz n hp hg hn
    split at h <;> (try (cases h; done))
    rename_i hc
    obtain ⟨rfl, c2, rfl, c4, c5, c6⟩ := hc
    split at h <;> (try (cases h; done))
    rename_i s hb
    simp only [Option.some.injEq, Prod.mk.injEq] at h; obtain ⟨rfl, rfl⟩ := h
    have := asNat_eq hn
    subst this
    simp only [VRs] at hv
    obtain ⟨v, _, rfl, hx, v', _, rfl, hk, rfl⟩ := hv
    simp only [VR] at hk
    subst hk
    obtain ⟨E', r, w', g1, g2, g3, g4⟩ := unsafeString_sound (k := k) ts ty hp hg c2 c4 c5 c6 hb hr hx
    exact ⟨E', r, w', by simp [builtin, g1], by simpa using g2, g3, g4⟩
  · cases h
end
end Go.Am
