/-
  This program's machine: which functions are summarised, which variables are known; the witness's world.
-/
import Derived.Test.YtdnmnhllfflkoaaGreatDoorAmh
import Derived.Test.YtdnmnhllfflkoaaGreatDoorRows
import Derived.Lib.LaidU8
import Derived.LaidLaws
import Derived.Deep.DeepWitnessRowRef
import Derived.PinnedBridge
namespace Go.Am
open Go
noncomputable def gl : Nat → Option (List AV)
  | 4 => some [(.i .u8 0), (.i .u8 1), (.i .u8 56), (.i .u8 2), (.i .u8 57), (.i .u8 49), (.i .u8 28), (.i .u8 3), (.i .u8 61), (.i .u8 58), (.i .u8 42), (.i .u8 50), (.i .u8 38), (.i .u8 29), (.i .u8 17), (.i .u8 4), (.i .u8 62), (.i .u8 47), (.i .u8 59), (.i .u8 36), (.i .u8 45), (.i .u8 43), (.i .u8 51), (.i .u8 22), (.i .u8 53), (.i .u8 39), (.i .u8 33), (.i .u8 30), (.i .u8 24), (.i .u8 18), (.i .u8 12), (.i .u8 5), (.i .u8 63), (.i .u8 55), (.i .u8 48), (.i .u8 27), (.i .u8 60), (.i .u8 41), (.i .u8 37), (.i .u8 16), (.i .u8 46), (.i .u8 35), (.i .u8 44), (.i .u8 21), (.i .u8 52), (.i .u8 32), (.i .u8 23), (.i .u8 11), (.i .u8 54), (.i .u8 26), (.i .u8 40), (.i .u8 15), (.i .u8 34), (.i .u8 20), (.i .u8 31), (.i .u8 10), (.i .u8 25), (.i .u8 14), (.i .u8 19), (.i .u8 9), (.i .u8 13), (.i .u8 8), (.i .u8 7), (.i .u8 6)]
  | _ => none
def xk : Nat → Option XK
  | 362 => some .indexByte
  | _ => none
noncomputable def CC : Cx := { P := Proofs.Tryz.prog, G := gl, X := xk, ints := [] }

theorem noNG_all : (Proofs.Tryz.prog.funcs.all fun fn => !(fn.name == "runtime.NumGoroutine")) = true := by decide +kernel
theorem cxok : CxOK CC where
  mixed := by kernel_rfl
  noNG := by
    intro f fn hf
    have h := noNG_all
    rw [Array.all_eq_true'] at h
    have := h fn (Array.mem_of_getElem? hf)
    simpa using this
  x := by
    intro f k hk
    change xk f = some k at hk
    unfold xk at hk
    split at hk <;> (try (cases hk; done))
    · cases hk
      exact xok_indexByte (C := CC) ⟨Proofs.Tryz.func362, by kernel_rfl, by kernel_rfl, by kernel_rfl, by kernel_rfl⟩
end Go.Am

namespace Go.Am
open Go Go.Proofs Go.Proofs.YtdnmnhllfflkoaaGreatDoor
theorem no_handles : (Rows.labNilRow.laid.filter fun x => x.2.handleName?.isSome) = [] := by kernel_rfl
theorem met {W : World} (h : laidMetH Proofs.Tryz.prog Rows.labNilRow.laid W) : laidMet Proofs.Tryz.prog Rows.labNilRow.laid W := by
  unfold laidMetH at h
  rw [no_handles] at h
  exact h
theorem gok {W : World} (h : laidMetH Proofs.Tryz.prog Rows.labNilRow.laid W) : GOK CC (E0 W) := by
  obtain ⟨ps, hL, _⟩ := met h
  refine gok_of (C := CC) ?_ ?_
  · intro g cs hg
    change gl g = some cs at hg
    unfold gl at hg
    split at hg <;> (try (cases hg; done))
    cases hg
    exact laid_cells (n := 99) hL (t := 412) (name := "math/bits.deBruijn64tab") (d := Rows.laid_math_bits_deBruijn64tab) (by simp [Rows.labNilRow]) (by kernel_rfl) (by kernel_rfl) (by kernel_rfl)
  · intro p hp
    simp [CC] at hp
end Go.Am

namespace Go.Am
open Go Go.Proofs Go.Proofs.YtdnmnhllfflkoaaGreatDoor

theorem own1 : ownKnob Proofs.Tryz.prog.godebug = none := by kernel_rfl
def strB (s : List UInt8) : Value := .string ⟨s.toArray⟩
def u8s (l : List Int) : Array Value := (l.map fun z => Value.int .u8 z).toArray
/-- THE WITNESS: the settled world, the three variables holding what their initialisers lay. -/
noncomputable def laidWorld (os : Os) : World :=
  let w0 := World.holding Proofs.Tryz.prog os ⟨#[], #[], []⟩
  let put (h : Array Obj) (g : Nat) (cs : Array Value) : Array Obj := h.modify g fun
    | .cells _ t frozen => .cells cs t frozen
    | o => o
  let h2 := put w0.heap 2 (u8s Lib.firstTab)
  let h3 := put h2 3 (u8s [128, 191, 160, 191, 128, 159, 144, 191, 128, 143, 0, 0, 0, 0, 0, 0, 0, 0, 0, 0, 0, 0, 0, 0, 0, 0, 0, 0, 0, 0, 0, 0])
  let h4 := put h3 4 (u8s [0, 1, 56, 2, 57, 49, 28, 3, 61, 58, 42, 50, 38, 29, 17, 4, 62, 47, 59, 36, 45, 43, 51, 22, 53, 39, 33, 30, 24, 18, 12, 5, 63, 55, 48, 27, 60, 41, 37, 16, 46, 35, 44, 21, 52, 32, 23, 11, 54, 26, 40, 15, 34, 20, 31, 10, 25, 14, 19, 9, 13, 8, 7, 6])
  { w0 with heap := h4 }

set_option maxRecDepth 1000000 in
theorem laid_met (os : Os) (args : Array Value) : laidMet Proofs.Tryz.prog Rows.labNilRow.laid ((laidWorld os).forCall (fun _ _ => 0) ⟨#[], args, []⟩).memory :=
  laidMet_of_run' 8 (by kernel_rfl) (by kernel_rfl)
noncomputable def zv (t : TypeId) : Value := ((Proofs.Tryz.prog.info? t).bind (·.zero)).getD .nilIface
end Go.Am
