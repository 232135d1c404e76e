/-
  This program's machine: which functions are summarised, which variables are known; the witness's world.
-/
import Derived.Test.YtpnaeljbfnjghaaGreatDoorAmh
import Derived.Test.YtpnaeljbfnjghaaGreatDoorIx
import Derived.Test.YtpnaeljbfnjghaaGreatDoorRp
import Derived.Test.YtpnaeljbfnjghaaGreatDoorRows
import Derived.Lib.LaidU8
import Derived.LaidLaws
import Derived.Deep.DeepWitnessRowRef
import Derived.PinnedBridge
namespace Go.Am
open Go
noncomputable def gl : Nat → Option (List AV)
  | 0 => some [(.str [32, 62, 32]), (.str [32, 62, 62, 32]), (.str [32, 60, 60, 32])]
  | 1 => some [(.str [42]), (.i .i64 0), (.i .i64 (-1)), (.str [43]), (.i .i64 1), (.i .i64 (-1)), (.str [63]), (.i .i64 0), (.i .i64 1)]
  | 4 => some [(.i .u8 0), (.i .u8 1), (.i .u8 28), (.i .u8 2), (.i .u8 29), (.i .u8 14), (.i .u8 24), (.i .u8 3), (.i .u8 30), (.i .u8 22), (.i .u8 20), (.i .u8 15), (.i .u8 25), (.i .u8 17), (.i .u8 4), (.i .u8 8), (.i .u8 31), (.i .u8 27), (.i .u8 13), (.i .u8 23), (.i .u8 21), (.i .u8 19), (.i .u8 16), (.i .u8 7), (.i .u8 26), (.i .u8 12), (.i .u8 18), (.i .u8 6), (.i .u8 11), (.i .u8 5), (.i .u8 10), (.i .u8 9)]
  | _ => none
def xk : Nat → Option XK
  | 87 => some .rep
  | 138 => some .index
  | 187 => some .noEscape
  | 194 => some .makeNoZero
  | 232 => some .count
  | 234 => some .indexByte
  | _ => none
noncomputable def CC : Cx := { P := Proofs.Tryz.prog, G := gl, X := xk, ints := [(2, .i64)] }

theorem noNG_all : (Proofs.Tryz.prog.funcs.all fun fn => !(fn.name == "runtime.NumGoroutine")) = true := by decide +kernel
theorem cxok : CxOK CC where
  mixed := by kernel_rfl
  noNG := by
    intro f fn hf
    have h := noNG_all
    rw [Array.all_eq_true'] at h
    have := h fn (Array.mem_of_getElem? hf)
    simpa using this
  x := by
    intro f k hk
    change xk f = some k at hk
    unfold xk at hk
    split at hk <;> (try (cases hk; done))
    · cases hk
      exact xok_rep (C := CC) Proofs.Tryz.func87 (by kernel_rfl) (fun s c w h1 h2 => Proofs.Tryz.strings_Repeat s c w h1 h2)
    · cases hk
      exact xok_index (C := CC) Proofs.Tryz.func138 (by kernel_rfl) (g := 2) (by simp [CC]) (fun s sub m w hs hm => Proofs.Tryz.stringslite_Index s sub m w hs hm)
    · cases hk
      exact xok_noEscape (C := CC) ⟨Proofs.Tryz.func187, by kernel_rfl, by kernel_rfl, by kernel_rfl, by kernel_rfl⟩
    · cases hk
      exact xok_makeNoZero (C := CC) ⟨Proofs.Tryz.func194, by kernel_rfl, by kernel_rfl, by kernel_rfl, by kernel_rfl⟩ (by kernel_rfl)
    · cases hk
      exact xok_count (C := CC) ⟨Proofs.Tryz.func232, by kernel_rfl, by kernel_rfl, by kernel_rfl, by kernel_rfl⟩
    · cases hk
      exact xok_indexByte (C := CC) ⟨Proofs.Tryz.func234, by kernel_rfl, by kernel_rfl, by kernel_rfl, by kernel_rfl⟩
end Go.Am

namespace Go.Am
open Go Go.Proofs Go.Proofs.YtpnaeljbfnjghaaGreatDoor
theorem no_handles : (Rows.lawtextNilRow.laid.filter fun x => x.2.handleName?.isSome) = [] := by kernel_rfl
theorem met {W : World} (h : laidMetH Proofs.Tryz.prog Rows.lawtextNilRow.laid W) : laidMet Proofs.Tryz.prog Rows.lawtextNilRow.laid W := by
  unfold laidMetH at h
  rw [no_handles] at h
  exact h
theorem gok {W : World} (h : laidMetH Proofs.Tryz.prog Rows.lawtextNilRow.laid W) (hm : ∃ m : Int, W.cell? ⟨2, 0, none⟩ = some (.int .i64 m)) : GOK CC (E0 W) := by
  obtain ⟨ps, hL, _⟩ := met h
  refine gok_of (C := CC) ?_ ?_
  · intro g cs hg
    change gl g = some cs at hg
    unfold gl at hg
    split at hg <;> (try (cases hg; done))
    · cases hg
      exact laid_cells (n := 9) hL (t := 184) (name := "ablaut/lawtext.arrows") (d := Rows.laid_ablaut_lawtext_arrows) (by simp [Rows.lawtextNilRow]) (by kernel_rfl) (by kernel_rfl) (by kernel_rfl)
    · cases hg
      exact laid_cells (n := 9) hL (t := 227) (name := "ablaut/lawtext.signs") (d := Rows.laid_ablaut_lawtext_signs) (by simp [Rows.lawtextNilRow]) (by kernel_rfl) (by kernel_rfl) (by kernel_rfl)
    · cases hg
      exact laid_cells (n := 99) hL (t := 291) (name := "math/bits.deBruijn32tab") (d := Rows.laid_math_bits_deBruijn32tab) (by simp [Rows.lawtextNilRow]) (by kernel_rfl) (by kernel_rfl) (by kernel_rfl)
  · intro p hp
    simp only [CC, List.mem_singleton] at hp
    subst hp
    exact hm
end Go.Am

namespace Go.Am
open Go Go.Proofs Go.Proofs.YtpnaeljbfnjghaaGreatDoor

theorem own1 : ownKnob Proofs.Tryz.prog.godebug = none := by kernel_rfl
def strB (s : List UInt8) : Value := .string ⟨s.toArray⟩
def u8s (l : List Int) : Array Value := (l.map fun z => Value.int .u8 z).toArray
/-- THE WITNESS: the settled world with two blocks more (the two errors' structs), the nine variables holding what their initialisers lay. -/
noncomputable def laidWorld (os : Os) : World :=
  let N := (World.settled Proofs.Tryz.prog os).heap.size
  let w0 := World.holding Proofs.Tryz.prog os ⟨#[.cells #[strB [105, 110, 118, 97, 108, 105, 100, 32, 115, 121, 110, 116, 97, 120]] 329, .cells #[strB [118, 97, 108, 117, 101, 32, 111, 117, 116, 32, 111, 102, 32, 114, 97, 110, 103, 101]] 329], #[], []⟩
  let put (h : Array Obj) (g : Nat) (cs : Array Value) : Array Obj := h.modify g fun
    | .cells _ t frozen => .cells cs t frozen
    | o => o
  let h0 := put w0.heap 0 #[strB [32, 62, 32], strB [32, 62, 62, 32], strB [32, 60, 60, 32]]
  let h1 := put h0 1 #[strB [42], .int .i64 0, .int .i64 (-1), strB [43], .int .i64 1, .int .i64 (-1), strB [63], .int .i64 0, .int .i64 1]
  let h3 := put h1 3 (u8s [0, 1, 56, 2, 57, 49, 28, 3, 61, 58, 42, 50, 38, 29, 17, 4, 62, 47, 59, 36, 45, 43, 51, 22, 53, 39, 33, 30, 24, 18, 12, 5, 63, 55, 48, 27, 60, 41, 37, 16, 46, 35, 44, 21, 52, 32, 23, 11, 54, 26, 40, 15, 34, 20, 31, 10, 25, 14, 19, 9, 13, 8, 7, 6])
  let h4 := put h3 4 (u8s [0, 1, 28, 2, 29, 14, 24, 3, 30, 22, 20, 15, 25, 17, 4, 8, 31, 27, 13, 23, 21, 19, 16, 7, 26, 12, 18, 6, 11, 5, 10, 9])
  let h5 := put h4 5 (u8s Lib.firstTab)
  let h6 := put h5 6 (u8s [128, 191, 160, 191, 128, 159, 144, 191, 128, 143, 0, 0, 0, 0, 0, 0, 0, 0, 0, 0, 0, 0, 0, 0, 0, 0, 0, 0, 0, 0, 0, 0])
  let h7 := put h6 7 (([1, 10, 100, 1000, 10000, 100000, 1000000, 10000000, 100000000, 1000000000, 10000000000, 100000000000, 1000000000000, 10000000000000, 100000000000000, 1000000000000000, 10000000000000000, 100000000000000000, 1000000000000000000, 10000000000000000000].map fun (z : Int) => Value.int .u64 z).toArray)
  let h8 := put h7 8 #[.iface 327 (.pointer (some ⟨N, 0, none⟩))]
  let h9 := put h8 9 #[.iface 327 (.pointer (some ⟨N + 1, 0, none⟩))]
  { w0 with heap := h9 }

set_option maxRecDepth 1000000 in
theorem laid_met (os : Os) (args : Array Value) : laidMet Proofs.Tryz.prog Rows.lawtextNilRow.laid ((laidWorld os).forCall (fun _ _ => 0) ⟨#[], args, []⟩).memory :=
  laidMet_of_run' 8 (by kernel_rfl) (by kernel_rfl)
noncomputable def zv (t : TypeId) : Value := ((Proofs.Tryz.prog.info? t).bind (·.zero)).getD .nilIface
theorem maxLen_cell {W : World} (h : W.ShapedOpen Proofs.Tryz.prog) : ∃ m : Int, W.cell? ⟨2, 0, none⟩ = some (.int .i64 m) :=
  cell_of_shapedOpen_int (t := 3) (zero := #[.int .i64 0]) (k := .i64) h (of_decide_eq_true (by kernel_rfl)) (by kernel_rfl) rfl (by kernel_rfl) (by kernel_rfl) (by kernel_rfl)
end Go.Am
