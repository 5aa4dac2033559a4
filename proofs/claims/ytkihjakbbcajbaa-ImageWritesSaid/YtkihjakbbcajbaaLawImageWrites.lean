/- The statement ImageWrites: for every input that reads as data the law returns true, and its arguments read as before. -/
import Derived.Test.YtkihjakbbcajbaaRows
import Derived.Test.YtkihjakbbcajbaaPureImageWrites
import Derived.LaidMore
import Derived.Lay
import Derived.OpenShut
namespace Go.Proofs.Ytkihjakbbcajbaa.imageWrites
open Go Go.ChangeShapes Go.WideShapes Go.ChangeAt Go.RowKit Go.Proofs.Ytkihjakbbcajbaa.PM
theorem own : ownKnob Try.prog.godebug = none := by kernel_rfl
theorem laidOut : laidOutB Try.prog = true := by kernel_rfl
set_option maxRecDepth 100000 in
theorem lifted (os : Os) (started : os.Started) (H : Type) (enc : TypeId × Value → H) :
    ReturnsInHanded {} Try.checked os 3 .any (Rows.imageWritesSpec.pre6 enc Try.prog Try.f3 Rows.imageWritesRow.domain false) (Rows.imageWritesSpec.post enc Try.prog Try.f3 false true false false) := by
  refine law_lifted (C := Try.checked) own started (by kernel_rfl) Try.func3
    (ChangeSpec.witness6 (enc := enc) (C := Try.checked) false ⟨#[], #[.agg #[.int .u64 0, .int .u8 0, .int .u8 0, .int .u8 0, .int .u8 0, .int .u8 0, .int .u8 0, .int .u8 0, .int .u8 0, .int .u8 0, .int .u8 0, .int .u8 0, .int .u8 0, .int .u8 0, .int .u8 0, .int .u8 0, .int .u8 0, .int .u8 0, .int .u8 0, .int .u8 0, .int .u8 0, .int .u8 0, .int .u8 0, .int .u8 0, .int .u8 0, .int .u8 0, .int .u8 0, .int .u8 0, .int .u8 0, .int .u8 0, .int .u8 0, .int .u8 0, .int .u8 0, .int .u32 0, .int .u32 0, .int .u32 0, .int .u32 0, .int .u32 0, .int .u32 0, .int .u32 0, .int .u32 0, .int .u32 0, .int .u32 0, .int .u32 0, .int .u32 0, .int .u32 0, .int .u32 0, .int .u32 0, .int .u32 0, .slice none 0 0]], []⟩ 8 (by kernel_rfl) (by kernel_rfl) (by kernel_rfl) (by kernel_rfl))
    rfl (fun ds h => by
      match ds, h with
      | [a], _ => exact ⟨rfl, rfl, rfl⟩) rfl Try.underlying4 (by kernel_rfl) laidOut (by kernel_rfl) spigotlaw33_ImageWrites.spec (by kernel_rfl) ?_
  intro x hx
  have hp := Pure.imageWrites x hx
  dsimp only [spigotlaw33_ImageWrites.Fn, fnOf] at hp
  exact ⟨(true, ()), hp, fun _ _ _ _ _ h => out_bool h⟩
theorem over : Rows.imageWritesRow.holds Try.pinned (OpenSpec.ofChange Rows.imageWritesSpec) :=
  OpenClaim.holds_of_wide 3 Try.f3 rfl rfl rfl rfl rfl rfl rfl ⟨rfl, rfl, rfl, rfl, rfl⟩ rfl rfl rfl rfl rfl (by kernel_rfl) Try.func3 (by kernel_rfl)
    (of_decide_eq_true (by kernel_rfl)) (by unfold Func.isWrapper; first | (rw [if_pos (by decide +kernel)]; kernel_rfl) | (rw [if_neg (by decide +kernel)]; exact ⟨rfl, rfl⟩))
    (fun os started H enc _ => lifted os started H enc)
theorem proved : Rows.ImageWritesSaid := over
#print axioms proved
end Go.Proofs.Ytkihjakbbcajbaa.imageWrites
namespace Go.Proofs.Ytkihjakbbcajbaa
/-- The row, under a short name, for the claim. -/
theorem imageWrites_holds : Rows.ImageWritesSaid := imageWrites.proved
end Go.Proofs.Ytkihjakbbcajbaa
