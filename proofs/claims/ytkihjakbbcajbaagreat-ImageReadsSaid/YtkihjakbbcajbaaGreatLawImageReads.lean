/- The statement ImageReads: for every input that reads as data the law returns true, and its arguments read as before. -/
import Derived.Test.YtkihjakbbcajbaaGreatRows
import Derived.Test.YtkihjakbbcajbaaGreatPureImageReads
import Derived.LaidMore
import Derived.Lay
namespace Go.Proofs.YtkihjakbbcajbaaGreat.imageReads
open Go Go.ChangeShapes Go.WideShapes Go.ChangeAt Go.RowKit Go.Proofs.YtkihjakbbcajbaaGreat.PM
theorem own:ownKnob Tryz.prog.godebug=none:=by kernel_rfl
theorem laidOut:laidOutB Tryz.prog=true:=by kernel_rfl
set_option maxRecDepth 100000 in
theorem lifted (os:Os) (started:os.Started) (H:Type) (enc:TypeId × Value→H):
  ReturnsInHanded {} Tryz.checked os 3 .any (Rows.imageReadsSpec.pre6 enc Tryz.prog Tryz.f3 Rows.imageReadsRow.domain false) (Rows.imageReadsSpec.post enc Tryz.prog Tryz.f3 false true false false):=by
 refine law_lifted (C:=Tryz.checked) own started (by kernel_rfl) Tryz.func3
  (ChangeSpec.witness6 (enc:=enc) (C:=Tryz.checked) false ⟨#[],#[.slice none 0 0,.slice none 0 0],[]⟩ 8 (by kernel_rfl) (by kernel_rfl) (by kernel_rfl) (by kernel_rfl))
  rfl (fun ds h=>by
   match ds,h with
   |[a,b],_=>exact ⟨rfl,rfl,rfl⟩) rfl Tryz.underlying4 (by kernel_rfl) laidOut (by kernel_rfl) cr.spec (by kernel_rfl) ?_
 intro x hx
 have hp:=Pure.imageReads x hx
 dsimp only [cr.Fn,fnOf] at hp
 exact ⟨(true,()),hp,fun _ _ _ _ _ h=>out_bool h⟩
theorem over:Rows.imageReadsRow.holds Tryz.pinned (OpenSpec.ofChange Rows.imageReadsSpec):=
 OpenClaim.holds_of_wide 3 Tryz.f3 rfl rfl rfl rfl rfl rfl rfl ⟨rfl,rfl,rfl,rfl,rfl⟩ rfl rfl rfl rfl rfl (by kernel_rfl) Tryz.func3 (by kernel_rfl)
  (of_decide_eq_true (by kernel_rfl)) (by unfold Func.isWrapper;first|(rw [if_pos (by decide+kernel)];kernel_rfl)|(rw [if_neg (by decide+kernel)];exact ⟨rfl,rfl⟩))
  (fun os started H enc _=>lifted os started H enc)
theorem proved:Rows.ImageReadsSaid:=over
#print axioms proved
end Go.Proofs.YtkihjakbbcajbaaGreat.imageReads
namespace Go.Proofs.YtkihjakbbcajbaaGreat
theorem imageReads_holds:Rows.ImageReadsSaid:=imageReads.proved
end Go.Proofs.YtkihjakbbcajbaaGreat
