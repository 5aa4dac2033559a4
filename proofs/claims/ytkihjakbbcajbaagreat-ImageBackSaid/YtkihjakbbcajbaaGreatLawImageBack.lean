/- The statement ImageBack: for every input that reads as data the law returns true, and its arguments read as before. -/
import Derived.Test.YtkihjakbbcajbaaGreatRows
import Derived.Test.YtkihjakbbcajbaaGreatPureImageBack
import Derived.LaidMore
import Derived.Lay
namespace Go.Proofs.YtkihjakbbcajbaaGreat.imageBack
open Go Go.ChangeShapes Go.WideShapes Go.ChangeAt Go.RowKit Go.Proofs.YtkihjakbbcajbaaGreat.PM
theorem own:ownKnob Tryz.prog.godebug=none:=by kernel_rfl
theorem laidOut:laidOutB Tryz.prog=true:=by kernel_rfl
set_option maxRecDepth 100000 in
theorem lifted (os:Os) (started:os.Started) (H:Type) (enc:TypeId × Value→H):
  ReturnsInHanded {} Tryz.checked os 4 .any (Rows.imageBackSpec.pre6 enc Tryz.prog Tryz.f4 Rows.imageBackRow.domain false) (Rows.imageBackSpec.post enc Tryz.prog Tryz.f4 false true false false):=by
 refine law_lifted (C:=Tryz.checked) own started (by kernel_rfl) Tryz.func4
  (ChangeSpec.witness6 (enc:=enc) (C:=Tryz.checked) false ⟨#[],#[.slice none 0 0,.int .i64 0],[]⟩ 8 (by kernel_rfl) (by kernel_rfl) (by kernel_rfl) (by kernel_rfl))
  rfl (fun ds h=>by
   match ds,h with
   |[a,b],_=>exact ⟨rfl,rfl,rfl⟩) rfl Tryz.underlying4 (by kernel_rfl) laidOut (by kernel_rfl) ag.spec (by kernel_rfl) ?_
 intro x hx
 have hp:=Pure.imageBack x hx
 dsimp only [ag.Fn,fnOf] at hp
 exact ⟨(true,()),hp,fun _ _ _ _ _ h=>out_bool h⟩
theorem over:Rows.imageBackRow.holds Tryz.pinned (OpenSpec.ofChange Rows.imageBackSpec):=
 OpenClaim.holds_of_wide 4 Tryz.f4 rfl rfl rfl rfl rfl rfl rfl ⟨rfl,rfl,rfl,rfl,rfl⟩ rfl rfl rfl rfl rfl (by kernel_rfl) Tryz.func4 (by kernel_rfl)
  (of_decide_eq_true (by kernel_rfl)) (by unfold Func.isWrapper;first|(rw [if_pos (by decide+kernel)];kernel_rfl)|(rw [if_neg (by decide+kernel)];exact ⟨rfl,rfl⟩))
  (fun os started H enc _=>lifted os started H enc)
theorem proved:Rows.ImageBackSaid:=over
#print axioms proved
end Go.Proofs.YtkihjakbbcajbaaGreat.imageBack
namespace Go.Proofs.YtkihjakbbcajbaaGreat
theorem imageBack_holds:Rows.ImageBackSaid:=imageBack.proved
end Go.Proofs.YtkihjakbbcajbaaGreat
