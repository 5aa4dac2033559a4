/- Contracts and equations of the functions, printed by a program of this session: part 3. -/
import Derived.Test.YtkihjakbbcajbaaGreatZpmD
namespace Go.Proofs.YtkihjakbbcajbaaGreat.PM
open Go Go.Proofs
noncomputable section
set_option linter.unusedVariables false
/-! ### spigot/spigotlaw33.ImageNames (5) -/
def spigotlaw33_ImageNames.sg : Sig := ⟨[], [(.bool, true)]⟩
def spigotlaw33_ImageNames.E : Env := ⟨tl, fun i => look i [(7, image_Parse.Fn), (9, image_Same.Fn), (11, spigotref20_Same.Fn), (12, spigotlaw33_alive.Fn), (14, image_Write.Fn), (16, spigotlaw33_example.Fn), (17, image_Size.Fn)], [], eqs, globs, prims⟩
def spigotlaw33_ImageNames.c := cxOf spigotlaw33_ImageNames.E spigotlaw33_ImageNames.sg Tryz.f5
def spigotlaw33_ImageNames.b := body Tryz.f5
def spigotlaw33_ImageNames.Fn : Fun := fnOf spigotlaw33_ImageNames.E spigotlaw33_ImageNames.sg Tryz.f5
def spigotlaw33_ImageNames.F : Option (Bool × Unit) := spigotlaw33_ImageNames.Fn.F ()
def spigotlaw33_ImageNames.S1 (a b : Int) (c d : Int) (e f : Int) (g h : Int) (j k b0 : Int) (b02 b03 l1 : List Int) (l2 : List t7.den) : St := ⟨[(3, (.v (.int .i64) a)), (5, (.v (.int .i64) b)), (7, (.v (.int .i64) c)), (9, (.v (.int .i64) d)), (11, (.v (.int .i64) e)), (12, (.ptr 0 [])), (13, (.v (.int .i64) f)), (15, (.v (.int .i64) g)), (17, (.v (.int .i64) h)), (18, (.sl 1)), (21, (.v (.int .i64) j)), (23, (.v (.int .i64) k))], [(0, some (.box (.agg [(.v (.int .u64) b0), (.v (.arr 32 (.int .u8)) b02), (.v (.arr 16 (.int .u32)) b03), (.sl 2)]))), (1, some (.row (.int .u8) l1 false)), (2, some (.row t7 l2 false))], 3, []⟩
def spigotlaw33_ImageNames.L1 (a b : Int) (c d : Int) (e f : Int) (g h : Int) (j k b0 : Int) (b02 b03 l1 : List Int) (l2 : List t7.den) : Option (Bool × Unit) := res spigotlaw33_ImageNames.c (atJoin spigotlaw33_ImageNames.b [1, 1, 1, 1, 1, 1, 1, 1, 1, 1, 1, 1, 1, 1, 0, 1]) (spigotlaw33_ImageNames.S1 a b c d e f g h j k b0 b02 b03 l1 l2)
theorem spigotlaw33_ImageNames.spec : FnSpec Tryz.prog globs 5 spigotlaw33_ImageNames.Fn := spec_of (E := spigotlaw33_ImageNames.E) (envOk_at tabOk eqOk primsOk (.cons image_Parse.spec <| .cons image_Same.spec <| .cons spigotref20_Same.spec <| .cons spigotlaw33_alive.spec <| .cons image_Write.spec <| .cons spigotlaw33_example.spec <| .cons image_Size.spec <| .nil)) mixOk Tryz.func5 (by kernel_rfl)
theorem spigotlaw33_ImageNames.L1_eq (a b : Int) (c d : Int) (e f : Int) (g h : Int) (j k b0 : Int) (b02 b03 l1 : List Int) (l2 : List t7.den) : spigotlaw33_ImageNames.L1 a b c d e f g h j k b0 b02 b03 l1 l2 =
 bif (lim ((List.length ([] : List Int)) + (List.length l1)) (.int .u8)) then
  bif (decide ((0 : Int) ≤ 7 ∧ (7 : Int) < ((List.length (([] : List Int) ++ l1) : Int)))) then
   (image_Same.F l1 (List.set (([] : List Int) ++ l1) (Int.toNat 7) 9)).bind fun r0 =>
   bif (lim ((List.length ([] : List Int)) + (List.length l1)) (.int .u8)) then
    bif (decide ((0 : Int) ≤ 43 ∧ (43 : Int) < ((List.length (([] : List Int) ++ l1) : Int)))) then
     bif (decide ((0 : Int) ≤ 43 ∧ (43 : Int) < ((List.length (([] : List Int) ++ l1) : Int)))) then
      (image_Same.F l1 (List.set (([] : List Int) ++ l1) (Int.toNat 43) (IntKind.wrap .u8 ((List.getD (([] : List Int) ++ l1) (Int.toNat 43) 0) + 1)))).bind fun r1 =>
      bif (lim ((List.length ([] : List Int)) + (List.length l1)) (.int .u8)) then
       bif (decide ((0 : Int) ≤ 105 ∧ (105 : Int) < ((List.length (([] : List Int) ++ l1) : Int)))) then
        (image_Parse.F (List.set (([] : List Int) ++ l1) (Int.toNat 105) 16)).bind fun r2 =>
        spigotlaw33_alive.F.bind fun r3 =>
        bif r3.1 then
         bif (a == 8) then
          bif (b == 8) then
           bif (c == 4) then
            bif (d == 12) then
             bif (e == 12) then
              bif (f == 0) then
               (spigotref20_Same.F (b0, b02, b03, l2, ()) (0, (List.replicate 32 (0 : Int)), (List.replicate 16 (0 : Int)), ([] : List t7.den), ())).bind fun r4 =>
               bif r4.1 then
                bif (g == 12) then
                 bif (h == 12) then
                  bif (j == 12) then
                   bif (k == 12) then
                    bif (r0.2.1 == 0) then
                     bif r0.1 then
                      bif (r1.2.1 == 0) then
                       bif (!r1.1) then
                        some ((r2.2.1 == 12), ())
                       else
                        some (false, ())
                      else
                       some (false, ())
                     else
                      some (false, ())
                    else
                     some (false, ())
                   else
                    some (false, ())
                  else
                   some (false, ())
                 else
                  some (false, ())
                else
                 some (false, ())
               else
                some (false, ())
              else
               some (false, ())
             else
              some (false, ())
            else
             some (false, ())
           else
            some (false, ())
          else
           some (false, ())
         else
          some (false, ())
        else
         some (false, ())
       else none
      else none
     else none
    else none
   else none
  else none
 else none := res_eq (by kernel_rfl)
theorem spigotlaw33_ImageNames.F_eq : spigotlaw33_ImageNames.F =
 spigotlaw33_example.F.bind fun r0 =>
 bif (decide ((0 : Int) ≤ 0 ∧ (0 : Int) < ((List.length r0.1.2.2.2.1 : Int)))) then
  (image_Write.F (0, r0.1.2.1, r0.1.2.2.1, (List.set r0.1.2.2.2.1 (Int.toNat 0) ((List.getD r0.1.2.2.2.1 (Int.toNat 0) d7_).1, ((List.getD r0.1.2.2.2.1 (Int.toNat 0) d7_).2).1, (((((List.getD r0.1.2.2.2.1 (Int.toNat 0) d7_).2).2).1).1, (((((List.getD r0.1.2.2.2.1 (Int.toNat 0) d7_).2).2).1).2).1, ((((((List.getD r0.1.2.2.2.1 (Int.toNat 0) d7_).2).2).1).2).2).1, 1, ()), ((((List.getD r0.1.2.2.2.1 (Int.toNat 0) d7_).2).2).2).1, (((((List.getD r0.1.2.2.2.1 (Int.toNat 0) d7_).2).2).2).2).1, ((((((List.getD r0.1.2.2.2.1 (Int.toNat 0) d7_).2).2).2).2).2).1, (((((((List.getD r0.1.2.2.2.1 (Int.toNat 0) d7_).2).2).2).2).2).2).1, ())), ())).bind fun r1 =>
  (image_Size.F (0, r0.1.2.1, r0.1.2.2.1, (List.set r0.1.2.2.2.1 (Int.toNat 0) ((List.getD r0.1.2.2.2.1 (Int.toNat 0) d7_).1, ((List.getD r0.1.2.2.2.1 (Int.toNat 0) d7_).2).1, (((((List.getD r0.1.2.2.2.1 (Int.toNat 0) d7_).2).2).1).1, (((((List.getD r0.1.2.2.2.1 (Int.toNat 0) d7_).2).2).1).2).1, ((((((List.getD r0.1.2.2.2.1 (Int.toNat 0) d7_).2).2).1).2).2).1, 1, ()), ((((List.getD r0.1.2.2.2.1 (Int.toNat 0) d7_).2).2).2).1, (((((List.getD r0.1.2.2.2.1 (Int.toNat 0) d7_).2).2).2).2).1, ((((((List.getD r0.1.2.2.2.1 (Int.toNat 0) d7_).2).2).2).2).2).1, (((((((List.getD r0.1.2.2.2.1 (Int.toNat 0) d7_).2).2).2).2).2).2).1, ())), ())).bind fun r2 =>
  bif (decide ((0 : Int) ≤ 5001 ∧ (5001 : Int) ≤ 5001) && (lim (Int.toNat 5001) (.int .u8))) then
   (image_Parse.F (List.replicate (Int.toNat 5001) (0 : Int))).bind fun r3 =>
   bif (decide ((0 : Int) ≤ 5000 ∧ (5000 : Int) ≤ 5000) && (lim (Int.toNat 5000) (.int .u8))) then
    (image_Parse.F (List.replicate (Int.toNat 5000) (0 : Int))).bind fun r4 =>
    (image_Parse.F ([] : List Int)).bind fun r5 =>
    bif (decide ((0 : Int) ≤ 105 ∧ (105 : Int) ≤ 105) && (lim (Int.toNat 105) (.int .u8))) then
     (image_Parse.F (List.replicate (Int.toNat 105) (0 : Int))).bind fun r6 =>
     bif (decide ((0 : Int) ≤ 104 ∧ (104 : Int) ≤ 104) && (lim (Int.toNat 104) (.int .u8))) then
      (image_Parse.F (List.replicate (Int.toNat 104) (0 : Int))).bind fun r7 =>
      bif (decide ((0 : Int) ≤ 106 ∧ (106 : Int) ≤ 106) && (lim (Int.toNat 106) (.int .u8))) then
       (image_Parse.F (List.replicate (Int.toNat 106) (0 : Int))).bind fun r8 =>
       spigotlaw33_example.F.bind fun r9 =>
       (image_Write.F r9.1).bind fun r10 =>
       (image_Same.F ([] : List Int) r10.1).bind fun r11 =>
       (image_Same.F r10.1 ([] : List Int)).bind fun r12 =>
       bif (r10.2.1 != 0) then
        some (false, ())
       else
        bif (((List.length r10.1 : Int)) != 195) then
         some (false, ())
        else
         spigotlaw33_ImageNames.L1 r1.2.1 r2.2.1 r3.2.1 r4.2.1 r5.2.1 r6.2.1 r7.2.1 r8.2.1 r11.2.1 r12.2.1 r6.1.1 r6.1.2.1 r6.1.2.2.1 r10.1 r6.1.2.2.2.1
      else none
     else none
    else none
   else none
  else none
 else none := by kernel_rfl
end
end Go.Proofs.YtkihjakbbcajbaaGreat.PM
