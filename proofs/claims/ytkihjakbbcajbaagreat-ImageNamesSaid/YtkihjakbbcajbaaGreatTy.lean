/- The types of this seat's data. -/
import Derived.Test.YtkihjakbbcajbaaGreatPM1
namespace Go.Proofs.YtkihjakbbcajbaaGreat.PM
open Go Go.Proofs
@[reducible] noncomputable def t0 : Ty := (.pair (.int .i64) (.pair (.int .i64) (.pair (.int .i64) .unit)))
@[reducible] noncomputable def t1 : Ty := (.pair t0 (.pair (.int .i64) (.pair (.int .i64) (.pair (.int .u64) .unit))))
@[reducible] noncomputable def t2 : Ty := (.pair (.slice (.int .i64)) (.pair (.slice .bool) (.pair (.int .i64) .unit)))
@[reducible] noncomputable def t3 : Ty := (.pair (.int .u32) (.pair (.int .i64) (.pair .bool .unit)))
@[reducible] noncomputable def t4 : Ty := (.pair (.slice (.int .i64)) (.pair (.slice (.int .i64)) (.pair (.int .i64) (.pair (.int .i64) .unit))))
@[reducible] noncomputable def t5 : Ty := (.pair (.int .i64) (.pair (.slice (.int .u32)) (.pair (.slice t1) (.pair t2 (.pair (.slice t3) (.pair t4 .unit))))))
@[reducible] noncomputable def t6 : Ty := (.pair (.int .u64) (.pair (.int .u64) (.pair (.int .u64) .unit)))
@[reducible] noncomputable def t7 : Ty := (.pair (.int .u32) (.pair (.arr 3 t0) (.pair t1 (.pair t5 (.pair t5 (.pair (.slice (.int .u32)) (.pair t6 .unit)))))))
@[reducible] noncomputable def t8 : Ty := (.pair (.int .u64) (.pair (.arr 32 (.int .u8)) (.pair (.arr 16 (.int .u32)) (.pair (.slice t7) .unit))))
@[reducible] noncomputable def t9 : Ty := (.pair (.int .u32) (.pair t1 .unit))
@[reducible] noncomputable def t10 : Ty := (.pair (.int .u32) (.pair (.arr 3 t0) (.pair (.arr 2 (.int .i64)) (.pair t1 (.pair (.slice t9) (.pair (.slice t9) (.pair (.slice (.int .u32)) (.pair t6 .unit))))))))
@[reducible] noncomputable def t11 : Ty := (.pair (.int .u64) (.pair (.arr 32 (.int .u8)) (.pair (.arr 16 (.int .u32)) (.pair (.slice t10) .unit))))
@[reducible] noncomputable def t12 : Ty := (.pair (.slice (.int .u8)) (.pair .bool .unit))
@[reducible] noncomputable def t13 : Ty := (.pair (.slice (.int .u8)) .unit)
@[reducible] noncomputable def t14 : Ty := (.pair (.int .i64) (.pair (.int .i64) (.pair .bool (.pair (.int .u8) .unit))))
@[reducible] noncomputable def t15 : Ty := (.pair .str (.pair (.int .u64) .unit))
@[reducible] noncomputable def d7_ : t7.den := (0, (List.replicate 3 (0, 0, 0, ())), ((0, 0, 0, ()), 0, 0, 0, ()), (0, ([] : List Int), ([] : List t1.den), (([] : List Int), ([] : List Bool), 0, ()), ([] : List t3.den), (([] : List Int), ([] : List Int), 0, 0, ()), ()), (0, ([] : List Int), ([] : List t1.den), (([] : List Int), ([] : List Bool), 0, ()), ([] : List t3.den), (([] : List Int), ([] : List Int), 0, 0, ()), ()), ([] : List Int), (0, 0, 0, ()), ())
@[reducible] noncomputable def d10_ : t10.den := (0, (List.replicate 3 (0, 0, 0, ())), (List.replicate 2 (0 : Int)), ((0, 0, 0, ()), 0, 0, 0, ()), ([] : List t9.den), ([] : List t9.den), ([] : List Int), (0, 0, 0, ()), ())
@[reducible] noncomputable def d9_ : t9.den := (0, ((0, 0, 0, ()), 0, 0, 0, ()), ())
end Go.Proofs.YtkihjakbbcajbaaGreat.PM
