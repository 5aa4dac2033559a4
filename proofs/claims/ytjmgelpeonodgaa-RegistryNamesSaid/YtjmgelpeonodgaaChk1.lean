/- part.Check: its stretches between and within its loops over functions, by the pure machine. -/
import Derived.Test.YtjmgelpeonodgaaZpmB
import Derived.Test.YtjmgelpeonodgaaKd
namespace Go.Proofs.Ytjmgelpeonodgaa.PM
set_option linter.unusedSimpArgs false
set_option linter.unusedVariables false
open Go Go.Proofs
def evR (E : Env) (ops : List Oper) (nx : Nat) (tm : List (Nat × PV)) (h : Hp) : Option (List (Nat × PV) × Hp) := (opsD E ops ops nx tm h [] (fun tm hp _ => .done (tm, hp))).ev fun _ _ => none
def tmR (X : Option (List (Nat × PV) × Hp)) : List (Nat × PV) := (X.getD ([], [])).1
def hR (X : Option (List (Nat × PV) × Hp)) : Hp := (X.getD ([], [])).2
theorem evR_some {X : Option (List (Nat × PV) × Hp)} (h : X.isSome = true) : X = some (tmR X, hR X) := by
  obtain ⟨x, rfl⟩ := Option.isSome_iff_exists.1 h; rfl
noncomputable def pb : Code := part_Check.b
noncomputable def rf1 : Code := subC pb [1, 1, 1, 0, 1, 0]
noncomputable def rf2 : Code := subC pb [1, 1, 1, 1, 0, 1, 0]
noncomputable def bd1 : Code := rfBdy rf1
noncomputable def bd2 : Code := rfBdy rf2
/-- One more limit of the tenant's users, or of its ends, is taken in. -/
noncomputable def toL (x : Int × Int × Int × Int) : t0.den := (x.2.1, x.2.2.1, x.2.2.2, ())
noncomputable def tmP (p : t7.den) : List (Nat × PV) := [(1, .iptr t7 p), (2, .ptr 1 []), (3, .ptr 2 [])]
noncomputable def bx2 (b2 b3 : Nat) (n : Int) (s : List t0.den) : List BoxF := [⟨1, b2, .int .i64, n⟩, ⟨2, b3, .arr 3 t0, s⟩]
noncomputable def bx3 (b2 b3 b5 : Nat) (n : Int) (s : List t0.den) (x : Int × Int × Int × Int) : List BoxF := [⟨1, b2, .int .i64, n⟩, ⟨2, b3, .arr 3 t0, s⟩, ⟨3, b5, t0, toL x⟩]
noncomputable def hp2 (n : Int) (s : List t0.den) : Hp := hpL (bx2 0 0 n s)
noncomputable def hp3 (n : Int) (s : List t0.den) (x : Int × Int × Int × Int) : Hp := hpL (bx3 0 0 0 n s x)
/- the first loop -/
noncomputable def a1 : List Oper := regOps (rfAsg rf1)
noncomputable def r6 : List Oper := regOps (subC bd1 [0, 0])
noncomputable def r7 : List Oper := regOps (subC bd1 [0, 1, 0])
noncomputable def r8 : List Oper := regOps (subC bd1 [0, 1, 1, 0, 0])
theorem rf1_eq : subC pb [1, 1, 1, 0, 1] = .block 0 (.rangeFunc (.tmp 49) #[50, 51] (rfAsg rf1) bd1) := by kernel_rfl
theorem a1_eq : rfAsg rf1 = .region 5 a1.toArray false := by kernel_rfl
theorem bd1_eq : bd1 = .block 1 (.seq (.region 6 r6.toArray false) (.seq (.region 7 r7.toArray false) (.cond (.tmp 57) (.seq (.region 8 r8.toArray false) .ret) .skip))) := by kernel_rfl
noncomputable def qa1 (p : t7.den) (n : Int) (s : List t0.den) (x : Int × Int × Int × Int) := evR part_Check.E a1 1000 ((51, mk t0 (toL x)) :: (50, .v (.int .u32) x.1) :: tmP p) (hp2 n s)
theorem qa1_ok (p : t7.den) (n : Int) (s : List t0.den) (x : Int × Int × Int × Int) : (qa1 p n s x).isSome = true := by kernel_rfl
theorem qa1_5 (p : t7.den) (n : Int) (s : List t0.den) (x : Int × Int × Int × Int) : look 5 (tmR (qa1 p n s x)) = some (.ptr 1000 []) := by kernel_rfl
theorem qa1_b (p : t7.den) (n : Int) (s : List t0.den) (x : Int × Int × Int × Int) : (hR (qa1 p n s x)).at 1000 = some (.box (mk t0 (toL x))) := by kernel_rfl
theorem qa1_1 (p : t7.den) (n : Int) (s : List t0.den) (x : Int × Int × Int × Int) : (hR (qa1 p n s x)).at 1 = some (.box (.v (.int .i64) n)) := by kernel_rfl
theorem qa1_2 (p : t7.den) (n : Int) (s : List t0.den) (x : Int × Int × Int × Int) : (hR (qa1 p n s x)).at 2 = some (.box (.v (.arr 3 t0) s)) := by kernel_rfl
noncomputable def q6 (p : t7.den) (n : Int) (s : List t0.den) (x : Int × Int × Int × Int) := evR part_Check.E r6 2000 ((5, .ptr 3 []) :: tmP p) (hp3 n s x)
theorem q6_ok (p : t7.den) (n : Int) (s : List t0.den) (x : Int × Int × Int × Int) : (q6 p n s x).isSome = true := by kernel_rfl
noncomputable def q7 (p : t7.den) (n : Int) (s : List t0.den) (x : Int × Int × Int × Int) := evR part_Check.E r7 3000 (tmR (q6 p n s x)) (hR (q6 p n s x))
theorem q7_ok (p : t7.den) (n : Int) (s : List t0.den) (x : Int × Int × Int × Int) : (q7 p n s x).isSome = true := by kernel_rfl
theorem q7_57 (p : t7.den) (n : Int) (s : List t0.den) (x : Int × Int × Int × Int) : look 57 (tmR (q7 p n s x)) = some (.v .bool (!(Ty.beq (.arr 3 t0) (List.set s 1 (toL x)) p.2.1))) := by kernel_rfl
theorem q7_1 (p : t7.den) (n : Int) (s : List t0.den) (x : Int × Int × Int × Int) : (hR (q7 p n s x)).at 1 = some (.box (.v (.int .i64) n)) := by kernel_rfl
theorem q7_2 (p : t7.den) (n : Int) (s : List t0.den) (x : Int × Int × Int × Int) : (hR (q7 p n s x)).at 2 = some (.box (.v (.arr 3 t0) (List.set s 1 (toL x)))) := by kernel_rfl
noncomputable def q8 (p : t7.den) (n : Int) (s : List t0.den) (x : Int × Int × Int × Int) := evR part_Check.E r8 4000 (tmR (q7 p n s x)) (hR (q7 p n s x))
theorem q8_ok (p : t7.den) (n : Int) (s : List t0.den) (x : Int × Int × Int × Int) : (q8 p n s x).isSome = true := by kernel_rfl
theorem q8_1 (p : t7.den) (n : Int) (s : List t0.den) (x : Int × Int × Int × Int) : (hR (q8 p n s x)).at 1 = some (.box (.v (.int .i64) 8)) := by kernel_rfl
theorem q8_2 (p : t7.den) (n : Int) (s : List t0.den) (x : Int × Int × Int × Int) : (hR (q8 p n s x)).at 2 = some (.box (.v (.arr 3 t0) (List.set s 1 (toL x)))) := by kernel_rfl
/- the second loop -/
noncomputable def a2 : List Oper := regOps (subC (rfAsg rf2) [0])
noncomputable def a3 : List Oper := regOps (subC (rfAsg rf2) [1])
noncomputable def r12 : List Oper := regOps (subC bd2 [0, 0])
noncomputable def r13 : List Oper := regOps (subC bd2 [0, 1, 0])
noncomputable def r14 : List Oper := regOps (subC bd2 [0, 1, 1, 0, 0])
theorem rf2_eq : subC pb [1, 1, 1, 1, 0, 1] = .block 2 (.rangeFunc (.tmp 60) #[61, 62] (rfAsg rf2) bd2) := by kernel_rfl
theorem a2_eq : rfAsg rf2 = .seq (.region 10 a2.toArray false) (.region 11 a3.toArray false) := by kernel_rfl
theorem bd2_eq : bd2 = .block 3 (.seq (.region 12 r12.toArray false) (.seq (.region 13 r13.toArray false) (.cond (.tmp 72) (.seq (.region 14 r14.toArray false) .ret) .skip))) := by kernel_rfl
noncomputable def qa2 (p : t7.den) (n : Int) (s : List t0.den) (x : Int × Int × Int × Int) := evR part_Check.E a2 1000 ((62, mk t0 (toL x)) :: (61, .v (.int .u32) x.1) :: tmP p) (hp2 n s)
theorem qa2_ok (p : t7.den) (n : Int) (s : List t0.den) (x : Int × Int × Int × Int) : (qa2 p n s x).isSome = true := by kernel_rfl
noncomputable def qa3 (p : t7.den) (n : Int) (s : List t0.den) (x : Int × Int × Int × Int) := evR part_Check.E a3 2000 (tmR (qa2 p n s x)) (hR (qa2 p n s x))
theorem qa3_ok (p : t7.den) (n : Int) (s : List t0.den) (x : Int × Int × Int × Int) : (qa3 p n s x).isSome = true := by kernel_rfl
theorem qa3_6 (p : t7.den) (n : Int) (s : List t0.den) (x : Int × Int × Int × Int) : look 6 (tmR (qa3 p n s x)) = some (.v (.int .u32) x.1) := by kernel_rfl
theorem qa3_7 (p : t7.den) (n : Int) (s : List t0.den) (x : Int × Int × Int × Int) : look 7 (tmR (qa3 p n s x)) = some (.ptr 2000 []) := by kernel_rfl
theorem qa3_b (p : t7.den) (n : Int) (s : List t0.den) (x : Int × Int × Int × Int) : (hR (qa3 p n s x)).at 2000 = some (.box (mk t0 (toL x))) := by kernel_rfl
theorem qa3_1 (p : t7.den) (n : Int) (s : List t0.den) (x : Int × Int × Int × Int) : (hR (qa3 p n s x)).at 1 = some (.box (.v (.int .i64) n)) := by kernel_rfl
theorem qa3_2 (p : t7.den) (n : Int) (s : List t0.den) (x : Int × Int × Int × Int) : (hR (qa3 p n s x)).at 2 = some (.box (.v (.arr 3 t0) s)) := by kernel_rfl
noncomputable def q12 (p : t7.den) (n : Int) (s : List t0.den) (x : Int × Int × Int × Int) := evR part_Check.E r12 2000 ((7, .ptr 3 []) :: (6, .v (.int .u32) x.1) :: tmP p) (hp3 n s x)
theorem q12_ok (p : t7.den) (n : Int) (s : List t0.den) (x : Int × Int × Int × Int) : (q12 p n s x).isSome = true := by kernel_rfl
/- the test parts the ways -/
def brT {ρ : Type} : DT ρ → DT ρ
  | .br _ x _ => x
  | d => d
def brF {ρ : Type} : DT ρ → DT ρ
  | .br _ _ y => y
  | d => d
noncomputable def d13 (p : t7.den) (n : Int) (s : List t0.den) (x : Int × Int × Int × Int) : DT (List (Nat × PV) × Hp) := opsD part_Check.E r13 r13 3000 (tmR (q12 p n s x)) (hR (q12 p n s x)) [] (fun tm hp _ => .done (tm, hp))
noncomputable def q13 (p : t7.den) (n : Int) (s : List t0.den) (x : Int × Int × Int × Int) := evR part_Check.E r13 3000 (tmR (q12 p n s x)) (hR (q12 p n s x))
noncomputable def q13a (p : t7.den) (n : Int) (s : List t0.den) (x : Int × Int × Int × Int) := (brT (d13 p n s x)).ev fun _ _ => none
noncomputable def q13b (p : t7.den) (n : Int) (s : List t0.den) (x : Int × Int × Int × Int) := (brF (d13 p n s x)).ev fun _ _ => none
theorem d13_eq (p : t7.den) (n : Int) (s : List t0.den) (x : Int × Int × Int × Int) : d13 p n s x = .br (!(Ty.beq (.arr 3 t0) (List.set s 2 (toL x)) p.2.1)) (brT (d13 p n s x)) (brF (d13 p n s x)) := by kernel_rfl
theorem q13_eq (p : t7.den) (n : Int) (s : List t0.den) (x : Int × Int × Int × Int) : q13 p n s x = cond (!(Ty.beq (.arr 3 t0) (List.set s 2 (toL x)) p.2.1)) (q13a p n s x) (q13b p n s x) := by
  show (d13 p n s x).ev _ = _
  rw [d13_eq]; rfl
theorem q13a_ok (p : t7.den) (n : Int) (s : List t0.den) (x : Int × Int × Int × Int) : (q13a p n s x).isSome = true := by kernel_rfl
theorem q13b_ok (p : t7.den) (n : Int) (s : List t0.den) (x : Int × Int × Int × Int) : (q13b p n s x).isSome = true := by kernel_rfl
theorem q13a_72 (p : t7.den) (n : Int) (s : List t0.den) (x : Int × Int × Int × Int) : look 72 (tmR (q13a p n s x)) = some (.v .bool true) := by kernel_rfl
theorem q13b_72 (p : t7.den) (n : Int) (s : List t0.den) (x : Int × Int × Int × Int) : look 72 (tmR (q13b p n s x)) = some (.v .bool (decide (x.1 > 65535))) := by kernel_rfl
theorem q13a_1 (p : t7.den) (n : Int) (s : List t0.den) (x : Int × Int × Int × Int) : (hR (q13a p n s x)).at 1 = some (.box (.v (.int .i64) n)) := by kernel_rfl
theorem q13a_2 (p : t7.den) (n : Int) (s : List t0.den) (x : Int × Int × Int × Int) : (hR (q13a p n s x)).at 2 = some (.box (.v (.arr 3 t0) (List.set s 2 (toL x)))) := by kernel_rfl
theorem q13b_1 (p : t7.den) (n : Int) (s : List t0.den) (x : Int × Int × Int × Int) : (hR (q13b p n s x)).at 1 = some (.box (.v (.int .i64) n)) := by kernel_rfl
theorem q13b_2 (p : t7.den) (n : Int) (s : List t0.den) (x : Int × Int × Int × Int) : (hR (q13b p n s x)).at 2 = some (.box (.v (.arr 3 t0) (List.set s 2 (toL x)))) := by kernel_rfl
noncomputable def q14a (p : t7.den) (n : Int) (s : List t0.den) (x : Int × Int × Int × Int) := evR part_Check.E r14 4000 (tmR (q13a p n s x)) (hR (q13a p n s x))
noncomputable def q14b (p : t7.den) (n : Int) (s : List t0.den) (x : Int × Int × Int × Int) := evR part_Check.E r14 4000 (tmR (q13b p n s x)) (hR (q13b p n s x))
theorem q14a_ok (p : t7.den) (n : Int) (s : List t0.den) (x : Int × Int × Int × Int) : (q14a p n s x).isSome = true := by kernel_rfl
theorem q14b_ok (p : t7.den) (n : Int) (s : List t0.den) (x : Int × Int × Int × Int) : (q14b p n s x).isSome = true := by kernel_rfl
theorem q14a_1 (p : t7.den) (n : Int) (s : List t0.den) (x : Int × Int × Int × Int) : (hR (q14a p n s x)).at 1 = some (.box (.v (.int .i64) 8)) := by kernel_rfl
theorem q14a_2 (p : t7.den) (n : Int) (s : List t0.den) (x : Int × Int × Int × Int) : (hR (q14a p n s x)).at 2 = some (.box (.v (.arr 3 t0) (List.set s 2 (toL x)))) := by kernel_rfl
theorem q14b_1 (p : t7.den) (n : Int) (s : List t0.den) (x : Int × Int × Int × Int) : (hR (q14b p n s x)).at 1 = some (.box (.v (.int .i64) 8)) := by kernel_rfl
theorem q14b_2 (p : t7.den) (n : Int) (s : List t0.den) (x : Int × Int × Int × Int) : (hR (q14b p n s x)).at 2 = some (.box (.v (.arr 3 t0) (List.set s 2 (toL x)))) := by kernel_rfl
/- ahead of the loops, and what is made for the iterator -/
noncomputable def r3 : List Oper := regOps (subC pb [1, 1, 0])
noncomputable def r4 : Array Oper := (regOps (subC pb [1, 1, 1, 0, 0])).toArray
noncomputable def r9 : Array Oper := (regOps (subC pb [1, 1, 1, 1, 0, 0])).toArray
noncomputable def ct : Code := subC pb [1, 1, 1, 1, 1]
theorem k1_eq : atJoin part_Check.b [1, 0, 1] = [.code (.seq (.region 3 r3.toArray false) (.seq (.seq (.region 4 r4 false) (.block 0 (.rangeFunc (.tmp 49) #[50, 51] (rfAsg rf1) bd1))) (.seq (.seq (.region 9 r9 false) (.block 2 (.rangeFunc (.tmp 60) #[61, 62] (rfAsg rf2) bd2))) ct)))] := by kernel_rfl
noncomputable def bad2 (p : t7.den) (s : List t0.den) (x : Int × Int × Int × Int) : Bool := bif !(Ty.beq (.arr 3 t0) (List.set s 2 (toL x)) p.2.1) then true else decide (x.1 > 65535)
end Go.Proofs.Ytjmgelpeonodgaa.PM
