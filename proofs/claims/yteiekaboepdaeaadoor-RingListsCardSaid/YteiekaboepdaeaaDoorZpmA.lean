/- Contracts and equations of the functions, printed by a program of this session. -/
import Derived.Test.YteiekaboepdaeaaDoorPM30
import Derived.Test.YteiekaboepdaeaaDoorPrim
import Derived.KernelRfl
namespace Go.Proofs.YteiekaboepdaeaaDoor.PM
open Go Go.Proofs
set_option linter.unusedVariables false
@[reducible] noncomputable def t0 : Ty := (.pair (.arr 8 (.int .u32)) (.pair (.slice (.int .u8)) (.pair (.int .i64) .unit)))
@[reducible] noncomputable def t1 : Ty := (.pair (.int .u32) (.pair (.arr 32 (.int .u8)) .unit))
@[reducible] noncomputable def t2 : Ty := (.pair (.int .i64) (.pair (.int .i64) (.pair .bool (.pair (.int .u8) .unit))))
@[reducible] noncomputable def t3 : Ty := (.pair .str (.pair (.int .u64) .unit))
noncomputable def tl : List (Nat × TI) := [(1, .other), (2, .data (.int .i64)), (3, .data (.int .i64)), (4, .data .bool), (5, .data (.int .u8)), (6, .data (.int .u8)), (7, .data t2), (8, .data t2), (9, .data .str), (10, .data .str), (11, .data .str), (12, .data (.int .u64)), (13, .data t3), (14, .data t3), (15, .other), (16, .other), (17, .other), (21, .data (.int .i32)), (22, .data (.slice (.int .u32))), (23, .data (.int .u32)), (24, .other), (25, .data (.arr 32 (.int .u8))), (26, .data (.arr 32 (.int .u8))), (27, .data (.int .i64)), (29, .other), (31, .other), (33, .other), (35, .other), (37, .other), (38, .other), (39, .other), (40, .other), (41, .other), (42, .other), (43, .other), (44, .other), (45, .other), (46, .other), (47, .data (.slice (.int .i64))), (49, .other), (50, .other), (51, .other), (52, .other), (54, .other), (55, .other), (56, .other), (57, .other), (58, .data (.slice (.int .u8))), (59, .other), (60, .data (.int .u64)), (61, .data (.slice t1)), (62, .data t1), (63, .data t1), (64, .other), (65, .other), (66, .other), (67, .other), (68, .other), (70, .other), (71, .other), (72, .other), (73, .other), (74, .other), (75, .data (.slice (.slice (.int .u32)))), (76, .other), (77, .other), (78, .other), (79, .data (.arr 8 (.int .u32))), (80, .data t0), (81, .data t0), (82, .other), (83, .other), (84, .other), (85, .data (.slice (.arr 32 (.int .u8)))), (86, .other), (87, .other), (88, .other), (89, .other), (90, .other), (91, .other), (92, .other), (93, .other), (94, .other), (95, .other), (96, .other), (97, .data (.int .u64)), (98, .data (.slice (.slice (.int .u8)))), (99, .other), (100, .data (.arr 64 (.int .u32))), (101, .other), (102, .other), (103, .other), (104, .other), (105, .other), (111, .other), (112, .data (.int .u8)), (113, .data (.int .u8)), (114, .other), (115, .other), (116, .data (.int .i32)), (117, .data (.int .i32))]
noncomputable def eqs : List Nat := [26]
noncomputable def glob0 : List Int := [1779033703, 3144134277, 1013904242, 2773480762, 1359893119, 2600822924, 528734635, 1541459225]
noncomputable def glob2 : List Int := [1116352408, 1899447441, 3049323471, 3921009573, 961987163, 1508970993, 2453635748, 2870763221, 3624381080, 310598401, 607225278, 1426881987, 1925078388, 2162078206, 2614888103, 3248222580, 3835390401, 4022224774, 264347078, 604807628, 770255983, 1249150122, 1555081692, 1996064986, 2554220882, 2821834349, 2952996808, 3210313671, 3336571891, 3584528711, 113926993, 338241895, 666307205, 773529912, 1294757372, 1396182291, 1695183700, 1986661051, 2177026350, 2456956037, 2730485921, 2820302411, 3259730800, 3345764771, 3516065817, 3600352804, 4094571909, 275423344, 430227734, 506948616, 659060556, 883997877, 958139571, 1322822218, 1537002063, 1747873779, 1955562222, 2024104815, 2227730452, 2361852424, 2428436474, 2756734187, 3204031479, 3329325298]
noncomputable def globs : List (Nat × PV) := [(0, .iptr (.arr 8 (.int .u32)) glob0), (2, .iptr (.arr 64 (.int .u32)) glob2)]
noncomputable def prims : List (Nat × Prim) := [(40, .del (.int .u32)), (41, .clone (.int .u32)), (44, .ins (.int .u32)), (50, .cmp), (62, .clone (.int .u8)), (68, .grow (.int .u8))]
theorem primsOk : PrimsOk Tryd.prog prims := .cons del40 <| .cons clone41 <| .cons ins44 <| .cons cmp50 <| .cons clone62 <| .cons grow68 <| .nil
theorem tabOk : tabB Tryd.prog tl = true := by kernel_rfl
theorem eqOk : EqOk Tryd.prog ⟨tl, fun _ => none, [], eqs, [], []⟩ := eqOk_of tabOk (by kernel_rfl)
theorem mixOk : Tryd.prog.follows .mixedOrders = true := by kernel_rfl
/-! ### spigot/spigotref41.Great (9) -/
noncomputable def spigotref41_Great.sg : Sig := ⟨[.val (.slice (.int .u32)), .val (.slice (.int .u32))], [(.bool, true)]⟩
noncomputable def spigotref41_Great.E : Env := ⟨tl, fun i => look i [], [], eqs, globs, prims⟩
noncomputable def spigotref41_Great.c := cxOf spigotref41_Great.E spigotref41_Great.sg Tryd.f9
noncomputable def spigotref41_Great.b := body Tryd.f9
noncomputable def spigotref41_Great.Fn : Fun := fnOf spigotref41_Great.E spigotref41_Great.sg Tryd.f9
noncomputable def spigotref41_Great.F (l : (List Int)) (tenants : (List Int)) : Option (Bool × Unit) := spigotref41_Great.Fn.F (l, tenants, ())
theorem spigotref41_Great.spec : FnSpec Tryd.prog globs 9 spigotref41_Great.Fn := spec_of (E := spigotref41_Great.E) (envOk_at tabOk eqOk primsOk (.nil)) mixOk Tryd.func9 (by kernel_rfl)
theorem spigotref41_Great.F_eq (l : (List Int)) (tenants : (List Int)) : spigotref41_Great.F l tenants =
  bif (decide ((((List.length l : Int)) : Int) > 30)) then
    some (true, ())
  else
    bif (decide ((((List.length tenants : Int)) : Int) > 15)) then
      bif (decide ((((List.length tenants : Int)) : Int) ≤ 100)) then
        some (true, ())
      else
        some ((decide ((((List.length tenants : Int)) : Int) > 120)), ())
    else
      some ((decide ((((List.length tenants : Int)) : Int) > 120)), ()) := by kernel_rfl
/-! ### slices.Concat[[]byte,byte] (60) -/
noncomputable def slices_Concat.sg : Sig := ⟨[.val (.slice (.slice (.int .u8)))], [((.slice (.int .u8)), true)]⟩
noncomputable def slices_Concat.E : Env := ⟨tl, fun i => look i [], [], eqs, globs, prims⟩
noncomputable def slices_Concat.c := cxOf slices_Concat.E slices_Concat.sg Tryd.f60
noncomputable def slices_Concat.b := body Tryd.f60
noncomputable def slices_Concat.Fn : Fun := fnOf slices_Concat.E slices_Concat.sg Tryd.f60
noncomputable def slices_Concat.F (slices : (List (List Int))) : Option ((List Int) × Unit) := slices_Concat.Fn.F (slices, ())
noncomputable def slices_Concat.S1 (slices : (List (List Int))) (size : Int) (t10_ : Int) (t11_ : Int) : St := ⟨[(0, (.v (.slice (.slice (.int .u8))) slices)), (3, (.v (.int .i64) size)), (9, (.v (.slice (.slice (.int .u8))) slices)), (10, (.v (.int .i64) t10_)), (11, (.v (.int .i64) t11_))], [], 0, []⟩
noncomputable def slices_Concat.L1 (slices : (List (List Int))) (size : Int) (t10_ : Int) (t11_ : Int) : Option ((List Int) × Unit) := res slices_Concat.c (atLoop slices_Concat.b [1, 1, 0, 1, 0]) (slices_Concat.S1 slices size t10_ t11_)
noncomputable def slices_Concat.S2 (slices : (List (List Int))) (size : Int) (t10_ : Int) (t11_ : Int) : St := ⟨[(0, (.v (.slice (.slice (.int .u8))) slices)), (3, (.v (.int .i64) size)), (9, (.v (.slice (.slice (.int .u8))) slices)), (10, (.v (.int .i64) t10_)), (11, (.v (.int .i64) t11_))], [], 0, []⟩
noncomputable def slices_Concat.L2 (slices : (List (List Int))) (size : Int) (t10_ : Int) (t11_ : Int) : Option ((List Int) × Unit) := res slices_Concat.c (atJoin slices_Concat.b [1, 1, 0, 1, 0, 0, 1, 0]) (slices_Concat.S2 slices size t10_ t11_)
noncomputable def slices_Concat.S3 (t25_ : (List (List Int))) (t26_ : Int) (t27_ : Int) (l0 : (List Int)) : St := ⟨[(6, (.sl 0)), (25, (.v (.slice (.slice (.int .u8))) t25_)), (26, (.v (.int .i64) t26_)), (27, (.v (.int .i64) t27_))], [(0, some (.row (.int .u8) l0 false))], 1, []⟩
noncomputable def slices_Concat.L3 (t25_ : (List (List Int))) (t26_ : Int) (t27_ : Int) (l0 : (List Int)) : Option ((List Int) × Unit) := res slices_Concat.c (atLoop slices_Concat.b [1, 1, 1, 1, 0, 1, 0]) (slices_Concat.S3 t25_ t26_ t27_ l0)
noncomputable def slices_Concat.S4 (t25_ : (List (List Int))) (t26_ : Int) (t27_ : Int) (l0 : (List Int)) : St := ⟨[(6, (.sl 0)), (25, (.v (.slice (.slice (.int .u8))) t25_)), (26, (.v (.int .i64) t26_)), (27, (.v (.int .i64) t27_))], [(0, some (.row (.int .u8) l0 false))], 1, []⟩
noncomputable def slices_Concat.L4 (t25_ : (List (List Int))) (t26_ : Int) (t27_ : Int) (l0 : (List Int)) : Option ((List Int) × Unit) := res slices_Concat.c (atJoin slices_Concat.b [1, 1, 1, 1, 0, 1, 0, 0, 1, 0]) (slices_Concat.S4 t25_ t26_ t27_ l0)
noncomputable def slices_Concat.S5 (slices : (List (List Int))) (size : Int) (t10_ : Int) (t11_ : Int) : St := ⟨[(0, (.v (.slice (.slice (.int .u8))) slices)), (3, (.v (.int .i64) size)), (9, (.v (.slice (.slice (.int .u8))) slices)), (10, (.v (.int .i64) t10_)), (11, (.v (.int .i64) t11_))], [], 0, []⟩
noncomputable def slices_Concat.L5 (slices : (List (List Int))) (size : Int) (t10_ : Int) (t11_ : Int) : Option ((List Int) × Unit) := res slices_Concat.c (atJoin slices_Concat.b [1, 1, 0, 1, 0, 0, 1, 1, 0, 0, 1, 1, 1]) (slices_Concat.S5 slices size t10_ t11_)
theorem slices_Concat.spec : FnSpec Tryd.prog globs 60 slices_Concat.Fn := spec_of (E := slices_Concat.E) (envOk_at tabOk eqOk primsOk (.nil)) mixOk Tryd.func60 (by kernel_rfl)
theorem slices_Concat.L1_eq (slices : (List (List Int))) (size : Int) (t10_ : Int) (t11_ : Int) : slices_Concat.L1 slices size t10_ t11_ =
  bif (decide ((t11_ : Int) < t10_)) then
    slices_Concat.L2 slices size t10_ t11_
  else
    bif (decide ((0 : Int) ≤ size) && lim (Int.toNat size) (.int .u8)) then
      slices_Concat.L3 slices ((List.length slices : Int)) 0 ([] : List Int)
    else none := res_eq (by kernel_rfl)
theorem slices_Concat.L2_eq (slices : (List (List Int))) (size : Int) (t10_ : Int) (t11_ : Int) : slices_Concat.L2 slices size t10_ t11_ =
  bif (decide ((0 : Int) ≤ t11_ ∧ (t11_ : Int) < ((List.length slices : Int)))) then
    bif (decide (((IntKind.wrap .i64 (size + ((List.length (List.getD slices (Int.toNat t11_) ([] : List Int)) : Int)))) : Int) < 0)) then
      none
    else
      slices_Concat.L5 slices (IntKind.wrap .i64 (size + ((List.length (List.getD slices (Int.toNat t11_) ([] : List Int)) : Int)))) t10_ t11_
  else none := res_eq (by kernel_rfl)
theorem slices_Concat.L3_eq (t25_ : (List (List Int))) (t26_ : Int) (t27_ : Int) (l0 : (List Int)) : slices_Concat.L3 t25_ t26_ t27_ l0 =
  bif (decide ((t27_ : Int) < t26_)) then
    slices_Concat.L4 t25_ t26_ t27_ l0
  else
    some (l0, ()) := res_eq (by kernel_rfl)
theorem slices_Concat.L4_eq (t25_ : (List (List Int))) (t26_ : Int) (t27_ : Int) (l0 : (List Int)) : slices_Concat.L4 t25_ t26_ t27_ l0 =
  bif (decide ((0 : Int) ≤ t27_ ∧ (t27_ : Int) < ((List.length t25_ : Int)))) then
    bif (lim ((List.length l0) + (List.length (List.getD t25_ (Int.toNat t27_) ([] : List Int)))) (.int .u8)) then
      slices_Concat.L3 t25_ t26_ (IntKind.wrap .i64 (t27_ + 1)) (l0 ++ (List.getD t25_ (Int.toNat t27_) ([] : List Int)))
    else none
  else none := res_eq (by kernel_rfl)
theorem slices_Concat.L5_eq (slices : (List (List Int))) (size : Int) (t10_ : Int) (t11_ : Int) : slices_Concat.L5 slices size t10_ t11_ =
  slices_Concat.L1 slices size t10_ (IntKind.wrap .i64 (t11_ + 1)) := res_eq (by kernel_rfl)
theorem slices_Concat.F_eq (slices : (List (List Int))) : slices_Concat.F slices =
  slices_Concat.L1 slices 0 ((List.length slices : Int)) 0 := by kernel_rfl
/-! ### math/bits.RotateLeft32 (74) -/
noncomputable def bits_RotateLeft32.sg : Sig := ⟨[.val (.int .u32), .val (.int .i64)], [((.int .u32), true)]⟩
noncomputable def bits_RotateLeft32.E : Env := ⟨tl, fun i => look i [], [], eqs, globs, prims⟩
noncomputable def bits_RotateLeft32.c := cxOf bits_RotateLeft32.E bits_RotateLeft32.sg Tryd.f74
noncomputable def bits_RotateLeft32.b := body Tryd.f74
noncomputable def bits_RotateLeft32.Fn : Fun := fnOf bits_RotateLeft32.E bits_RotateLeft32.sg Tryd.f74
noncomputable def bits_RotateLeft32.F (x : Int) (k : Int) : Option (Int × Unit) := bits_RotateLeft32.Fn.F (x, k, ())
theorem bits_RotateLeft32.spec : FnSpec Tryd.prog globs 74 bits_RotateLeft32.Fn := spec_of (E := bits_RotateLeft32.E) (envOk_at tabOk eqOk primsOk (.nil)) mixOk Tryd.func74 (by kernel_rfl)
theorem bits_RotateLeft32.F_eq (x : Int) (k : Int) : bits_RotateLeft32.F x k =
  bif (decide ((0 : Int) ≤ (bits .and .u64 (IntKind.wrap .u64 k) 31))) then
    bif (decide ((0 : Int) ≤ (IntKind.wrap .u64 (32 - (bits .and .u64 (IntKind.wrap .u64 k) 31))))) then
      some ((bits .or .u32 (IntKind.wrap .u32 (x * 2 ^ min (Int.toNat (bits .and .u64 (IntKind.wrap .u64 k) 31)) (IntKind.bits .u32))) (Int.fdiv x (2 ^ min (Int.toNat (IntKind.wrap .u64 (32 - (bits .and .u64 (IntKind.wrap .u64 k) 31)))) (IntKind.bits .u32)))), ())
    else none
  else none := by kernel_rfl
/-! ### spigot/sha.turns (69) -/
noncomputable def sha_turns.sg : Sig := ⟨[.val (.int .u32), .val (.slice (.int .i64))], [((.int .u32), true)]⟩
noncomputable def sha_turns.E : Env := ⟨tl, fun i => look i [(74, bits_RotateLeft32.Fn)], [], eqs, globs, prims⟩
noncomputable def sha_turns.c := cxOf sha_turns.E sha_turns.sg Tryd.f69
noncomputable def sha_turns.b := body Tryd.f69
noncomputable def sha_turns.Fn : Fun := fnOf sha_turns.E sha_turns.sg Tryd.f69
noncomputable def sha_turns.F (x : Int) (by_ : (List Int)) : Option (Int × Unit) := sha_turns.Fn.F (x, by_, ())
noncomputable def sha_turns.S1 (x : Int) (out : Int) (t8_ : (List Int)) (t9_ : Int) (t10_ : Int) : St := ⟨[(0, (.v (.int .u32) x)), (5, (.v (.int .u32) out)), (8, (.v (.slice (.int .i64)) t8_)), (9, (.v (.int .i64) t9_)), (10, (.v (.int .i64) t10_))], [], 0, []⟩
noncomputable def sha_turns.L1 (x : Int) (out : Int) (t8_ : (List Int)) (t9_ : Int) (t10_ : Int) : Option (Int × Unit) := res sha_turns.c (atLoop sha_turns.b [1, 1, 0, 1, 0]) (sha_turns.S1 x out t8_ t9_ t10_)
noncomputable def sha_turns.S2 (x : Int) (out : Int) (t8_ : (List Int)) (t9_ : Int) (t10_ : Int) : St := ⟨[(0, (.v (.int .u32) x)), (5, (.v (.int .u32) out)), (8, (.v (.slice (.int .i64)) t8_)), (9, (.v (.int .i64) t9_)), (10, (.v (.int .i64) t10_))], [], 0, []⟩
noncomputable def sha_turns.L2 (x : Int) (out : Int) (t8_ : (List Int)) (t9_ : Int) (t10_ : Int) : Option (Int × Unit) := res sha_turns.c (atJoin sha_turns.b [1, 1, 0, 1, 0, 0, 1, 0]) (sha_turns.S2 x out t8_ t9_ t10_)
theorem sha_turns.spec : FnSpec Tryd.prog globs 69 sha_turns.Fn := spec_of (E := sha_turns.E) (envOk_at tabOk eqOk primsOk (.cons bits_RotateLeft32.spec <| .nil)) mixOk Tryd.func69 (by kernel_rfl)
theorem sha_turns.L1_eq (x : Int) (out : Int) (t8_ : (List Int)) (t9_ : Int) (t10_ : Int) : sha_turns.L1 x out t8_ t9_ t10_ =
  bif (decide ((t10_ : Int) < t9_)) then
    sha_turns.L2 x out t8_ t9_ t10_
  else
    some (out, ()) := res_eq (by kernel_rfl)
theorem sha_turns.L2_eq (x : Int) (out : Int) (t8_ : (List Int)) (t9_ : Int) (t10_ : Int) : sha_turns.L2 x out t8_ t9_ t10_ =
  bif (decide ((0 : Int) ≤ t10_ ∧ (t10_ : Int) < ((List.length t8_ : Int)))) then
    (bits_RotateLeft32.F x (IntKind.wrap .i64 (0 - (List.getD t8_ (Int.toNat t10_) 0)))).bind fun r0 =>
    sha_turns.L1 x (bits .xor .u32 out r0.1) t8_ t9_ (IntKind.wrap .i64 (t10_ + 1))
  else none := res_eq (by kernel_rfl)
theorem sha_turns.F_eq (x : Int) (by_ : (List Int)) : sha_turns.F x by_ =
  sha_turns.L1 x 0 by_ ((List.length by_ : Int)) 0 := by kernel_rfl
/-! ### spigot/sha.take (61) -/
noncomputable def sha_take.sg : Sig := ⟨[.val (.arr 8 (.int .u32)), .val (.slice (.int .u8))], [((.arr 8 (.int .u32)), true)]⟩
noncomputable def sha_take.E : Env := ⟨tl, fun i => look i [(69, sha_turns.Fn)], [], eqs, globs, prims⟩
noncomputable def sha_take.c := cxOf sha_take.E sha_take.sg Tryd.f61
noncomputable def sha_take.b := body Tryd.f61
noncomputable def sha_take.Fn : Fun := fnOf sha_take.E sha_take.sg Tryd.f61
noncomputable def sha_take.F (h : (List Int)) (b : (List Int)) : Option ((List Int) × Unit) := sha_take.Fn.F (h, b, ())
noncomputable def sha_take.S1 (b : (List Int)) (t19_ : Int) (b0 : (List Int)) (b1 : (List Int)) (b2 : (List Int)) : St := ⟨[(1, (.v (.slice (.int .u8)) b)), (2, (.ptr 0 [])), (4, (.ptr 1 [])), (5, (.ptr 2 [])), (19, (.v (.int .i64) t19_))], [(0, some (.box (.v (.arr 8 (.int .u32)) b0))), (1, some (.box (.v (.arr 8 (.int .u32)) b1))), (2, some (.box (.v (.arr 64 (.int .u32)) b2)))], 3, []⟩
noncomputable def sha_take.L1 (b : (List Int)) (t19_ : Int) (b0 : (List Int)) (b1 : (List Int)) (b2 : (List Int)) : Option ((List Int) × Unit) := res sha_take.c (atLoop sha_take.b [1, 1, 0, 1, 0]) (sha_take.S1 b t19_ b0 b1 b2)
noncomputable def sha_take.S2 (b : (List Int)) (t19_ : Int) (b0 : (List Int)) (b1 : (List Int)) (b2 : (List Int)) : St := ⟨[(1, (.v (.slice (.int .u8)) b)), (2, (.ptr 0 [])), (4, (.ptr 1 [])), (5, (.ptr 2 [])), (19, (.v (.int .i64) t19_))], [(0, some (.box (.v (.arr 8 (.int .u32)) b0))), (1, some (.box (.v (.arr 8 (.int .u32)) b1))), (2, some (.box (.v (.arr 64 (.int .u32)) b2)))], 3, []⟩
noncomputable def sha_take.L2 (b : (List Int)) (t19_ : Int) (b0 : (List Int)) (b1 : (List Int)) (b2 : (List Int)) : Option ((List Int) × Unit) := res sha_take.c (atJoin sha_take.b [1, 1, 0, 1, 0, 0, 1, 0]) (sha_take.S2 b t19_ b0 b1 b2)
noncomputable def sha_take.S3 (t : Int) (b0 : (List Int)) (b1 : (List Int)) (b2 : (List Int)) : St := ⟨[(2, (.ptr 0 [])), (4, (.ptr 1 [])), (5, (.ptr 2 [])), (9, (.v (.int .i64) t))], [(0, some (.box (.v (.arr 8 (.int .u32)) b0))), (1, some (.box (.v (.arr 8 (.int .u32)) b1))), (2, some (.box (.v (.arr 64 (.int .u32)) b2)))], 3, []⟩
noncomputable def sha_take.L3 (t : Int) (b0 : (List Int)) (b1 : (List Int)) (b2 : (List Int)) : Option ((List Int) × Unit) := res sha_take.c (atLoop sha_take.b [1, 1, 1, 0, 1, 0]) (sha_take.S3 t b0 b1 b2)
noncomputable def sha_take.S4 (t : Int) (b0 : (List Int)) (b1 : (List Int)) (b2 : (List Int)) : St := ⟨[(2, (.ptr 0 [])), (4, (.ptr 1 [])), (5, (.ptr 2 [])), (9, (.v (.int .i64) t))], [(0, some (.box (.v (.arr 8 (.int .u32)) b0))), (1, some (.box (.v (.arr 8 (.int .u32)) b1))), (2, some (.box (.v (.arr 64 (.int .u32)) b2)))], 3, []⟩
noncomputable def sha_take.L4 (t : Int) (b0 : (List Int)) (b1 : (List Int)) (b2 : (List Int)) : Option ((List Int) × Unit) := res sha_take.c (atJoin sha_take.b [1, 1, 1, 0, 1, 0, 0, 0, 1]) (sha_take.S4 t b0 b1 b2)
noncomputable def sha_take.S5 (t83_ : Int) (b0 : (List Int)) (b1 : (List Int)) (b2 : (List Int)) (b3 : (List Int)) : St := ⟨[(2, (.ptr 0 [])), (4, (.ptr 1 [])), (5, (.ptr 2 [])), (12, (.ptr 3 [])), (83, (.v (.int .i64) t83_))], [(0, some (.box (.v (.arr 8 (.int .u32)) b0))), (1, some (.box (.v (.arr 8 (.int .u32)) b1))), (2, some (.box (.v (.arr 64 (.int .u32)) b2))), (3, some (.box (.v (.arr 8 (.int .u32)) b3)))], 4, []⟩
noncomputable def sha_take.L5 (t83_ : Int) (b0 : (List Int)) (b1 : (List Int)) (b2 : (List Int)) (b3 : (List Int)) : Option ((List Int) × Unit) := res sha_take.c (atLoop sha_take.b [1, 1, 1, 1, 1, 0, 1, 0]) (sha_take.S5 t83_ b0 b1 b2 b3)
noncomputable def sha_take.S6 (t83_ : Int) (b0 : (List Int)) (b1 : (List Int)) (b2 : (List Int)) (b3 : (List Int)) : St := ⟨[(2, (.ptr 0 [])), (4, (.ptr 1 [])), (5, (.ptr 2 [])), (12, (.ptr 3 [])), (83, (.v (.int .i64) t83_))], [(0, some (.box (.v (.arr 8 (.int .u32)) b0))), (1, some (.box (.v (.arr 8 (.int .u32)) b1))), (2, some (.box (.v (.arr 64 (.int .u32)) b2))), (3, some (.box (.v (.arr 8 (.int .u32)) b3)))], 4, []⟩
noncomputable def sha_take.L6 (t83_ : Int) (b0 : (List Int)) (b1 : (List Int)) (b2 : (List Int)) (b3 : (List Int)) : Option ((List Int) × Unit) := res sha_take.c (atJoin sha_take.b [1, 1, 1, 1, 1, 0, 1, 0, 0, 1, 0]) (sha_take.S6 t83_ b0 b1 b2 b3)
noncomputable def sha_take.S7 (t147_ : Int) (b0 : (List Int)) (b1 : (List Int)) (b2 : (List Int)) : St := ⟨[(2, (.ptr 0 [])), (4, (.ptr 1 [])), (12, (.ptr 2 [])), (147, (.v (.int .i64) t147_))], [(0, some (.box (.v (.arr 8 (.int .u32)) b0))), (1, some (.box (.v (.arr 8 (.int .u32)) b1))), (2, some (.box (.v (.arr 8 (.int .u32)) b2)))], 3, []⟩
noncomputable def sha_take.L7 (t147_ : Int) (b0 : (List Int)) (b1 : (List Int)) (b2 : (List Int)) : Option ((List Int) × Unit) := res sha_take.c (atLoop sha_take.b [1, 1, 1, 1, 1, 1, 0, 1, 0]) (sha_take.S7 t147_ b0 b1 b2)
noncomputable def sha_take.S8 (t147_ : Int) (b0 : (List Int)) (b1 : (List Int)) (b2 : (List Int)) : St := ⟨[(2, (.ptr 0 [])), (4, (.ptr 1 [])), (12, (.ptr 2 [])), (147, (.v (.int .i64) t147_))], [(0, some (.box (.v (.arr 8 (.int .u32)) b0))), (1, some (.box (.v (.arr 8 (.int .u32)) b1))), (2, some (.box (.v (.arr 8 (.int .u32)) b2)))], 3, []⟩
noncomputable def sha_take.L8 (t147_ : Int) (b0 : (List Int)) (b1 : (List Int)) (b2 : (List Int)) : Option ((List Int) × Unit) := res sha_take.c (atJoin sha_take.b [1, 1, 1, 1, 1, 1, 0, 1, 0, 0, 1, 0]) (sha_take.S8 t147_ b0 b1 b2)
noncomputable def sha_take.S9 (b : (List Int)) (t : Int) (t28_ : (List Int)) (t29_ : Int) (t30_ : Int) (b0 : (List Int)) (b1 : (List Int)) (b2 : (List Int)) : St := ⟨[(1, (.v (.slice (.int .u8)) b)), (2, (.ptr 0 [])), (4, (.ptr 1 [])), (5, (.ptr 2 [])), (6, (.v (.int .i64) t)), (19, (.v (.int .i64) t)), (28, (.v (.slice (.int .u8)) t28_)), (29, (.v (.int .i64) t29_)), (30, (.v (.int .i64) t30_))], [(0, some (.box (.v (.arr 8 (.int .u32)) b0))), (1, some (.box (.v (.arr 8 (.int .u32)) b1))), (2, some (.box (.v (.arr 64 (.int .u32)) b2)))], 3, []⟩
noncomputable def sha_take.L9 (b : (List Int)) (t : Int) (t28_ : (List Int)) (t29_ : Int) (t30_ : Int) (b0 : (List Int)) (b1 : (List Int)) (b2 : (List Int)) : Option ((List Int) × Unit) := res sha_take.c (atLoop sha_take.b [1, 1, 0, 1, 0, 0, 1, 1, 0, 0, 1, 1, 0]) (sha_take.S9 b t t28_ t29_ t30_ b0 b1 b2)
noncomputable def sha_take.S10 (b : (List Int)) (t : Int) (t28_ : (List Int)) (t29_ : Int) (t30_ : Int) (b0 : (List Int)) (b1 : (List Int)) (b2 : (List Int)) : St := ⟨[(1, (.v (.slice (.int .u8)) b)), (2, (.ptr 0 [])), (4, (.ptr 1 [])), (5, (.ptr 2 [])), (6, (.v (.int .i64) t)), (19, (.v (.int .i64) t)), (28, (.v (.slice (.int .u8)) t28_)), (29, (.v (.int .i64) t29_)), (30, (.v (.int .i64) t30_))], [(0, some (.box (.v (.arr 8 (.int .u32)) b0))), (1, some (.box (.v (.arr 8 (.int .u32)) b1))), (2, some (.box (.v (.arr 64 (.int .u32)) b2)))], 3, []⟩
noncomputable def sha_take.L10 (b : (List Int)) (t : Int) (t28_ : (List Int)) (t29_ : Int) (t30_ : Int) (b0 : (List Int)) (b1 : (List Int)) (b2 : (List Int)) : Option ((List Int) × Unit) := res sha_take.c (atJoin sha_take.b [1, 1, 0, 1, 0, 0, 1, 1, 0, 0, 1, 1, 0, 0, 1, 0]) (sha_take.S10 b t t28_ t29_ t30_ b0 b1 b2)
theorem sha_take.spec : FnSpec Tryd.prog globs 61 sha_take.Fn := spec_of (E := sha_take.E) (envOk_at tabOk eqOk primsOk (.cons sha_turns.spec <| .nil)) mixOk Tryd.func61 (by kernel_rfl)
theorem sha_take.L1_eq (b : (List Int)) (t19_ : Int) (b0 : (List Int)) (b1 : (List Int)) (b2 : (List Int)) : sha_take.L1 b t19_ b0 b1 b2 =
  bif (decide ((t19_ : Int) < 16)) then
    sha_take.L2 b t19_ b0 b1 b2
  else
    sha_take.L3 16 b0 b1 b2 := res_eq (by kernel_rfl)
theorem sha_take.L2_eq (b : (List Int)) (t19_ : Int) (b0 : (List Int)) (b1 : (List Int)) (b2 : (List Int)) : sha_take.L2 b t19_ b0 b1 b2 =
  bif (decide ((0 : Int) ≤ (IntKind.wrap .i64 (4 * t19_)) ∧ ((IntKind.wrap .i64 (4 * t19_)) : Int) ≤ (IntKind.wrap .i64 ((IntKind.wrap .i64 (4 * t19_)) + 4)) ∧ ((IntKind.wrap .i64 ((IntKind.wrap .i64 (4 * t19_)) + 4)) : Int) ≤ ((List.length b : Int)))) then
    sha_take.L9 b t19_ (List.take ((Int.toNat (IntKind.wrap .i64 ((IntKind.wrap .i64 (4 * t19_)) + 4))) - (Int.toNat (IntKind.wrap .i64 (4 * t19_)))) (List.drop (Int.toNat (IntKind.wrap .i64 (4 * t19_))) b)) ((List.length (List.take ((Int.toNat (IntKind.wrap .i64 ((IntKind.wrap .i64 (4 * t19_)) + 4))) - (Int.toNat (IntKind.wrap .i64 (4 * t19_)))) (List.drop (Int.toNat (IntKind.wrap .i64 (4 * t19_))) b)) : Int)) 0 b0 b1 b2
  else none := res_eq (by kernel_rfl)
theorem sha_take.L3_eq (t : Int) (b0 : (List Int)) (b1 : (List Int)) (b2 : (List Int)) : sha_take.L3 t b0 b1 b2 =
  bif (decide ((t : Int) < 64)) then
    sha_take.L4 t b0 b1 b2
  else
    sha_take.L5 0 b0 b1 b2 b0 := res_eq (by kernel_rfl)
theorem sha_take.L4_eq (t : Int) (b0 : (List Int)) (b1 : (List Int)) (b2 : (List Int)) : sha_take.L4 t b0 b1 b2 =
  bif (decide ((0 : Int) ≤ (IntKind.wrap .i64 (t - 15)) ∧ ((IntKind.wrap .i64 (t - 15)) : Int) < 64)) then
    bif (decide ((0 : Int) ≤ (IntKind.wrap .i64 (t - 2)) ∧ ((IntKind.wrap .i64 (t - 2)) : Int) < 64)) then
      bif (decide ((0 : Int) ≤ (IntKind.wrap .i64 (t - 16)) ∧ ((IntKind.wrap .i64 (t - 16)) : Int) < 64)) then
        bif (decide ((0 : Int) ≤ (IntKind.wrap .i64 (t - 7)) ∧ ((IntKind.wrap .i64 (t - 7)) : Int) < 64)) then
          (sha_turns.F (List.getD b2 (Int.toNat (IntKind.wrap .i64 (t - 15))) 0) ([7, 18] : List Int)).bind fun r0 =>
          bif (decide ((0 : Int) ≤ 3)) then
            (sha_turns.F (List.getD b2 (Int.toNat (IntKind.wrap .i64 (t - 2))) 0) ([17, 19] : List Int)).bind fun r1 =>
            bif (decide ((0 : Int) ≤ 10)) then
              bif (decide ((0 : Int) ≤ t ∧ (t : Int) < 64)) then
                sha_take.L3 (IntKind.wrap .i64 (t + 1)) b0 b1 (List.set b2 (Int.toNat t) (IntKind.wrap .u32 ((IntKind.wrap .u32 ((IntKind.wrap .u32 ((List.getD b2 (Int.toNat (IntKind.wrap .i64 (t - 16))) 0) + (List.getD b2 (Int.toNat (IntKind.wrap .i64 (t - 7))) 0))) + (bits .xor .u32 r0.1 (Int.fdiv (List.getD b2 (Int.toNat (IntKind.wrap .i64 (t - 15))) 0) (2 ^ min (Int.toNat 3) (IntKind.bits .u32)))))) + (bits .xor .u32 r1.1 (Int.fdiv (List.getD b2 (Int.toNat (IntKind.wrap .i64 (t - 2))) 0) (2 ^ min (Int.toNat 10) (IntKind.bits .u32)))))))
              else none
            else none
          else none
        else none
      else none
    else none
  else none := res_eq (by kernel_rfl)
theorem sha_take.L5_eq (t83_ : Int) (b0 : (List Int)) (b1 : (List Int)) (b2 : (List Int)) (b3 : (List Int)) : sha_take.L5 t83_ b0 b1 b2 b3 =
  bif (decide ((t83_ : Int) < 64)) then
    sha_take.L6 t83_ b0 b1 b2 b3
  else
    sha_take.L7 0 b0 b1 b3 := res_eq (by kernel_rfl)
theorem sha_take.L6_eq (t83_ : Int) (b0 : (List Int)) (b1 : (List Int)) (b2 : (List Int)) (b3 : (List Int)) : sha_take.L6 t83_ b0 b1 b2 b3 =
  bif (decide ((0 : Int) ≤ 0 ∧ (0 : Int) < 8)) then
    bif (decide ((0 : Int) ≤ 4 ∧ (4 : Int) < 8)) then
      bif (decide ((0 : Int) ≤ 7 ∧ (7 : Int) < 8)) then
        (sha_turns.F (List.getD b3 (Int.toNat 4) 0) ([6, 11, 25] : List Int)).bind fun r0 =>
        bif (decide ((0 : Int) ≤ 5 ∧ (5 : Int) < 8)) then
          bif (decide ((0 : Int) ≤ 6 ∧ (6 : Int) < 8)) then
            bif (decide ((0 : Int) ≤ t83_ ∧ (t83_ : Int) < 64)) then
              bif (decide ((0 : Int) ≤ t83_ ∧ (t83_ : Int) < 64)) then
                (sha_turns.F (List.getD b3 (Int.toNat 0) 0) ([2, 13, 22] : List Int)).bind fun r1 =>
                bif (decide ((0 : Int) ≤ 1 ∧ (1 : Int) < 8)) then
                  bif (decide ((0 : Int) ≤ 2 ∧ (2 : Int) < 8)) then
                    bif (decide ((0 : Int) ≤ 1 ∧ (1 : Int) < 8)) then
                      bif (decide ((0 : Int) ≤ 2 ∧ (2 : Int) < 8)) then
                        bif (decide ((0 : Int) ≤ 1 ∧ (1 : Int) ≤ 8 ∧ (8 : Int) ≤ 8)) then
                          bif (decide ((0 : Int) ≤ 0 ∧ (0 : Int) ≤ 7 ∧ (7 : Int) ≤ 8)) then
                            bif (decide ((0 : Int) ≤ 4 ∧ (4 : Int) < 8)) then
                              bif (decide ((0 : Int) ≤ 0 ∧ (0 : Int) < 8)) then
                                bif (decide ((0 : Int) ≤ 4 ∧ (4 : Int) < 8)) then
                                  sha_take.L5 (IntKind.wrap .i64 (t83_ + 1)) b0 b1 b2 (List.set (List.set (splice b3 (Int.toNat 1) (List.take ((Int.toNat 8) - (Int.toNat 1)) (List.take ((Int.toNat 7) - (Int.toNat 0)) (List.drop (Int.toNat 0) b3)))) (Int.toNat 0) (IntKind.wrap .u32 ((IntKind.wrap .u32 ((IntKind.wrap .u32 ((IntKind.wrap .u32 ((IntKind.wrap .u32 ((List.getD b3 (Int.toNat 7) 0) + r0.1)) + (bits .xor .u32 (bits .and .u32 (List.getD b3 (Int.toNat 4) 0) (List.getD b3 (Int.toNat 5) 0)) (bits .and .u32 (bits .xor .u32 (IntKind.max .u32) (List.getD b3 (Int.toNat 4) 0)) (List.getD b3 (Int.toNat 6) 0))))) + (List.getD glob2 (Int.toNat t83_) 0))) + (List.getD b2 (Int.toNat t83_) 0))) + (IntKind.wrap .u32 (r1.1 + (bits .xor .u32 (bits .xor .u32 (bits .and .u32 (List.getD b3 (Int.toNat 0) 0) (List.getD b3 (Int.toNat 1) 0)) (bits .and .u32 (List.getD b3 (Int.toNat 0) 0) (List.getD b3 (Int.toNat 2) 0))) (bits .and .u32 (List.getD b3 (Int.toNat 1) 0) (List.getD b3 (Int.toNat 2) 0)))))))) (Int.toNat 4) (IntKind.wrap .u32 ((List.getD (splice b3 (Int.toNat 1) (List.take ((Int.toNat 8) - (Int.toNat 1)) (List.take ((Int.toNat 7) - (Int.toNat 0)) (List.drop (Int.toNat 0) b3)))) (Int.toNat 4) 0) + (IntKind.wrap .u32 ((IntKind.wrap .u32 ((IntKind.wrap .u32 ((IntKind.wrap .u32 ((List.getD b3 (Int.toNat 7) 0) + r0.1)) + (bits .xor .u32 (bits .and .u32 (List.getD b3 (Int.toNat 4) 0) (List.getD b3 (Int.toNat 5) 0)) (bits .and .u32 (bits .xor .u32 (IntKind.max .u32) (List.getD b3 (Int.toNat 4) 0)) (List.getD b3 (Int.toNat 6) 0))))) + (List.getD glob2 (Int.toNat t83_) 0))) + (List.getD b2 (Int.toNat t83_) 0))))))
                                else none
                              else none
                            else none
                          else none
                        else none
                      else none
                    else none
                  else none
                else none
              else none
            else none
          else none
        else none
      else none
    else none
  else none := res_eq (by kernel_rfl)
theorem sha_take.L7_eq (t147_ : Int) (b0 : (List Int)) (b1 : (List Int)) (b2 : (List Int)) : sha_take.L7 t147_ b0 b1 b2 =
  bif (decide ((t147_ : Int) < 8)) then
    sha_take.L8 t147_ b0 b1 b2
  else
    some (b0, ()) := res_eq (by kernel_rfl)
theorem sha_take.L8_eq (t147_ : Int) (b0 : (List Int)) (b1 : (List Int)) (b2 : (List Int)) : sha_take.L8 t147_ b0 b1 b2 =
  bif (decide ((0 : Int) ≤ t147_ ∧ (t147_ : Int) < 8)) then
    bif (decide ((0 : Int) ≤ t147_ ∧ (t147_ : Int) < 8)) then
      bif (decide ((0 : Int) ≤ t147_ ∧ (t147_ : Int) < 8)) then
        sha_take.L7 (IntKind.wrap .i64 (t147_ + 1)) (List.set b0 (Int.toNat t147_) (IntKind.wrap .u32 ((List.getD b0 (Int.toNat t147_) 0) + (List.getD b2 (Int.toNat t147_) 0)))) b1 b2
      else none
    else none
  else none := res_eq (by kernel_rfl)
theorem sha_take.L9_eq (b : (List Int)) (t : Int) (t28_ : (List Int)) (t29_ : Int) (t30_ : Int) (b0 : (List Int)) (b1 : (List Int)) (b2 : (List Int)) : sha_take.L9 b t t28_ t29_ t30_ b0 b1 b2 =
  bif (decide ((t30_ : Int) < t29_)) then
    sha_take.L10 b t t28_ t29_ t30_ b0 b1 b2
  else
    sha_take.L1 b (IntKind.wrap .i64 (t + 1)) b0 b1 b2 := res_eq (by kernel_rfl)
theorem sha_take.L10_eq (b : (List Int)) (t : Int) (t28_ : (List Int)) (t29_ : Int) (t30_ : Int) (b0 : (List Int)) (b1 : (List Int)) (b2 : (List Int)) : sha_take.L10 b t t28_ t29_ t30_ b0 b1 b2 =
  bif (decide ((0 : Int) ≤ t30_ ∧ (t30_ : Int) < ((List.length t28_ : Int)))) then
    bif (decide ((0 : Int) ≤ t ∧ (t : Int) < 64)) then
      bif (decide ((0 : Int) ≤ 8)) then
        bif (decide ((0 : Int) ≤ t ∧ (t : Int) < 64)) then
          sha_take.L9 b t t28_ t29_ (IntKind.wrap .i64 (t30_ + 1)) b0 b1 (List.set b2 (Int.toNat t) (bits .or .u32 (IntKind.wrap .u32 ((List.getD b2 (Int.toNat t) 0) * 2 ^ min (Int.toNat 8) (IntKind.bits .u32))) (IntKind.wrap .u32 (List.getD t28_ (Int.toNat t30_) 0))))
        else none
      else none
    else none
  else none := res_eq (by kernel_rfl)
theorem sha_take.F_eq (h : (List Int)) (b : (List Int)) : sha_take.F h b =
  sha_take.L1 b 0 h (List.replicate 8 (0 : Int)) (List.replicate 64 (0 : Int)) := by kernel_rfl
/-! ### spigot/sha.write (47) -/
noncomputable def sha_write.sg : Sig := ⟨[.val t0, .val (.slice (.int .u8))], [(t0, true)]⟩
noncomputable def sha_write.E : Env := ⟨tl, fun i => look i [(60, slices_Concat.Fn), (61, sha_take.Fn)], [], eqs, globs, prims⟩
noncomputable def sha_write.c := cxOf sha_write.E sha_write.sg Tryd.f47
noncomputable def sha_write.b := body Tryd.f47
noncomputable def sha_write.Fn : Fun := fnOf sha_write.E sha_write.sg Tryd.f47
noncomputable def sha_write.F (h : t0.den) (b : (List Int)) : Option (t0.den × Unit) := sha_write.Fn.F (h, b, ())
noncomputable def sha_write.S1 (b0 : (List Int)) (b02 : (List Int)) (b03 : Int) (b1 : (List Int)) (l2 : (List Int)) (l3 : (List Int)) : St := ⟨[(2, (.ptr 0 [])), (4, (.ptr 1 [])), (5, (.sl 2))], [(0, some (.box (.agg [(.v (.arr 8 (.int .u32)) b0), (.v (.slice (.int .u8)) b02), (.v (.int .i64) b03)]))), (1, some (.box (.agg [(.v (.arr 8 (.int .u32)) b1), (.sl 3), (.v (.int .i64) 0)]))), (2, some (.row (.int .u8) l2 false)), (3, some (.row (.int .u8) l3 false))], 4, []⟩
noncomputable def sha_write.L1 (b0 : (List Int)) (b02 : (List Int)) (b03 : Int) (b1 : (List Int)) (l2 : (List Int)) (l3 : (List Int)) : Option (t0.den × Unit) := res sha_write.c (atLoop sha_write.b [1, 1, 1, 0, 0]) (sha_write.S1 b0 b02 b03 b1 l2 l3)
noncomputable def sha_write.S2 (b0 : (List Int)) (b02 : (List Int)) (b03 : Int) (b1 : (List Int)) (l2 : (List Int)) (l3 : (List Int)) : St := ⟨[(2, (.ptr 0 [])), (4, (.ptr 1 [])), (5, (.sl 2))], [(0, some (.box (.agg [(.v (.arr 8 (.int .u32)) b0), (.v (.slice (.int .u8)) b02), (.v (.int .i64) b03)]))), (1, some (.box (.agg [(.v (.arr 8 (.int .u32)) b1), (.sl 3), (.v (.int .i64) 0)]))), (2, some (.row (.int .u8) l2 false)), (3, some (.row (.int .u8) l3 false))], 4, []⟩
noncomputable def sha_write.L2 (b0 : (List Int)) (b02 : (List Int)) (b03 : Int) (b1 : (List Int)) (l2 : (List Int)) (l3 : (List Int)) : Option (t0.den × Unit) := res sha_write.c (atJoin sha_write.b [1, 1, 1, 0, 0, 0, 0, 1]) (sha_write.S2 b0 b02 b03 b1 l2 l3)
noncomputable def sha_write.S3 (rest : Nat) (rest2 : Nat) (b0 : (List Int)) (b02 : (List Int)) (b03 : Int) (b1 : (List Int)) (l2 : (List Int)) (l3 : (List Int)) : St := ⟨[(2, (.ptr 0 [])), (4, (.ptr 1 [])), (5, (.sv 2 [] rest rest2 1 0))], [(0, some (.box (.agg [(.v (.arr 8 (.int .u32)) b0), (.v (.slice (.int .u8)) b02), (.v (.int .i64) b03)]))), (1, some (.box (.agg [(.v (.arr 8 (.int .u32)) b1), (.sl 3), (.v (.int .i64) 0)]))), (2, some (.row (.int .u8) l2 false)), (3, some (.row (.int .u8) l3 false))], 4, []⟩
noncomputable def sha_write.L3 (rest : Nat) (rest2 : Nat) (b0 : (List Int)) (b02 : (List Int)) (b03 : Int) (b1 : (List Int)) (l2 : (List Int)) (l3 : (List Int)) : Option (t0.den × Unit) := res sha_write.c (atLoop sha_write.b [1, 1, 1, 0, 0]) (sha_write.S3 rest rest2 b0 b02 b03 b1 l2 l3)
noncomputable def sha_write.S4 (rest : Nat) (rest2 : Nat) (b0 : (List Int)) (b02 : (List Int)) (b03 : Int) (b1 : (List Int)) (l2 : (List Int)) (l3 : (List Int)) : St := ⟨[(2, (.ptr 0 [])), (4, (.ptr 1 [])), (5, (.sv 2 [] rest rest2 1 0))], [(0, some (.box (.agg [(.v (.arr 8 (.int .u32)) b0), (.v (.slice (.int .u8)) b02), (.v (.int .i64) b03)]))), (1, some (.box (.agg [(.v (.arr 8 (.int .u32)) b1), (.sl 3), (.v (.int .i64) 0)]))), (2, some (.row (.int .u8) l2 false)), (3, some (.row (.int .u8) l3 false))], 4, []⟩
noncomputable def sha_write.L4 (rest : Nat) (rest2 : Nat) (b0 : (List Int)) (b02 : (List Int)) (b03 : Int) (b1 : (List Int)) (l2 : (List Int)) (l3 : (List Int)) : Option (t0.den × Unit) := res sha_write.c (atJoin sha_write.b [1, 1, 1, 0, 0, 0, 0, 1]) (sha_write.S4 rest rest2 b0 b02 b03 b1 l2 l3)
theorem sha_write.spec : FnSpec Tryd.prog globs 47 sha_write.Fn := spec_of (E := sha_write.E) (envOk_at tabOk eqOk primsOk (.cons slices_Concat.spec <| .cons sha_take.spec <| .nil)) mixOk Tryd.func47 (by kernel_rfl)
theorem sha_write.L1_eq (b0 : (List Int)) (b02 : (List Int)) (b03 : Int) (b1 : (List Int)) (l2 : (List Int)) (l3 : (List Int)) : sha_write.L1 b0 b02 b03 b1 l2 l3 =
  bif (decide ((((List.length l2 : Int)) : Int) ≥ 64)) then
    sha_write.L2 b0 b02 b03 b1 l2 l3
  else
    bif (lim (List.length l2) (.int .u8)) then
      some ((b0, l2, b03, ()), ())
    else none := res_eq (by kernel_rfl)
theorem sha_write.L2_eq (b0 : (List Int)) (b02 : (List Int)) (b03 : Int) (b1 : (List Int)) (l2 : (List Int)) (l3 : (List Int)) : sha_write.L2 b0 b02 b03 b1 l2 l3 =
  bif (decide ((0 : Int) ≤ 0 ∧ (0 : Int) ≤ 64 ∧ (64 : Int) ≤ ((List.length l2 : Int)))) then
    (sha_take.F b0 (List.take ((Int.toNat 64) - (Int.toNat 0)) (List.drop (Int.toNat 0) l2))).bind fun r0 =>
    bif (decide ((0 : Int) ≤ 64 ∧ (64 : Int) ≤ ((List.length l2 : Int)) ∧ (((List.length l2 : Int)) : Int) ≤ ((List.length l2 : Int)))) then
      sha_write.L3 (Int.toNat 64) ((Int.toNat ((List.length l2 : Int))) - (Int.toNat 64)) r0.1 b02 b03 b1 l2 l3
    else none
  else none := res_eq (by kernel_rfl)
theorem sha_write.L3_eq (rest : Nat) (rest2 : Nat) (b0 : (List Int)) (b02 : (List Int)) (b03 : Int) (b1 : (List Int)) (l2 : (List Int)) (l3 : (List Int)) : sha_write.L3 rest rest2 b0 b02 b03 b1 l2 l3 =
  bif (decide ((((rest2 : Int)) : Int) ≥ 64)) then
    sha_write.L4 rest rest2 b0 b02 b03 b1 l2 l3
  else
    bif (lim (List.length (List.take rest2 (List.drop rest l2))) (.int .u8)) then
      some ((b0, (List.take rest2 (List.drop rest l2)), b03, ()), ())
    else none := res_eq (by kernel_rfl)
theorem sha_write.L4_eq (rest : Nat) (rest2 : Nat) (b0 : (List Int)) (b02 : (List Int)) (b03 : Int) (b1 : (List Int)) (l2 : (List Int)) (l3 : (List Int)) : sha_write.L4 rest rest2 b0 b02 b03 b1 l2 l3 =
  bif (decide ((0 : Int) ≤ 0 ∧ (0 : Int) ≤ 64 ∧ (64 : Int) ≤ ((rest2 : Int)))) then
    (sha_take.F b0 (List.take ((Int.toNat 64) - (Int.toNat 0)) (List.drop (rest + (Int.toNat 0)) l2))).bind fun r0 =>
    bif (decide ((0 : Int) ≤ 64 ∧ (64 : Int) ≤ ((rest2 : Int)) ∧ (((rest2 : Int)) : Int) ≤ ((rest2 : Int)))) then
      sha_write.L3 (rest + (Int.toNat 64)) ((Int.toNat ((rest2 : Int))) - (Int.toNat 64)) r0.1 b02 b03 b1 l2 l3
    else none
  else none := res_eq (by kernel_rfl)
theorem sha_write.F_eq (h : t0.den) (b : (List Int)) : sha_write.F h b =
  (slices_Concat.F ([h.2.1, b] : List (List Int))).bind fun r0 =>
  sha_write.L1 h.1 h.2.1 (IntKind.wrap .i64 (h.2.2.1 + ((List.length b : Int)))) (List.replicate 8 (0 : Int)) r0.1 ([] : List Int) := by kernel_rfl
/-! ### spigot/sha.pad (59) -/
noncomputable def sha_pad.sg : Sig := ⟨[.val (.int .i64)], [((.slice (.int .u8)), true)]⟩
noncomputable def sha_pad.E : Env := ⟨tl, fun i => look i [], [], eqs, globs, prims⟩
noncomputable def sha_pad.c := cxOf sha_pad.E sha_pad.sg Tryd.f59
noncomputable def sha_pad.b := body Tryd.f59
noncomputable def sha_pad.Fn : Fun := fnOf sha_pad.E sha_pad.sg Tryd.f59
noncomputable def sha_pad.F (n : Int) : Option ((List Int) × Unit) := sha_pad.Fn.F (n, ())
noncomputable def sha_pad.S1 (n : Int) (t13_ : Int) (l0 : (List Int)) : St := ⟨[(0, (.v (.int .i64) n)), (4, (.sl 0)), (13, (.v (.int .i64) t13_))], [(0, some (.row (.int .u8) l0 false))], 1, []⟩
noncomputable def sha_pad.L1 (n : Int) (t13_ : Int) (l0 : (List Int)) : Option ((List Int) × Unit) := res sha_pad.c (atLoop sha_pad.b [1, 1, 1, 0, 1, 0]) (sha_pad.S1 n t13_ l0)
noncomputable def sha_pad.S2 (n : Int) (t13_ : Int) (l0 : (List Int)) : St := ⟨[(0, (.v (.int .i64) n)), (4, (.sl 0)), (13, (.v (.int .i64) t13_))], [(0, some (.row (.int .u8) l0 false))], 1, []⟩
noncomputable def sha_pad.L2 (n : Int) (t13_ : Int) (l0 : (List Int)) : Option ((List Int) × Unit) := res sha_pad.c (atJoin sha_pad.b [1, 1, 1, 0, 1, 0, 0, 1, 0]) (sha_pad.S2 n t13_ l0)
theorem sha_pad.spec : FnSpec Tryd.prog globs 59 sha_pad.Fn := spec_of (E := sha_pad.E) (envOk_at tabOk eqOk primsOk (.nil)) mixOk Tryd.func59 (by kernel_rfl)
theorem sha_pad.L1_eq (n : Int) (t13_ : Int) (l0 : (List Int)) : sha_pad.L1 n t13_ l0 =
  bif (decide ((t13_ : Int) < 8)) then
    sha_pad.L2 n t13_ l0
  else
    some (l0, ()) := res_eq (by kernel_rfl)
theorem sha_pad.L2_eq (n : Int) (t13_ : Int) (l0 : (List Int)) : sha_pad.L2 n t13_ l0 =
  bif (decide ((0 : Int) ≤ 3)) then
    bif (decide ((0 : Int) ≤ (IntKind.wrap .i64 (56 - (IntKind.wrap .i64 (8 * t13_)))))) then
      bif (lim ((List.length l0) + (List.length ([(IntKind.wrap .u8 (Int.fdiv (IntKind.wrap .u64 ((IntKind.wrap .u64 n) * 2 ^ min (Int.toNat 3) (IntKind.bits .u64))) (2 ^ min (Int.toNat (IntKind.wrap .i64 (56 - (IntKind.wrap .i64 (8 * t13_))))) (IntKind.bits .u64))))] : List Int))) (.int .u8)) then
        sha_pad.L1 n (IntKind.wrap .i64 (t13_ + 1)) (l0 ++ ([(IntKind.wrap .u8 (Int.fdiv (IntKind.wrap .u64 ((IntKind.wrap .u64 n) * 2 ^ min (Int.toNat 3) (IntKind.bits .u64))) (2 ^ min (Int.toNat (IntKind.wrap .i64 (56 - (IntKind.wrap .i64 (8 * t13_))))) (IntKind.bits .u64))))] : List Int))
      else none
    else none
  else none := res_eq (by kernel_rfl)
theorem sha_pad.F_eq (n : Int) : sha_pad.F n =
  bif (decide ((64 : Int) ≠ 0)) then
    bif (decide ((64 : Int) ≠ 0)) then
      bif (decide ((0 : Int) ≤ (Int.tmod (IntKind.wrap .i64 (119 - (Int.tmod n 64))) 64)) && lim (Int.toNat (Int.tmod (IntKind.wrap .i64 (119 - (Int.tmod n 64))) 64)) (.int .u8)) then
        bif (lim ((List.length ([128] : List Int)) + (List.length (List.replicate (Int.toNat (Int.tmod (IntKind.wrap .i64 (119 - (Int.tmod n 64))) 64)) (0 : Int)))) (.int .u8)) then
          sha_pad.L1 n 0 (([128] : List Int) ++ (List.replicate (Int.toNat (Int.tmod (IntKind.wrap .i64 (119 - (Int.tmod n 64))) 64)) (0 : Int)))
        else none
      else none
    else none
  else none := by kernel_rfl
/-! ### spigot/sha.finish (46) -/
noncomputable def sha_finish.sg : Sig := ⟨[.val t0], [((.arr 32 (.int .u8)), true)]⟩
noncomputable def sha_finish.E : Env := ⟨tl, fun i => look i [(47, sha_write.Fn), (59, sha_pad.Fn)], [], eqs, globs, prims⟩
noncomputable def sha_finish.c := cxOf sha_finish.E sha_finish.sg Tryd.f46
noncomputable def sha_finish.b := body Tryd.f46
noncomputable def sha_finish.Fn : Fun := fnOf sha_finish.E sha_finish.sg Tryd.f46
noncomputable def sha_finish.F (h : t0.den) : Option ((List Int) × Unit) := sha_finish.Fn.F (h, ())
noncomputable def sha_finish.S1 (t12_ : (List Int)) (t13_ : Int) (b0 : (List Int)) : St := ⟨[(2, (.ptr 0 [])), (12, (.v (.arr 8 (.int .u32)) t12_)), (13, (.v (.int .i64) t13_))], [(0, some (.box (.v (.arr 32 (.int .u8)) b0)))], 1, []⟩
noncomputable def sha_finish.L1 (t12_ : (List Int)) (t13_ : Int) (b0 : (List Int)) : Option ((List Int) × Unit) := res sha_finish.c (atLoop sha_finish.b [1, 1, 0, 1, 0]) (sha_finish.S1 t12_ t13_ b0)
noncomputable def sha_finish.S2 (t12_ : (List Int)) (t13_ : Int) (b0 : (List Int)) : St := ⟨[(2, (.ptr 0 [])), (12, (.v (.arr 8 (.int .u32)) t12_)), (13, (.v (.int .i64) t13_))], [(0, some (.box (.v (.arr 32 (.int .u8)) b0)))], 1, []⟩
noncomputable def sha_finish.L2 (t12_ : (List Int)) (t13_ : Int) (b0 : (List Int)) : Option ((List Int) × Unit) := res sha_finish.c (atJoin sha_finish.b [1, 1, 0, 1, 0, 0, 1, 0]) (sha_finish.S2 t12_ t13_ b0)
noncomputable def sha_finish.S3 (i : Int) (w : Int) (t12_ : (List Int)) (t17_ : Int) (b0 : (List Int)) : St := ⟨[(2, (.ptr 0 [])), (3, (.v (.int .i64) i)), (4, (.v (.int .u32) w)), (12, (.v (.arr 8 (.int .u32)) t12_)), (13, (.v (.int .i64) i)), (17, (.v (.int .i64) t17_))], [(0, some (.box (.v (.arr 32 (.int .u8)) b0)))], 1, []⟩
noncomputable def sha_finish.L3 (i : Int) (w : Int) (t12_ : (List Int)) (t17_ : Int) (b0 : (List Int)) : Option ((List Int) × Unit) := res sha_finish.c (atLoop sha_finish.b [1, 1, 0, 1, 0, 0, 1, 1, 0, 0, 1, 1, 0]) (sha_finish.S3 i w t12_ t17_ b0)
noncomputable def sha_finish.S4 (i : Int) (w : Int) (t12_ : (List Int)) (t17_ : Int) (b0 : (List Int)) : St := ⟨[(2, (.ptr 0 [])), (3, (.v (.int .i64) i)), (4, (.v (.int .u32) w)), (12, (.v (.arr 8 (.int .u32)) t12_)), (13, (.v (.int .i64) i)), (17, (.v (.int .i64) t17_))], [(0, some (.box (.v (.arr 32 (.int .u8)) b0)))], 1, []⟩
noncomputable def sha_finish.L4 (i : Int) (w : Int) (t12_ : (List Int)) (t17_ : Int) (b0 : (List Int)) : Option ((List Int) × Unit) := res sha_finish.c (atJoin sha_finish.b [1, 1, 0, 1, 0, 0, 1, 1, 0, 0, 1, 1, 0, 0, 1, 0]) (sha_finish.S4 i w t12_ t17_ b0)
theorem sha_finish.spec : FnSpec Tryd.prog globs 46 sha_finish.Fn := spec_of (E := sha_finish.E) (envOk_at tabOk eqOk primsOk (.cons sha_write.spec <| .cons sha_pad.spec <| .nil)) mixOk Tryd.func46 (by kernel_rfl)
theorem sha_finish.L1_eq (t12_ : (List Int)) (t13_ : Int) (b0 : (List Int)) : sha_finish.L1 t12_ t13_ b0 =
  bif (decide ((t13_ : Int) < 8)) then
    sha_finish.L2 t12_ t13_ b0
  else
    some (b0, ()) := res_eq (by kernel_rfl)
theorem sha_finish.L2_eq (t12_ : (List Int)) (t13_ : Int) (b0 : (List Int)) : sha_finish.L2 t12_ t13_ b0 =
  bif (decide ((0 : Int) ≤ t13_ ∧ (t13_ : Int) < 8)) then
    sha_finish.L3 t13_ (List.getD t12_ (Int.toNat t13_) 0) t12_ 0 b0
  else none := res_eq (by kernel_rfl)
theorem sha_finish.L3_eq (i : Int) (w : Int) (t12_ : (List Int)) (t17_ : Int) (b0 : (List Int)) : sha_finish.L3 i w t12_ t17_ b0 =
  bif (decide ((t17_ : Int) < 4)) then
    sha_finish.L4 i w t12_ t17_ b0
  else
    sha_finish.L1 t12_ (IntKind.wrap .i64 (i + 1)) b0 := res_eq (by kernel_rfl)
theorem sha_finish.L4_eq (i : Int) (w : Int) (t12_ : (List Int)) (t17_ : Int) (b0 : (List Int)) : sha_finish.L4 i w t12_ t17_ b0 =
  bif (decide ((0 : Int) ≤ (IntKind.wrap .i64 (24 - (IntKind.wrap .i64 (8 * t17_)))))) then
    bif (decide ((0 : Int) ≤ (IntKind.wrap .i64 ((IntKind.wrap .i64 (4 * i)) + t17_)) ∧ ((IntKind.wrap .i64 ((IntKind.wrap .i64 (4 * i)) + t17_)) : Int) < 32)) then
      sha_finish.L3 i w t12_ (IntKind.wrap .i64 (t17_ + 1)) (List.set b0 (Int.toNat (IntKind.wrap .i64 ((IntKind.wrap .i64 (4 * i)) + t17_))) (IntKind.wrap .u8 (Int.fdiv w (2 ^ min (Int.toNat (IntKind.wrap .i64 (24 - (IntKind.wrap .i64 (8 * t17_))))) (IntKind.bits .u32)))))
    else none
  else none := res_eq (by kernel_rfl)
theorem sha_finish.F_eq (h : t0.den) : sha_finish.F h =
  (sha_pad.F h.2.2.1).bind fun r0 =>
  (sha_write.F h r0.1).bind fun r1 =>
  sha_finish.L1 r1.1.1 0 (List.replicate 32 (0 : Int)) := by kernel_rfl
/-! ### spigot/sha.Start (48) -/
noncomputable def sha_Start.sg : Sig := ⟨[], [(t0, true)]⟩
noncomputable def sha_Start.E : Env := ⟨tl, fun i => look i [], [], eqs, globs, prims⟩
noncomputable def sha_Start.c := cxOf sha_Start.E sha_Start.sg Tryd.f48
noncomputable def sha_Start.b := body Tryd.f48
noncomputable def sha_Start.Fn : Fun := fnOf sha_Start.E sha_Start.sg Tryd.f48
noncomputable def sha_Start.F : Option (t0.den × Unit) := sha_Start.Fn.F ()
theorem sha_Start.spec : FnSpec Tryd.prog globs 48 sha_Start.Fn := spec_of (E := sha_Start.E) (envOk_at tabOk eqOk primsOk (.nil)) mixOk Tryd.func48 (by kernel_rfl)
theorem sha_Start.F_eq : sha_Start.F =
  some ((glob0, ([] : List Int), 0, ()), ()) := by kernel_rfl
/-! ### spigot/sha.Sum (32) -/
noncomputable def sha_Sum.sg : Sig := ⟨[.val (.slice (.int .u8))], [((.arr 32 (.int .u8)), true), ((.int .i64), true)]⟩
noncomputable def sha_Sum.E : Env := ⟨tl, fun i => look i [(46, sha_finish.Fn), (47, sha_write.Fn), (48, sha_Start.Fn)], [], eqs, globs, prims⟩
noncomputable def sha_Sum.c := cxOf sha_Sum.E sha_Sum.sg Tryd.f32
noncomputable def sha_Sum.b := body Tryd.f32
noncomputable def sha_Sum.Fn : Fun := fnOf sha_Sum.E sha_Sum.sg Tryd.f32
noncomputable def sha_Sum.F (b : (List Int)) : Option ((List Int) × Int × Unit) := sha_Sum.Fn.F (b, ())
noncomputable def sha_Sum.S1 (b : (List Int)) (b0 : (List Int)) : St := ⟨[(0, (.v (.slice (.int .u8)) b)), (2, (.ptr 0 []))], [(0, some (.box (.v (.arr 32 (.int .u8)) b0)))], 1, []⟩
noncomputable def sha_Sum.L1 (b : (List Int)) (b0 : (List Int)) : Option ((List Int) × Int × Unit) := res sha_Sum.c (atJoin sha_Sum.b [1, 0, 1]) (sha_Sum.S1 b b0)
theorem sha_Sum.spec : FnSpec Tryd.prog globs 32 sha_Sum.Fn := spec_of (E := sha_Sum.E) (envOk_at tabOk eqOk primsOk (.cons sha_finish.spec <| .cons sha_write.spec <| .cons sha_Start.spec <| .nil)) mixOk Tryd.func32 (by kernel_rfl)
theorem sha_Sum.L1_eq (b : (List Int)) (b0 : (List Int)) : sha_Sum.L1 b b0 =
  sha_Start.F.bind fun r0 =>
  (sha_write.F r0.1 b).bind fun r1 =>
  (sha_finish.F r1.1).bind fun r2 =>
  some (r2.1, 0, ()) := res_eq (by kernel_rfl)
theorem sha_Sum.F_eq (b : (List Int)) : sha_Sum.F b =
  bif (decide ((((List.length b : Int)) : Int) > 128000)) then
    some ((List.replicate 32 (0 : Int)), 4, ())
  else
    sha_Sum.L1 b (List.replicate 32 (0 : Int)) := by kernel_rfl
/-! ### spigot/ring.Score (10) -/
noncomputable def ring_Score.sg : Sig := ⟨[.val (.int .u32), .val (.int .u32)], [((.arr 32 (.int .u8)), true), ((.int .i64), true)]⟩
noncomputable def ring_Score.E : Env := ⟨tl, fun i => look i [(32, sha_Sum.Fn)], [], eqs, globs, prims⟩
noncomputable def ring_Score.c := cxOf ring_Score.E ring_Score.sg Tryd.f10
noncomputable def ring_Score.b := body Tryd.f10
noncomputable def ring_Score.Fn : Fun := fnOf ring_Score.E ring_Score.sg Tryd.f10
noncomputable def ring_Score.F (host : Int) (tenant : Int) : Option ((List Int) × Int × Unit) := ring_Score.Fn.F (host, tenant, ())
noncomputable def ring_Score.S1 (t13_ : Int) (t14_ : Int) (b0 : (List Int)) (l1 : (List Int)) (l2 : (List Int)) : St := ⟨[(4, (.ptr 0 [])), (6, (.sl 1)), (12, (.sl 2)), (13, (.v (.int .i64) t13_)), (14, (.v (.int .i64) t14_))], [(0, some (.box (.v (.arr 32 (.int .u8)) b0))), (1, some (.row (.int .u8) l1 false)), (2, some (.row (.int .u32) l2 false))], 3, []⟩
noncomputable def ring_Score.L1 (t13_ : Int) (t14_ : Int) (b0 : (List Int)) (l1 : (List Int)) (l2 : (List Int)) : Option ((List Int) × Int × Unit) := res ring_Score.c (atLoop ring_Score.b [1, 1, 0, 1, 0]) (ring_Score.S1 t13_ t14_ b0 l1 l2)
noncomputable def ring_Score.S2 (t13_ : Int) (t14_ : Int) (b0 : (List Int)) (l1 : (List Int)) (l2 : (List Int)) : St := ⟨[(4, (.ptr 0 [])), (6, (.sl 1)), (12, (.sl 2)), (13, (.v (.int .i64) t13_)), (14, (.v (.int .i64) t14_))], [(0, some (.box (.v (.arr 32 (.int .u8)) b0))), (1, some (.row (.int .u8) l1 false)), (2, some (.row (.int .u32) l2 false))], 3, []⟩
noncomputable def ring_Score.L2 (t13_ : Int) (t14_ : Int) (b0 : (List Int)) (l1 : (List Int)) (l2 : (List Int)) : Option ((List Int) × Int × Unit) := res ring_Score.c (atJoin ring_Score.b [1, 1, 0, 1, 0, 0, 1, 0]) (ring_Score.S2 t13_ t14_ b0 l1 l2)
theorem ring_Score.spec : FnSpec Tryd.prog globs 10 ring_Score.Fn := spec_of (E := ring_Score.E) (envOk_at tabOk eqOk primsOk (.cons sha_Sum.spec <| .nil)) mixOk Tryd.func10 (by kernel_rfl)
theorem ring_Score.L1_eq (t13_ : Int) (t14_ : Int) (b0 : (List Int)) (l1 : (List Int)) (l2 : (List Int)) : ring_Score.L1 t13_ t14_ b0 l1 l2 =
  bif (decide ((t14_ : Int) < t13_)) then
    ring_Score.L2 t13_ t14_ b0 l1 l2
  else
    (sha_Sum.F l1).bind fun r0 =>
    some (r0.1, r0.2.1, ()) := res_eq (by kernel_rfl)
theorem ring_Score.L2_eq (t13_ : Int) (t14_ : Int) (b0 : (List Int)) (l1 : (List Int)) (l2 : (List Int)) : ring_Score.L2 t13_ t14_ b0 l1 l2 =
  bif (decide ((0 : Int) ≤ t14_ ∧ (t14_ : Int) < ((List.length l2 : Int)))) then
    bif (decide ((0 : Int) ≤ 24)) then
      bif (decide ((0 : Int) ≤ 16)) then
        bif (decide ((0 : Int) ≤ 8)) then
          bif (lim ((List.length l1) + (List.length ([(IntKind.wrap .u8 (Int.fdiv (List.getD l2 (Int.toNat t14_) 0) (2 ^ min (Int.toNat 24) (IntKind.bits .u32)))), (IntKind.wrap .u8 (Int.fdiv (List.getD l2 (Int.toNat t14_) 0) (2 ^ min (Int.toNat 16) (IntKind.bits .u32)))), (IntKind.wrap .u8 (Int.fdiv (List.getD l2 (Int.toNat t14_) 0) (2 ^ min (Int.toNat 8) (IntKind.bits .u32)))), (IntKind.wrap .u8 (List.getD l2 (Int.toNat t14_) 0))] : List Int))) (.int .u8)) then
            ring_Score.L1 t13_ (IntKind.wrap .i64 (t14_ + 1)) b0 (l1 ++ ([(IntKind.wrap .u8 (Int.fdiv (List.getD l2 (Int.toNat t14_) 0) (2 ^ min (Int.toNat 24) (IntKind.bits .u32)))), (IntKind.wrap .u8 (Int.fdiv (List.getD l2 (Int.toNat t14_) 0) (2 ^ min (Int.toNat 16) (IntKind.bits .u32)))), (IntKind.wrap .u8 (Int.fdiv (List.getD l2 (Int.toNat t14_) 0) (2 ^ min (Int.toNat 8) (IntKind.bits .u32)))), (IntKind.wrap .u8 (List.getD l2 (Int.toNat t14_) 0))] : List Int)) l2
          else none
        else none
      else none
    else none
  else none := res_eq (by kernel_rfl)
theorem ring_Score.F_eq (host : Int) (tenant : Int) : ring_Score.F host tenant =
  ring_Score.L1 ((List.length ([host, tenant] : List Int) : Int)) 0 (List.replicate 32 (0 : Int)) ([114] : List Int) ([host, tenant] : List Int) := by kernel_rfl
/-! ### spigot/ring.Check (15) -/
noncomputable def ring_Check.sg : Sig := ⟨[.val (.slice (.int .u32))], [((.int .i64), true)]⟩
noncomputable def ring_Check.E : Env := ⟨tl, fun i => look i [], [], eqs, globs, prims⟩
noncomputable def ring_Check.c := cxOf ring_Check.E ring_Check.sg Tryd.f15
noncomputable def ring_Check.b := body Tryd.f15
noncomputable def ring_Check.Fn : Fun := fnOf ring_Check.E ring_Check.sg Tryd.f15
noncomputable def ring_Check.F (l : (List Int)) : Option (Int × Unit) := ring_Check.Fn.F (l, ())
noncomputable def ring_Check.S1 (l : (List Int)) : St := ⟨[(0, (.v (.slice (.int .u32)) l))], [], 0, []⟩
noncomputable def ring_Check.L1 (l : (List Int)) : Option (Int × Unit) := res ring_Check.c (atJoin ring_Check.b [1, 0, 1]) (ring_Check.S1 l)
noncomputable def ring_Check.S2 (l : (List Int)) (t8_ : Int) (t9_ : Int) : St := ⟨[(0, (.v (.slice (.int .u32)) l)), (8, (.v (.int .i64) t8_)), (9, (.v (.int .i64) t9_))], [], 0, []⟩
noncomputable def ring_Check.L2 (l : (List Int)) (t8_ : Int) (t9_ : Int) : Option (Int × Unit) := res ring_Check.c (atLoop ring_Check.b [1, 1, 0, 1, 0]) (ring_Check.S2 l t8_ t9_)
noncomputable def ring_Check.S3 (l : (List Int)) (t8_ : Int) (t9_ : Int) : St := ⟨[(0, (.v (.slice (.int .u32)) l)), (8, (.v (.int .i64) t8_)), (9, (.v (.int .i64) t9_))], [], 0, []⟩
noncomputable def ring_Check.L3 (l : (List Int)) (t8_ : Int) (t9_ : Int) : Option (Int × Unit) := res ring_Check.c (atJoin ring_Check.b [1, 1, 0, 1, 0, 0, 1, 0]) (ring_Check.S3 l t8_ t9_)
noncomputable def ring_Check.S4 (l : (List Int)) (t8_ : Int) (t9_ : Int) : St := ⟨[(0, (.v (.slice (.int .u32)) l)), (8, (.v (.int .i64) t8_)), (9, (.v (.int .i64) t9_))], [], 0, []⟩
noncomputable def ring_Check.L4 (l : (List Int)) (t8_ : Int) (t9_ : Int) : Option (Int × Unit) := res ring_Check.c (atJoin ring_Check.b [1, 1, 0, 1, 0, 0, 1, 1, 0, 0, 1, 1]) (ring_Check.S4 l t8_ t9_)
theorem ring_Check.spec : FnSpec Tryd.prog globs 15 ring_Check.Fn := spec_of (E := ring_Check.E) (envOk_at tabOk eqOk primsOk (.nil)) mixOk Tryd.func15 (by kernel_rfl)
theorem ring_Check.L1_eq (l : (List Int)) : ring_Check.L1 l =
  ring_Check.L2 l ((List.length l : Int)) 0 := res_eq (by kernel_rfl)
theorem ring_Check.L2_eq (l : (List Int)) (t8_ : Int) (t9_ : Int) : ring_Check.L2 l t8_ t9_ =
  bif (decide ((t9_ : Int) < t8_)) then
    ring_Check.L3 l t8_ t9_
  else
    some (0, ()) := res_eq (by kernel_rfl)
theorem ring_Check.L3_eq (l : (List Int)) (t8_ : Int) (t9_ : Int) : ring_Check.L3 l t8_ t9_ =
  bif (decide ((t9_ : Int) > 0)) then
    bif (decide ((0 : Int) ≤ t9_ ∧ (t9_ : Int) < ((List.length l : Int)))) then
      bif (decide ((0 : Int) ≤ (IntKind.wrap .i64 (t9_ - 1)) ∧ ((IntKind.wrap .i64 (t9_ - 1)) : Int) < ((List.length l : Int)))) then
        bif (decide (((List.getD l (Int.toNat t9_) 0) : Int) ≤ (List.getD l (Int.toNat (IntKind.wrap .i64 (t9_ - 1))) 0))) then
          some (8, ())
        else
          ring_Check.L4 l t8_ t9_
      else none
    else none
  else
    ring_Check.L4 l t8_ t9_ := res_eq (by kernel_rfl)
theorem ring_Check.L4_eq (l : (List Int)) (t8_ : Int) (t9_ : Int) : ring_Check.L4 l t8_ t9_ =
  ring_Check.L2 l t8_ (IntKind.wrap .i64 (t9_ + 1)) := res_eq (by kernel_rfl)
theorem ring_Check.F_eq (l : (List Int)) : ring_Check.F l =
  bif (decide ((((List.length l : Int)) : Int) > 12)) then
    some (4, ())
  else
    ring_Check.L1 l := by kernel_rfl
/-! ### bytes.Compare (35) -/
noncomputable def bytes_Compare.sg : Sig := ⟨[.val (.slice (.int .u8)), .val (.slice (.int .u8))], [((.int .i64), true)]⟩
noncomputable def bytes_Compare.E : Env := ⟨tl, fun i => look i [], [], eqs, globs, prims⟩
noncomputable def bytes_Compare.c := cxOf bytes_Compare.E bytes_Compare.sg Tryd.f35
noncomputable def bytes_Compare.b := body Tryd.f35
noncomputable def bytes_Compare.Fn : Fun := fnOf bytes_Compare.E bytes_Compare.sg Tryd.f35
noncomputable def bytes_Compare.F (a : (List Int)) (b : (List Int)) : Option (Int × Unit) := bytes_Compare.Fn.F (a, b, ())
theorem bytes_Compare.spec : FnSpec Tryd.prog globs 35 bytes_Compare.Fn := spec_of (E := bytes_Compare.E) (envOk_at tabOk eqOk primsOk (.nil)) mixOk Tryd.func35 (by kernel_rfl)
theorem bytes_Compare.F_eq (a : (List Int)) (b : (List Int)) : bytes_Compare.F a b =
  some ((cmpB a b), ()) := by kernel_rfl
/-! ### spigot/ring.Rank$1 (34) -/
noncomputable def ring_Rank_1.sg : Sig := ⟨[.val t1, .val t1], [((.int .i64), true)]⟩
noncomputable def ring_Rank_1.E : Env := ⟨tl, fun i => look i [(35, bytes_Compare.Fn)], [], eqs, globs, prims⟩
noncomputable def ring_Rank_1.c := cxOf ring_Rank_1.E ring_Rank_1.sg Tryd.f34
noncomputable def ring_Rank_1.b := body Tryd.f34
noncomputable def ring_Rank_1.Fn : Fun := fnOf ring_Rank_1.E ring_Rank_1.sg Tryd.f34
noncomputable def ring_Rank_1.F (a : t1.den) (b : t1.den) : Option (Int × Unit) := ring_Rank_1.Fn.F (a, b, ())
theorem ring_Rank_1.spec : FnSpec Tryd.prog globs 34 ring_Rank_1.Fn := spec_of (E := ring_Rank_1.E) (envOk_at tabOk eqOk primsOk (.cons bytes_Compare.spec <| .nil)) mixOk Tryd.func34 (by kernel_rfl)
theorem ring_Rank_1.F_eq (a : t1.den) (b : t1.den) : ring_Rank_1.F a b =
  bif (decide ((0 : Int) ≤ 0 ∧ (0 : Int) ≤ 32 ∧ (32 : Int) ≤ 32)) then
    bif (decide ((0 : Int) ≤ 0 ∧ (0 : Int) ≤ 32 ∧ (32 : Int) ≤ 32)) then
      (bytes_Compare.F (List.take ((Int.toNat 32) - (Int.toNat 0)) (List.drop (Int.toNat 0) b.2.1)) (List.take ((Int.toNat 32) - (Int.toNat 0)) (List.drop (Int.toNat 0) a.2.1))).bind fun r0 =>
      some (r0.1, ())
    else none
  else none := by kernel_rfl
/-! ### slices.insertionSortCmpFunc[spigot/ring.scored] (63) -/
noncomputable def slices_insertionSortCmpFunc.sg : Sig := ⟨[.mu t1, .val (.int .i64), .val (.int .i64), .fn 34], []⟩
noncomputable def slices_insertionSortCmpFunc.E : Env := ⟨tl, fun i => look i [(34, ring_Rank_1.Fn)], [], eqs, globs, prims⟩
noncomputable def slices_insertionSortCmpFunc.c := cxOf slices_insertionSortCmpFunc.E slices_insertionSortCmpFunc.sg Tryd.f63
noncomputable def slices_insertionSortCmpFunc.b := body Tryd.f63
noncomputable def slices_insertionSortCmpFunc.Fn : Fun := fnOf slices_insertionSortCmpFunc.E slices_insertionSortCmpFunc.sg Tryd.f63
noncomputable def slices_insertionSortCmpFunc.F (data : (List t1.den)) (a : Int) (b : Int) : Option ((List t1.den) × Unit) := slices_insertionSortCmpFunc.Fn.F (data, a, b, ())
noncomputable def slices_insertionSortCmpFunc.S1 (a : Int) (b : Int) (i : Int) (l0 : (List t1.den)) : St := ⟨[(0, (.sl 0)), (1, (.v (.int .i64) a)), (2, (.v (.int .i64) b)), (3, (.fn 34 [])), (8, (.v (.int .i64) i))], [(0, some (.row t1 l0 false))], 1, [(.sl 0)]⟩
noncomputable def slices_insertionSortCmpFunc.L1 (a : Int) (b : Int) (i : Int) (l0 : (List t1.den)) : Option ((List t1.den) × Unit) := res slices_insertionSortCmpFunc.c (atLoop slices_insertionSortCmpFunc.b [1, 0]) (slices_insertionSortCmpFunc.S1 a b i l0)
noncomputable def slices_insertionSortCmpFunc.S2 (a : Int) (b : Int) (i : Int) (l0 : (List t1.den)) : St := ⟨[(0, (.sl 0)), (1, (.v (.int .i64) a)), (2, (.v (.int .i64) b)), (3, (.fn 34 [])), (8, (.v (.int .i64) i))], [(0, some (.row t1 l0 false))], 1, [(.sl 0)]⟩
noncomputable def slices_insertionSortCmpFunc.L2 (a : Int) (b : Int) (i : Int) (l0 : (List t1.den)) : Option ((List t1.den) × Unit) := res slices_insertionSortCmpFunc.c (atJoin slices_insertionSortCmpFunc.b [1, 0, 0, 0, 1]) (slices_insertionSortCmpFunc.S2 a b i l0)
noncomputable def slices_insertionSortCmpFunc.S3 (a : Int) (b : Int) (i : Int) (j : Int) (l0 : (List t1.den)) : St := ⟨[(0, (.sl 0)), (1, (.v (.int .i64) a)), (2, (.v (.int .i64) b)), (3, (.fn 34 [])), (8, (.v (.int .i64) i)), (9, (.v (.int .i64) j))], [(0, some (.row t1 l0 false))], 1, [(.sl 0)]⟩
noncomputable def slices_insertionSortCmpFunc.L3 (a : Int) (b : Int) (i : Int) (j : Int) (l0 : (List t1.den)) : Option ((List t1.den) × Unit) := res slices_insertionSortCmpFunc.c (atLoop slices_insertionSortCmpFunc.b [1, 0, 0, 1, 0, 0, 1, 0]) (slices_insertionSortCmpFunc.S3 a b i j l0)
noncomputable def slices_insertionSortCmpFunc.S4 (a : Int) (b : Int) (i : Int) (j : Int) (l0 : (List t1.den)) : St := ⟨[(0, (.sl 0)), (1, (.v (.int .i64) a)), (2, (.v (.int .i64) b)), (3, (.fn 34 [])), (8, (.v (.int .i64) i)), (9, (.v (.int .i64) j))], [(0, some (.row t1 l0 false))], 1, [(.sl 0)]⟩
noncomputable def slices_insertionSortCmpFunc.L4 (a : Int) (b : Int) (i : Int) (j : Int) (l0 : (List t1.den)) : Option ((List t1.den) × Unit) := res slices_insertionSortCmpFunc.c (atJoin slices_insertionSortCmpFunc.b [1, 0, 0, 1, 0, 0, 1, 0, 0, 0, 1]) (slices_insertionSortCmpFunc.S4 a b i j l0)
theorem slices_insertionSortCmpFunc.spec : FnSpec Tryd.prog globs 63 slices_insertionSortCmpFunc.Fn := spec_of (E := slices_insertionSortCmpFunc.E) (envOk_at tabOk eqOk primsOk (.cons ring_Rank_1.spec <| .nil)) mixOk Tryd.func63 (by kernel_rfl)
theorem slices_insertionSortCmpFunc.L1_eq (a : Int) (b : Int) (i : Int) (l0 : (List t1.den)) : slices_insertionSortCmpFunc.L1 a b i l0 =
  bif (decide ((i : Int) < b)) then
    slices_insertionSortCmpFunc.L2 a b i l0
  else
    some (l0, ()) := res_eq (by kernel_rfl)
theorem slices_insertionSortCmpFunc.L2_eq (a : Int) (b : Int) (i : Int) (l0 : (List t1.den)) : slices_insertionSortCmpFunc.L2 a b i l0 =
  slices_insertionSortCmpFunc.L3 a b i i l0 := res_eq (by kernel_rfl)
theorem slices_insertionSortCmpFunc.L3_eq (a : Int) (b : Int) (i : Int) (j : Int) (l0 : (List t1.den)) : slices_insertionSortCmpFunc.L3 a b i j l0 =
  bif (decide ((j : Int) > a)) then
    bif (decide ((0 : Int) ≤ j ∧ (j : Int) < ((List.length l0 : Int)))) then
      bif (decide ((0 : Int) ≤ (IntKind.wrap .i64 (j - 1)) ∧ ((IntKind.wrap .i64 (j - 1)) : Int) < ((List.length l0 : Int)))) then
        (ring_Rank_1.F (List.getD l0 (Int.toNat j) (0, (List.replicate 32 (0 : Int)), ())) (List.getD l0 (Int.toNat (IntKind.wrap .i64 (j - 1))) (0, (List.replicate 32 (0 : Int)), ()))).bind fun r0 =>
        bif (decide ((r0.1 : Int) < 0)) then
          slices_insertionSortCmpFunc.L4 a b i j l0
        else
          slices_insertionSortCmpFunc.L1 a b (IntKind.wrap .i64 (i + 1)) l0
      else none
    else none
  else
    slices_insertionSortCmpFunc.L1 a b (IntKind.wrap .i64 (i + 1)) l0 := res_eq (by kernel_rfl)
theorem slices_insertionSortCmpFunc.L4_eq (a : Int) (b : Int) (i : Int) (j : Int) (l0 : (List t1.den)) : slices_insertionSortCmpFunc.L4 a b i j l0 =
  bif (decide ((0 : Int) ≤ (IntKind.wrap .i64 (j - 1)) ∧ ((IntKind.wrap .i64 (j - 1)) : Int) < ((List.length l0 : Int)))) then
    bif (decide ((0 : Int) ≤ j ∧ (j : Int) < ((List.length l0 : Int)))) then
      bif (decide ((0 : Int) ≤ j ∧ (j : Int) < ((List.length l0 : Int)))) then
        bif (decide ((0 : Int) ≤ (IntKind.wrap .i64 (j - 1)) ∧ ((IntKind.wrap .i64 (j - 1)) : Int) < ((List.length (List.set l0 (Int.toNat j) (List.getD l0 (Int.toNat (IntKind.wrap .i64 (j - 1))) (0, (List.replicate 32 (0 : Int)), ()))) : Int)))) then
          slices_insertionSortCmpFunc.L3 a b i (IntKind.wrap .i64 (j - 1)) (List.set (List.set l0 (Int.toNat j) (List.getD l0 (Int.toNat (IntKind.wrap .i64 (j - 1))) (0, (List.replicate 32 (0 : Int)), ()))) (Int.toNat (IntKind.wrap .i64 (j - 1))) (List.getD l0 (Int.toNat j) (0, (List.replicate 32 (0 : Int)), ())))
        else none
      else none
    else none
  else none := res_eq (by kernel_rfl)
theorem slices_insertionSortCmpFunc.F_eq (data : (List t1.den)) (a : Int) (b : Int) : slices_insertionSortCmpFunc.F data a b =
  slices_insertionSortCmpFunc.L1 a b (IntKind.wrap .i64 (a + 1)) data := by kernel_rfl
/-! ### slices.stableCmpFunc[spigot/ring.scored] (49) -/
noncomputable def slices_stableCmpFunc.sg : Sig := ⟨[.mu t1, .val (.int .i64), .fn 34], []⟩
noncomputable def slices_stableCmpFunc.E : Env := ⟨tl, fun i => look i [(63, slices_insertionSortCmpFunc.Fn), (34, ring_Rank_1.Fn)], [], eqs, globs, prims⟩
noncomputable def slices_stableCmpFunc.c := cxOf slices_stableCmpFunc.E slices_stableCmpFunc.sg Tryd.f49
noncomputable def slices_stableCmpFunc.b := body Tryd.f49
noncomputable def slices_stableCmpFunc.Fn : Fun := fnOf slices_stableCmpFunc.E slices_stableCmpFunc.sg Tryd.f49
noncomputable def slices_stableCmpFunc.F (data : (List t1.den)) (n : Int) : Option ((List t1.den) × Unit) := slices_stableCmpFunc.Fn.F (data, n, ())
noncomputable def slices_stableCmpFunc.S1 (n : Int) (a : Int) (b : Int) (l0 : (List t1.den)) : St := ⟨[(0, (.sl 0)), (1, (.v (.int .i64) n)), (2, (.fn 34 [])), (6, (.v (.int .i64) 20)), (7, (.v (.int .i64) a)), (8, (.v (.int .i64) b))], [(0, some (.row t1 l0 false))], 1, [(.sl 0)]⟩
noncomputable def slices_stableCmpFunc.L1 (n : Int) (a : Int) (b : Int) (l0 : (List t1.den)) : Option ((List t1.den) × Unit) := res slices_stableCmpFunc.c (atLoop slices_stableCmpFunc.b [1, 1, 0, 0]) (slices_stableCmpFunc.S1 n a b l0)
noncomputable def slices_stableCmpFunc.S2 (n : Int) (a : Int) (b : Int) (l0 : (List t1.den)) : St := ⟨[(0, (.sl 0)), (1, (.v (.int .i64) n)), (2, (.fn 34 [])), (6, (.v (.int .i64) 20)), (7, (.v (.int .i64) a)), (8, (.v (.int .i64) b))], [(0, some (.row t1 l0 false))], 1, [(.sl 0)]⟩
noncomputable def slices_stableCmpFunc.L2 (n : Int) (a : Int) (b : Int) (l0 : (List t1.den)) : Option ((List t1.den) × Unit) := res slices_stableCmpFunc.c (atJoin slices_stableCmpFunc.b [1, 1, 0, 0, 0, 0, 1]) (slices_stableCmpFunc.S2 n a b l0)
noncomputable def slices_stableCmpFunc.S3 (n : Int) (blockSize : Int) (l0 : (List t1.den)) : St := ⟨[(0, (.sl 0)), (1, (.v (.int .i64) n)), (2, (.fn 34 [])), (6, (.v (.int .i64) blockSize))], [(0, some (.row t1 l0 false))], 1, [(.sl 0)]⟩
noncomputable def slices_stableCmpFunc.L3 (n : Int) (blockSize : Int) (l0 : (List t1.den)) : Option ((List t1.den) × Unit) := res slices_stableCmpFunc.c (atLoop slices_stableCmpFunc.b [1, 1, 1, 1, 0]) (slices_stableCmpFunc.S3 n blockSize l0)
noncomputable def slices_stableCmpFunc.S4 (n : Int) (blockSize : Int) (l0 : (List t1.den)) : St := ⟨[(0, (.sl 0)), (1, (.v (.int .i64) n)), (2, (.fn 34 [])), (6, (.v (.int .i64) blockSize))], [(0, some (.row t1 l0 false))], 1, [(.sl 0)]⟩
noncomputable def slices_stableCmpFunc.L4 (n : Int) (blockSize : Int) (l0 : (List t1.den)) : Option ((List t1.den) × Unit) := res slices_stableCmpFunc.c (atJoin slices_stableCmpFunc.b [1, 1, 1, 1, 0, 0, 0, 1]) (slices_stableCmpFunc.S4 n blockSize l0)
noncomputable def slices_stableCmpFunc.S5 (n : Int) (blockSize : Int) (b : Int) (l0 : (List t1.den)) : St := ⟨[(0, (.sl 0)), (1, (.v (.int .i64) n)), (2, (.fn 34 [])), (6, (.v (.int .i64) blockSize)), (7, (.v (.int .i64) 0)), (8, (.v (.int .i64) b))], [(0, some (.row t1 l0 false))], 1, [(.sl 0)]⟩
noncomputable def slices_stableCmpFunc.L5 (n : Int) (blockSize : Int) (b : Int) (l0 : (List t1.den)) : Option ((List t1.den) × Unit) := res slices_stableCmpFunc.c (atLoop slices_stableCmpFunc.b [1, 1, 1, 1, 0, 0, 1, 0, 1, 0, 0]) (slices_stableCmpFunc.S5 n blockSize b l0)
noncomputable def slices_stableCmpFunc.S6 (n : Int) (blockSize : Int) (b : Int) (l0 : (List t1.den)) : St := ⟨[(0, (.sl 0)), (1, (.v (.int .i64) n)), (2, (.fn 34 [])), (6, (.v (.int .i64) blockSize)), (7, (.v (.int .i64) 0)), (8, (.v (.int .i64) b))], [(0, some (.row t1 l0 false))], 1, [(.sl 0)]⟩
noncomputable def slices_stableCmpFunc.L6 (n : Int) (blockSize : Int) (b : Int) (l0 : (List t1.den)) : Option ((List t1.den) × Unit) := res slices_stableCmpFunc.c (atJoin slices_stableCmpFunc.b [1, 1, 1, 1, 0, 0, 1, 0, 1, 0, 0, 0, 0, 1]) (slices_stableCmpFunc.S6 n blockSize b l0)
noncomputable def slices_stableCmpFunc.S7 (n : Int) (blockSize : Int) (l0 : (List t1.den)) : St := ⟨[(0, (.sl 0)), (1, (.v (.int .i64) n)), (2, (.fn 34 [])), (6, (.v (.int .i64) blockSize))], [(0, some (.row t1 l0 false))], 1, [(.sl 0)]⟩
noncomputable def slices_stableCmpFunc.L7 (n : Int) (blockSize : Int) (l0 : (List t1.den)) : Option ((List t1.den) × Unit) := res slices_stableCmpFunc.c (atJoin slices_stableCmpFunc.b [1, 1, 1, 1, 0, 0, 1, 0, 1, 1, 0, 1, 1]) (slices_stableCmpFunc.S7 n blockSize l0)
theorem slices_stableCmpFunc.spec : FnSpec Tryd.prog globs 49 slices_stableCmpFunc.Fn := spec_of (E := slices_stableCmpFunc.E) (envOk_at tabOk eqOk primsOk (.cons slices_insertionSortCmpFunc.spec <| .cons ring_Rank_1.spec <| .nil)) mixOk Tryd.func49 (by kernel_rfl)
theorem slices_stableCmpFunc.L1_eq (n : Int) (a : Int) (b : Int) (l0 : (List t1.den)) : slices_stableCmpFunc.L1 n a b l0 =
  bif (decide ((b : Int) ≤ n)) then
    slices_stableCmpFunc.L2 n a b l0
  else
    (slices_insertionSortCmpFunc.F l0 a n).bind fun r0 =>
    slices_stableCmpFunc.L3 n 20 r0.1 := res_eq (by kernel_rfl)
theorem slices_stableCmpFunc.L2_eq (n : Int) (a : Int) (b : Int) (l0 : (List t1.den)) : slices_stableCmpFunc.L2 n a b l0 =
  (slices_insertionSortCmpFunc.F l0 a b).bind fun r0 =>
  slices_stableCmpFunc.L1 n b (IntKind.wrap .i64 (b + 20)) r0.1 := res_eq (by kernel_rfl)
theorem slices_stableCmpFunc.L3_eq (n : Int) (blockSize : Int) (l0 : (List t1.den)) : slices_stableCmpFunc.L3 n blockSize l0 =
  bif (decide ((blockSize : Int) < n)) then
    slices_stableCmpFunc.L4 n blockSize l0
  else
    some (l0, ()) := res_eq (by kernel_rfl)
theorem slices_stableCmpFunc.L4_eq (n : Int) (blockSize : Int) (l0 : (List t1.den)) : slices_stableCmpFunc.L4 n blockSize l0 =
  slices_stableCmpFunc.L5 n blockSize (IntKind.wrap .i64 (2 * blockSize)) l0 := res_eq (by kernel_rfl)
theorem slices_stableCmpFunc.L5_eq (n : Int) (blockSize : Int) (b : Int) (l0 : (List t1.den)) : slices_stableCmpFunc.L5 n blockSize b l0 =
  bif (decide ((b : Int) ≤ n)) then
    slices_stableCmpFunc.L6 n blockSize b l0
  else
    bif (decide (((IntKind.wrap .i64 (0 + blockSize)) : Int) < n)) then
      none
    else
      slices_stableCmpFunc.L7 n blockSize l0 := res_eq (by kernel_rfl)
theorem slices_stableCmpFunc.L6_eq (n : Int) (blockSize : Int) (b : Int) (l0 : (List t1.den)) : slices_stableCmpFunc.L6 n blockSize b l0 =
  none := res_eq (by kernel_rfl)
theorem slices_stableCmpFunc.L7_eq (n : Int) (blockSize : Int) (l0 : (List t1.den)) : slices_stableCmpFunc.L7 n blockSize l0 =
  slices_stableCmpFunc.L3 n (IntKind.wrap .i64 (blockSize * 2)) l0 := res_eq (by kernel_rfl)
theorem slices_stableCmpFunc.F_eq (data : (List t1.den)) (n : Int) : slices_stableCmpFunc.F data n =
  slices_stableCmpFunc.L1 n 0 20 data := by kernel_rfl
/-! ### slices.SortStableFunc[[]spigot/ring.scored,spigot/ring.scored] (33) -/
noncomputable def slices_SortStableFunc.sg : Sig := ⟨[.mu t1, .fn 34], []⟩
noncomputable def slices_SortStableFunc.E : Env := ⟨tl, fun i => look i [(49, slices_stableCmpFunc.Fn), (34, ring_Rank_1.Fn)], [], eqs, globs, prims⟩
noncomputable def slices_SortStableFunc.c := cxOf slices_SortStableFunc.E slices_SortStableFunc.sg Tryd.f33
noncomputable def slices_SortStableFunc.b := body Tryd.f33
noncomputable def slices_SortStableFunc.Fn : Fun := fnOf slices_SortStableFunc.E slices_SortStableFunc.sg Tryd.f33
noncomputable def slices_SortStableFunc.F (x : (List t1.den)) : Option ((List t1.den) × Unit) := slices_SortStableFunc.Fn.F (x, ())
theorem slices_SortStableFunc.spec : FnSpec Tryd.prog globs 33 slices_SortStableFunc.Fn := spec_of (E := slices_SortStableFunc.E) (envOk_at tabOk eqOk primsOk (.cons slices_stableCmpFunc.spec <| .cons ring_Rank_1.spec <| .nil)) mixOk Tryd.func33 (by kernel_rfl)
theorem slices_SortStableFunc.F_eq (x : (List t1.den)) : slices_SortStableFunc.F x =
  (slices_stableCmpFunc.F x ((List.length x : Int))).bind fun r0 =>
  some (r0.1, ()) := by kernel_rfl
/-! ### spigot/ring.Rank (11) -/
noncomputable def ring_Rank.sg : Sig := ⟨[.val (.slice (.int .u32)), .val (.int .u32)], [((.slice (.int .u32)), true), ((.int .i64), true)]⟩
noncomputable def ring_Rank.E : Env := ⟨tl, fun i => look i [(10, ring_Score.Fn), (15, ring_Check.Fn), (33, slices_SortStableFunc.Fn), (34, ring_Rank_1.Fn)], [], eqs, globs, prims⟩
noncomputable def ring_Rank.c := cxOf ring_Rank.E ring_Rank.sg Tryd.f11
noncomputable def ring_Rank.b := body Tryd.f11
noncomputable def ring_Rank.Fn : Fun := fnOf ring_Rank.E ring_Rank.sg Tryd.f11
noncomputable def ring_Rank.F (l : (List Int)) (tenant : Int) : Option ((List Int) × Int × Unit) := ring_Rank.Fn.F (l, tenant, ())
noncomputable def ring_Rank.S1 (l : (List Int)) (tenant : Int) : St := ⟨[(0, (.v (.slice (.int .u32)) l)), (1, (.v (.int .u32) tenant))], [], 0, []⟩
noncomputable def ring_Rank.L1 (l : (List Int)) (tenant : Int) : Option ((List Int) × Int × Unit) := res ring_Rank.c (atJoin ring_Rank.b [1, 0, 1, 1]) (ring_Rank.S1 l tenant)
noncomputable def ring_Rank.S2 (tenant : Int) (t20_ : (List Int)) (t21_ : Int) (t22_ : Int) (l0 : (List t1.den)) : St := ⟨[(1, (.v (.int .u32) tenant)), (7, (.sl 0)), (20, (.v (.slice (.int .u32)) t20_)), (21, (.v (.int .i64) t21_)), (22, (.v (.int .i64) t22_))], [(0, some (.row t1 l0 false))], 1, []⟩
noncomputable def ring_Rank.L2 (tenant : Int) (t20_ : (List Int)) (t21_ : Int) (t22_ : Int) (l0 : (List t1.den)) : Option ((List Int) × Int × Unit) := res ring_Rank.c (atLoop ring_Rank.b [1, 1, 1, 0, 1, 0]) (ring_Rank.S2 tenant t20_ t21_ t22_ l0)
noncomputable def ring_Rank.S3 (tenant : Int) (t20_ : (List Int)) (t21_ : Int) (t22_ : Int) (l0 : (List t1.den)) : St := ⟨[(1, (.v (.int .u32) tenant)), (7, (.sl 0)), (20, (.v (.slice (.int .u32)) t20_)), (21, (.v (.int .i64) t21_)), (22, (.v (.int .i64) t22_))], [(0, some (.row t1 l0 false))], 1, []⟩
noncomputable def ring_Rank.L3 (tenant : Int) (t20_ : (List Int)) (t21_ : Int) (t22_ : Int) (l0 : (List t1.den)) : Option ((List Int) × Int × Unit) := res ring_Rank.c (atJoin ring_Rank.b [1, 1, 1, 0, 1, 0, 0, 1, 0]) (ring_Rank.S3 tenant t20_ t21_ t22_ l0)
noncomputable def ring_Rank.S4 (t45_ : Int) (t46_ : Int) (l0 : (List Int)) (l1 : (List t1.den)) : St := ⟨[(12, (.sl 0)), (44, (.sl 1)), (45, (.v (.int .i64) t45_)), (46, (.v (.int .i64) t46_))], [(0, some (.row (.int .u32) l0 false)), (1, some (.row t1 l1 false))], 2, []⟩
noncomputable def ring_Rank.L4 (t45_ : Int) (t46_ : Int) (l0 : (List Int)) (l1 : (List t1.den)) : Option ((List Int) × Int × Unit) := res ring_Rank.c (atLoop ring_Rank.b [1, 1, 1, 1, 1, 1, 0, 1, 0]) (ring_Rank.S4 t45_ t46_ l0 l1)
noncomputable def ring_Rank.S5 (t45_ : Int) (t46_ : Int) (l0 : (List Int)) (l1 : (List t1.den)) : St := ⟨[(12, (.sl 0)), (44, (.sl 1)), (45, (.v (.int .i64) t45_)), (46, (.v (.int .i64) t46_))], [(0, some (.row (.int .u32) l0 false)), (1, some (.row t1 l1 false))], 2, []⟩
noncomputable def ring_Rank.L5 (t45_ : Int) (t46_ : Int) (l0 : (List Int)) (l1 : (List t1.den)) : Option ((List Int) × Int × Unit) := res ring_Rank.c (atJoin ring_Rank.b [1, 1, 1, 1, 1, 1, 0, 1, 0, 0, 1, 0]) (ring_Rank.S5 t45_ t46_ l0 l1)
noncomputable def ring_Rank.S6 (tenant : Int) (h : Int) (t20_ : (List Int)) (t21_ : Int) (t22_ : Int) (l0 : (List t1.den)) (b1 : (List Int)) : St := ⟨[(1, (.v (.int .u32) tenant)), (7, (.sl 0)), (9, (.v (.int .u32) h)), (10, (.ptr 1 [])), (20, (.v (.slice (.int .u32)) t20_)), (21, (.v (.int .i64) t21_)), (22, (.v (.int .i64) t22_))], [(0, some (.row t1 l0 false)), (1, some (.box (.v (.arr 32 (.int .u8)) b1)))], 2, []⟩
noncomputable def ring_Rank.L6 (tenant : Int) (h : Int) (t20_ : (List Int)) (t21_ : Int) (t22_ : Int) (l0 : (List t1.den)) (b1 : (List Int)) : Option ((List Int) × Int × Unit) := res ring_Rank.c (atJoin ring_Rank.b [1, 1, 1, 0, 1, 0, 0, 1, 1, 0, 0, 1, 1, 0, 1]) (ring_Rank.S6 tenant h t20_ t21_ t22_ l0 b1)
theorem ring_Rank.spec : FnSpec Tryd.prog globs 11 ring_Rank.Fn := spec_of (E := ring_Rank.E) (envOk_at tabOk eqOk primsOk (.cons ring_Score.spec <| .cons ring_Check.spec <| .cons slices_SortStableFunc.spec <| .cons ring_Rank_1.spec <| .nil)) mixOk Tryd.func11 (by kernel_rfl)
theorem ring_Rank.L1_eq (l : (List Int)) (tenant : Int) : ring_Rank.L1 l tenant =
  ring_Rank.L2 tenant l ((List.length l : Int)) 0 ([] : List t1.den) := res_eq (by kernel_rfl)
theorem ring_Rank.L2_eq (tenant : Int) (t20_ : (List Int)) (t21_ : Int) (t22_ : Int) (l0 : (List t1.den)) : ring_Rank.L2 tenant t20_ t21_ t22_ l0 =
  bif (decide ((t22_ : Int) < t21_)) then
    ring_Rank.L3 tenant t20_ t21_ t22_ l0
  else
    (slices_SortStableFunc.F l0).bind fun r0 =>
    ring_Rank.L4 ((List.length r0.1 : Int)) 0 ([] : List Int) r0.1 := res_eq (by kernel_rfl)
theorem ring_Rank.L3_eq (tenant : Int) (t20_ : (List Int)) (t21_ : Int) (t22_ : Int) (l0 : (List t1.den)) : ring_Rank.L3 tenant t20_ t21_ t22_ l0 =
  bif (decide ((0 : Int) ≤ t22_ ∧ (t22_ : Int) < ((List.length t20_ : Int)))) then
    (ring_Score.F (List.getD t20_ (Int.toNat t22_) 0) tenant).bind fun r0 =>
    bif (r0.2.1 != 0) then
      some (([] : List Int), r0.2.1, ())
    else
      ring_Rank.L6 tenant (List.getD t20_ (Int.toNat t22_) 0) t20_ t21_ t22_ l0 r0.1
  else none := res_eq (by kernel_rfl)
theorem ring_Rank.L4_eq (t45_ : Int) (t46_ : Int) (l0 : (List Int)) (l1 : (List t1.den)) : ring_Rank.L4 t45_ t46_ l0 l1 =
  bif (decide ((t46_ : Int) < t45_)) then
    ring_Rank.L5 t45_ t46_ l0 l1
  else
    some (l0, 0, ()) := res_eq (by kernel_rfl)
theorem ring_Rank.L5_eq (t45_ : Int) (t46_ : Int) (l0 : (List Int)) (l1 : (List t1.den)) : ring_Rank.L5 t45_ t46_ l0 l1 =
  bif (decide ((0 : Int) ≤ t46_ ∧ (t46_ : Int) < ((List.length l1 : Int)))) then
    bif (lim ((List.length l0) + (List.length ([(List.getD l1 (Int.toNat t46_) (0, (List.replicate 32 (0 : Int)), ())).1] : List Int))) (.int .u32)) then
      ring_Rank.L4 t45_ (IntKind.wrap .i64 (t46_ + 1)) (l0 ++ ([(List.getD l1 (Int.toNat t46_) (0, (List.replicate 32 (0 : Int)), ())).1] : List Int)) l1
    else none
  else none := res_eq (by kernel_rfl)
theorem ring_Rank.L6_eq (tenant : Int) (h : Int) (t20_ : (List Int)) (t21_ : Int) (t22_ : Int) (l0 : (List t1.den)) (b1 : (List Int)) : ring_Rank.L6 tenant h t20_ t21_ t22_ l0 b1 =
  bif (lim ((List.length l0) + (List.length ([(h, b1, ())] : List t1.den))) t1) then
    ring_Rank.L2 tenant t20_ t21_ (IntKind.wrap .i64 (t22_ + 1)) (l0 ++ ([(h, b1, ())] : List t1.den))
  else none := res_eq (by kernel_rfl)
theorem ring_Rank.F_eq (l : (List Int)) (tenant : Int) : ring_Rank.F l tenant =
  (ring_Check.F l).bind fun r0 =>
  bif (r0.1 != 0) then
    some (([] : List Int), r0.1, ())
  else
    ring_Rank.L1 l tenant := by kernel_rfl
/-! ### spigot/spigotref41.Check (16) -/
noncomputable def spigotref41_Check.sg : Sig := ⟨[.val (.slice (.int .u32))], [((.int .i64), true)]⟩
noncomputable def spigotref41_Check.E : Env := ⟨tl, fun i => look i [], [], eqs, globs, prims⟩
noncomputable def spigotref41_Check.c := cxOf spigotref41_Check.E spigotref41_Check.sg Tryd.f16
noncomputable def spigotref41_Check.b := body Tryd.f16
noncomputable def spigotref41_Check.Fn : Fun := fnOf spigotref41_Check.E spigotref41_Check.sg Tryd.f16
noncomputable def spigotref41_Check.F (l : (List Int)) : Option (Int × Unit) := spigotref41_Check.Fn.F (l, ())
noncomputable def spigotref41_Check.S1 (l : (List Int)) : St := ⟨[(0, (.v (.slice (.int .u32)) l))], [], 0, []⟩
noncomputable def spigotref41_Check.L1 (l : (List Int)) : Option (Int × Unit) := res spigotref41_Check.c (atJoin spigotref41_Check.b [1, 0, 1]) (spigotref41_Check.S1 l)
noncomputable def spigotref41_Check.S2 (l : (List Int)) (i : Int) : St := ⟨[(0, (.v (.slice (.int .u32)) l)), (3, (.v (.int .i64) i))], [], 0, []⟩
noncomputable def spigotref41_Check.L2 (l : (List Int)) (i : Int) : Option (Int × Unit) := res spigotref41_Check.c (atLoop spigotref41_Check.b [1, 1, 0, 1, 0]) (spigotref41_Check.S2 l i)
noncomputable def spigotref41_Check.S3 (l : (List Int)) (i : Int) : St := ⟨[(0, (.v (.slice (.int .u32)) l)), (3, (.v (.int .i64) i))], [], 0, []⟩
noncomputable def spigotref41_Check.L3 (l : (List Int)) (i : Int) : Option (Int × Unit) := res spigotref41_Check.c (atJoin spigotref41_Check.b [1, 1, 0, 1, 0, 0, 0, 1]) (spigotref41_Check.S3 l i)
noncomputable def spigotref41_Check.S4 (l : (List Int)) (i : Int) : St := ⟨[(0, (.v (.slice (.int .u32)) l)), (3, (.v (.int .i64) i))], [], 0, []⟩
noncomputable def spigotref41_Check.L4 (l : (List Int)) (i : Int) : Option (Int × Unit) := res spigotref41_Check.c (atJoin spigotref41_Check.b [1, 1, 0, 1, 0, 0, 1, 0, 0, 1]) (spigotref41_Check.S4 l i)
theorem spigotref41_Check.spec : FnSpec Tryd.prog globs 16 spigotref41_Check.Fn := spec_of (E := spigotref41_Check.E) (envOk_at tabOk eqOk primsOk (.nil)) mixOk Tryd.func16 (by kernel_rfl)
theorem spigotref41_Check.L1_eq (l : (List Int)) : spigotref41_Check.L1 l =
  spigotref41_Check.L2 l 1 := res_eq (by kernel_rfl)
theorem spigotref41_Check.L2_eq (l : (List Int)) (i : Int) : spigotref41_Check.L2 l i =
  bif (decide ((i : Int) < ((List.length l : Int)))) then
    spigotref41_Check.L3 l i
  else
    some (0, ()) := res_eq (by kernel_rfl)
theorem spigotref41_Check.L3_eq (l : (List Int)) (i : Int) : spigotref41_Check.L3 l i =
  bif (decide ((0 : Int) ≤ i ∧ (i : Int) < ((List.length l : Int)))) then
    bif (decide ((0 : Int) ≤ (IntKind.wrap .i64 (i - 1)) ∧ ((IntKind.wrap .i64 (i - 1)) : Int) < ((List.length l : Int)))) then
      bif (decide (((List.getD l (Int.toNat i) 0) : Int) ≤ (List.getD l (Int.toNat (IntKind.wrap .i64 (i - 1))) 0))) then
        some (8, ())
      else
        spigotref41_Check.L4 l i
    else none
  else none := res_eq (by kernel_rfl)
theorem spigotref41_Check.L4_eq (l : (List Int)) (i : Int) : spigotref41_Check.L4 l i =
  spigotref41_Check.L2 l (IntKind.wrap .i64 (i + 1)) := res_eq (by kernel_rfl)
theorem spigotref41_Check.F_eq (l : (List Int)) : spigotref41_Check.F l =
  bif (decide ((((List.length l : Int)) : Int) > 12)) then
    some (4, ())
  else
    spigotref41_Check.L1 l := by kernel_rfl
/-! ### spigot/spigotref05.digest (51) -/
noncomputable def spigotref05_digest.sg : Sig := ⟨[.val (.arr 8 (.int .u32))], [((.arr 32 (.int .u8)), true)]⟩
noncomputable def spigotref05_digest.E : Env := ⟨tl, fun i => look i [], [], eqs, globs, prims⟩
noncomputable def spigotref05_digest.c := cxOf spigotref05_digest.E spigotref05_digest.sg Tryd.f51
noncomputable def spigotref05_digest.b := body Tryd.f51
noncomputable def spigotref05_digest.Fn : Fun := fnOf spigotref05_digest.E spigotref05_digest.sg Tryd.f51
noncomputable def spigotref05_digest.F (h : (List Int)) : Option ((List Int) × Unit) := spigotref05_digest.Fn.F (h, ())
noncomputable def spigotref05_digest.S1 (i : Int) (b0 : (List Int)) (b1 : (List Int)) (b2 : (List Int)) : St := ⟨[(1, (.ptr 0 [])), (2, (.ptr 1 [])), (3, (.ptr 2 [])), (4, (.v (.int .i64) i))], [(0, some (.box (.v (.arr 8 (.int .u32)) b0))), (1, some (.box (.v (.arr 32 (.int .u8)) b1))), (2, some (.box (.v (.arr 32 (.int .u8)) b2)))], 3, []⟩
noncomputable def spigotref05_digest.L1 (i : Int) (b0 : (List Int)) (b1 : (List Int)) (b2 : (List Int)) : Option ((List Int) × Unit) := res spigotref05_digest.c (atLoop spigotref05_digest.b [1, 1, 0, 1, 0]) (spigotref05_digest.S1 i b0 b1 b2)
noncomputable def spigotref05_digest.S2 (i : Int) (b0 : (List Int)) (b1 : (List Int)) (b2 : (List Int)) : St := ⟨[(1, (.ptr 0 [])), (2, (.ptr 1 [])), (3, (.ptr 2 [])), (4, (.v (.int .i64) i))], [(0, some (.box (.v (.arr 8 (.int .u32)) b0))), (1, some (.box (.v (.arr 32 (.int .u8)) b1))), (2, some (.box (.v (.arr 32 (.int .u8)) b2)))], 3, []⟩
noncomputable def spigotref05_digest.L2 (i : Int) (b0 : (List Int)) (b1 : (List Int)) (b2 : (List Int)) : Option ((List Int) × Unit) := res spigotref05_digest.c (atJoin spigotref05_digest.b [1, 1, 0, 1, 0, 0, 0, 1]) (spigotref05_digest.S2 i b0 b1 b2)
theorem spigotref05_digest.spec : FnSpec Tryd.prog globs 51 spigotref05_digest.Fn := spec_of (E := spigotref05_digest.E) (envOk_at tabOk eqOk primsOk (.nil)) mixOk Tryd.func51 (by kernel_rfl)
theorem spigotref05_digest.L1_eq (i : Int) (b0 : (List Int)) (b1 : (List Int)) (b2 : (List Int)) : spigotref05_digest.L1 i b0 b1 b2 =
  bif (decide ((i : Int) < 32)) then
    spigotref05_digest.L2 i b0 b1 b2
  else
    some (b2, ()) := res_eq (by kernel_rfl)
theorem spigotref05_digest.L2_eq (i : Int) (b0 : (List Int)) (b1 : (List Int)) (b2 : (List Int)) : spigotref05_digest.L2 i b0 b1 b2 =
  bif (decide ((4 : Int) ≠ 0)) then
    bif (decide ((0 : Int) ≤ (IntKind.wrap .i64 (Int.tdiv i 4)) ∧ ((IntKind.wrap .i64 (Int.tdiv i 4)) : Int) < 8)) then
      bif (decide ((4 : Int) ≠ 0)) then
        bif (decide ((0 : Int) ≤ (IntKind.wrap .i64 (24 - (IntKind.wrap .i64 (8 * (Int.tmod i 4))))))) then
          bif (decide ((0 : Int) ≤ i ∧ (i : Int) < 32)) then
            spigotref05_digest.L1 (IntKind.wrap .i64 (i + 1)) b0 b1 (List.set b2 (Int.toNat i) (IntKind.wrap .u8 (Int.fdiv (List.getD b0 (Int.toNat (IntKind.wrap .i64 (Int.tdiv i 4))) 0) (2 ^ min (Int.toNat (IntKind.wrap .i64 (24 - (IntKind.wrap .i64 (8 * (Int.tmod i 4)))))) (IntKind.bits .u32)))))
          else none
        else none
      else none
    else none
  else none := res_eq (by kernel_rfl)
theorem spigotref05_digest.F_eq (h : (List Int)) : spigotref05_digest.F h =
  spigotref05_digest.L1 0 h (List.replicate 32 (0 : Int)) (List.replicate 32 (0 : Int)) := by kernel_rfl
/-! ### spigot/spigotref05.turn (71) -/
noncomputable def spigotref05_turn.sg : Sig := ⟨[.val (.int .u32), .val (.int .i64)], [((.int .u32), true)]⟩
noncomputable def spigotref05_turn.E : Env := ⟨tl, fun i => look i [], [], eqs, globs, prims⟩
noncomputable def spigotref05_turn.c := cxOf spigotref05_turn.E spigotref05_turn.sg Tryd.f71
noncomputable def spigotref05_turn.b := body Tryd.f71
noncomputable def spigotref05_turn.Fn : Fun := fnOf spigotref05_turn.E spigotref05_turn.sg Tryd.f71
noncomputable def spigotref05_turn.F (x : Int) (n : Int) : Option (Int × Unit) := spigotref05_turn.Fn.F (x, n, ())
theorem spigotref05_turn.spec : FnSpec Tryd.prog globs 71 spigotref05_turn.Fn := spec_of (E := spigotref05_turn.E) (envOk_at tabOk eqOk primsOk (.nil)) mixOk Tryd.func71 (by kernel_rfl)
theorem spigotref05_turn.F_eq (x : Int) (n : Int) : spigotref05_turn.F x n =
  bif (decide ((0 : Int) ≤ n)) then
    bif (decide ((0 : Int) ≤ (IntKind.wrap .i64 (32 - n)))) then
      some ((bits .or .u32 (Int.fdiv x (2 ^ min (Int.toNat n) (IntKind.bits .u32))) (IntKind.wrap .u32 (x * 2 ^ min (Int.toNat (IntKind.wrap .i64 (32 - n))) (IntKind.bits .u32)))), ())
    else none
  else none := by kernel_rfl
/-! ### spigot/spigotref05.constants (72) -/
noncomputable def spigotref05_constants.sg : Sig := ⟨[], [((.slice (.int .u32)), true)]⟩
noncomputable def spigotref05_constants.E : Env := ⟨tl, fun i => look i [], [], eqs, globs, prims⟩
noncomputable def spigotref05_constants.c := cxOf spigotref05_constants.E spigotref05_constants.sg Tryd.f72
noncomputable def spigotref05_constants.b := body Tryd.f72
noncomputable def spigotref05_constants.Fn : Fun := fnOf spigotref05_constants.E spigotref05_constants.sg Tryd.f72
noncomputable def spigotref05_constants.F : Option ((List Int) × Unit) := spigotref05_constants.Fn.F ()
theorem spigotref05_constants.spec : FnSpec Tryd.prog globs 72 spigotref05_constants.Fn := spec_of (E := spigotref05_constants.E) (envOk_at tabOk eqOk primsOk (.nil)) mixOk Tryd.func72 (by kernel_rfl)
theorem spigotref05_constants.F_eq : spigotref05_constants.F =
  some (([1116352408, 1899447441, 3049323471, 3921009573, 961987163, 1508970993, 2453635748, 2870763221, 3624381080, 310598401, 607225278, 1426881987, 1925078388, 2162078206, 2614888103, 3248222580, 3835390401, 4022224774, 264347078, 604807628, 770255983, 1249150122, 1555081692, 1996064986, 2554220882, 2821834349, 2952996808, 3210313671, 3336571891, 3584528711, 113926993, 338241895, 666307205, 773529912, 1294757372, 1396182291, 1695183700, 1986661051, 2177026350, 2456956037, 2730485921, 2820302411, 3259730800, 3345764771, 3516065817, 3600352804, 4094571909, 275423344, 430227734, 506948616, 659060556, 883997877, 958139571, 1322822218, 1537002063, 1747873779, 1955562222, 2024104815, 2227730452, 2361852424, 2428436474, 2756734187, 3204031479, 3329325298] : List Int), ()) := by kernel_rfl
/-! ### spigot/spigotref05.Taken (65) -/
noncomputable def spigotref05_Taken.sg : Sig := ⟨[.val (.arr 8 (.int .u32)), .val (.slice (.int .u8))], [((.arr 8 (.int .u32)), true)]⟩
noncomputable def spigotref05_Taken.E : Env := ⟨tl, fun i => look i [(71, spigotref05_turn.Fn), (72, spigotref05_constants.Fn)], [], eqs, globs, prims⟩
noncomputable def spigotref05_Taken.c := cxOf spigotref05_Taken.E spigotref05_Taken.sg Tryd.f65
noncomputable def spigotref05_Taken.b := body Tryd.f65
noncomputable def spigotref05_Taken.Fn : Fun := fnOf spigotref05_Taken.E spigotref05_Taken.sg Tryd.f65
noncomputable def spigotref05_Taken.F (h : (List Int)) (b : (List Int)) : Option ((List Int) × Unit) := spigotref05_Taken.Fn.F (h, b, ())
noncomputable def spigotref05_Taken.S1 (b : (List Int)) (t : Int) (b0 : (List Int)) (b1 : (List Int)) (l2 : (List Int)) : St := ⟨[(1, (.v (.slice (.int .u8)) b)), (2, (.ptr 0 [])), (4, (.ptr 1 [])), (5, (.sl 2)), (6, (.v (.int .i64) t))], [(0, some (.box (.v (.arr 8 (.int .u32)) b0))), (1, some (.box (.v (.arr 8 (.int .u32)) b1))), (2, some (.row (.int .u32) l2 false))], 3, []⟩
noncomputable def spigotref05_Taken.L1 (b : (List Int)) (t : Int) (b0 : (List Int)) (b1 : (List Int)) (l2 : (List Int)) : Option ((List Int) × Unit) := res spigotref05_Taken.c (atLoop spigotref05_Taken.b [1, 1, 0, 1, 0]) (spigotref05_Taken.S1 b t b0 b1 l2)
noncomputable def spigotref05_Taken.S2 (b : (List Int)) (t : Int) (b0 : (List Int)) (b1 : (List Int)) (l2 : (List Int)) : St := ⟨[(1, (.v (.slice (.int .u8)) b)), (2, (.ptr 0 [])), (4, (.ptr 1 [])), (5, (.sl 2)), (6, (.v (.int .i64) t))], [(0, some (.box (.v (.arr 8 (.int .u32)) b0))), (1, some (.box (.v (.arr 8 (.int .u32)) b1))), (2, some (.row (.int .u32) l2 false))], 3, []⟩
noncomputable def spigotref05_Taken.L2 (b : (List Int)) (t : Int) (b0 : (List Int)) (b1 : (List Int)) (l2 : (List Int)) : Option ((List Int) × Unit) := res spigotref05_Taken.c (atJoin spigotref05_Taken.b [1, 1, 0, 1, 0, 0, 0, 1]) (spigotref05_Taken.S2 b t b0 b1 l2)
noncomputable def spigotref05_Taken.S3 (t : Int) (b0 : (List Int)) (b1 : (List Int)) (l2 : (List Int)) : St := ⟨[(2, (.ptr 0 [])), (4, (.ptr 1 [])), (5, (.sl 2)), (7, (.v (.int .i64) t))], [(0, some (.box (.v (.arr 8 (.int .u32)) b0))), (1, some (.box (.v (.arr 8 (.int .u32)) b1))), (2, some (.row (.int .u32) l2 false))], 3, []⟩
noncomputable def spigotref05_Taken.L3 (t : Int) (b0 : (List Int)) (b1 : (List Int)) (l2 : (List Int)) : Option ((List Int) × Unit) := res spigotref05_Taken.c (atLoop spigotref05_Taken.b [1, 1, 1, 0, 1, 0]) (spigotref05_Taken.S3 t b0 b1 l2)
noncomputable def spigotref05_Taken.S4 (t : Int) (b0 : (List Int)) (b1 : (List Int)) (l2 : (List Int)) : St := ⟨[(2, (.ptr 0 [])), (4, (.ptr 1 [])), (5, (.sl 2)), (7, (.v (.int .i64) t))], [(0, some (.box (.v (.arr 8 (.int .u32)) b0))), (1, some (.box (.v (.arr 8 (.int .u32)) b1))), (2, some (.row (.int .u32) l2 false))], 3, []⟩
noncomputable def spigotref05_Taken.L4 (t : Int) (b0 : (List Int)) (b1 : (List Int)) (l2 : (List Int)) : Option ((List Int) × Unit) := res spigotref05_Taken.c (atJoin spigotref05_Taken.b [1, 1, 1, 0, 1, 0, 0, 0, 1]) (spigotref05_Taken.S4 t b0 b1 l2)
noncomputable def spigotref05_Taken.S5 (a : Int) (b1 : Int) (c : Int) (d : Int) (e : Int) (f : Int) (g : Int) (z : Int) (t : Int) (b0 : (List Int)) (b12 : (List Int)) (l2 : (List Int)) (l3 : (List Int)) : St := ⟨[(2, (.ptr 0 [])), (4, (.ptr 1 [])), (5, (.sl 2)), (12, (.sl 3)), (13, (.v (.int .u32) a)), (14, (.v (.int .u32) b1)), (15, (.v (.int .u32) c)), (16, (.v (.int .u32) d)), (17, (.v (.int .u32) e)), (18, (.v (.int .u32) f)), (19, (.v (.int .u32) g)), (20, (.v (.int .u32) z)), (21, (.v (.int .i64) t))], [(0, some (.box (.v (.arr 8 (.int .u32)) b0))), (1, some (.box (.v (.arr 8 (.int .u32)) b12))), (2, some (.row (.int .u32) l2 false)), (3, some (.row (.int .u32) l3 false))], 4, []⟩
noncomputable def spigotref05_Taken.L5 (a : Int) (b1 : Int) (c : Int) (d : Int) (e : Int) (f : Int) (g : Int) (z : Int) (t : Int) (b0 : (List Int)) (b12 : (List Int)) (l2 : (List Int)) (l3 : (List Int)) : Option ((List Int) × Unit) := res spigotref05_Taken.c (atLoop spigotref05_Taken.b [1, 1, 1, 1, 1, 1, 0, 1, 0]) (spigotref05_Taken.S5 a b1 c d e f g z t b0 b12 l2 l3)
noncomputable def spigotref05_Taken.S6 (a : Int) (b1 : Int) (c : Int) (d : Int) (e : Int) (f : Int) (g : Int) (z : Int) (t : Int) (b0 : (List Int)) (b12 : (List Int)) (l2 : (List Int)) (l3 : (List Int)) : St := ⟨[(2, (.ptr 0 [])), (4, (.ptr 1 [])), (5, (.sl 2)), (12, (.sl 3)), (13, (.v (.int .u32) a)), (14, (.v (.int .u32) b1)), (15, (.v (.int .u32) c)), (16, (.v (.int .u32) d)), (17, (.v (.int .u32) e)), (18, (.v (.int .u32) f)), (19, (.v (.int .u32) g)), (20, (.v (.int .u32) z)), (21, (.v (.int .i64) t))], [(0, some (.box (.v (.arr 8 (.int .u32)) b0))), (1, some (.box (.v (.arr 8 (.int .u32)) b12))), (2, some (.row (.int .u32) l2 false)), (3, some (.row (.int .u32) l3 false))], 4, []⟩
noncomputable def spigotref05_Taken.L6 (a : Int) (b1 : Int) (c : Int) (d : Int) (e : Int) (f : Int) (g : Int) (z : Int) (t : Int) (b0 : (List Int)) (b12 : (List Int)) (l2 : (List Int)) (l3 : (List Int)) : Option ((List Int) × Unit) := res spigotref05_Taken.c (atJoin spigotref05_Taken.b [1, 1, 1, 1, 1, 1, 0, 1, 0, 0, 0, 1]) (spigotref05_Taken.S6 a b1 c d e f g z t b0 b12 l2 l3)
theorem spigotref05_Taken.spec : FnSpec Tryd.prog globs 65 spigotref05_Taken.Fn := spec_of (E := spigotref05_Taken.E) (envOk_at tabOk eqOk primsOk (.cons spigotref05_turn.spec <| .cons spigotref05_constants.spec <| .nil)) mixOk Tryd.func65 (by kernel_rfl)
theorem spigotref05_Taken.L1_eq (b : (List Int)) (t : Int) (b0 : (List Int)) (b1 : (List Int)) (l2 : (List Int)) : spigotref05_Taken.L1 b t b0 b1 l2 =
  bif (decide ((t : Int) < 16)) then
    spigotref05_Taken.L2 b t b0 b1 l2
  else
    spigotref05_Taken.L3 16 b0 b1 l2 := res_eq (by kernel_rfl)
theorem spigotref05_Taken.L2_eq (b : (List Int)) (t : Int) (b0 : (List Int)) (b1 : (List Int)) (l2 : (List Int)) : spigotref05_Taken.L2 b t b0 b1 l2 =
  bif (decide ((0 : Int) ≤ (IntKind.wrap .i64 (4 * t)) ∧ ((IntKind.wrap .i64 (4 * t)) : Int) < ((List.length b : Int)))) then
    bif (decide ((0 : Int) ≤ (IntKind.wrap .i64 ((IntKind.wrap .i64 (4 * t)) + 1)) ∧ ((IntKind.wrap .i64 ((IntKind.wrap .i64 (4 * t)) + 1)) : Int) < ((List.length b : Int)))) then
      bif (decide ((0 : Int) ≤ (IntKind.wrap .i64 ((IntKind.wrap .i64 (4 * t)) + 2)) ∧ ((IntKind.wrap .i64 ((IntKind.wrap .i64 (4 * t)) + 2)) : Int) < ((List.length b : Int)))) then
        bif (decide ((0 : Int) ≤ (IntKind.wrap .i64 ((IntKind.wrap .i64 (4 * t)) + 3)) ∧ ((IntKind.wrap .i64 ((IntKind.wrap .i64 (4 * t)) + 3)) : Int) < ((List.length b : Int)))) then
          bif (lim ((List.length l2) + (List.length ([(IntKind.wrap .u32 ((IntKind.wrap .u32 ((IntKind.wrap .u32 ((IntKind.wrap .u32 ((IntKind.wrap .u32 (List.getD b (Int.toNat (IntKind.wrap .i64 (4 * t))) 0)) * 16777216)) + (IntKind.wrap .u32 ((IntKind.wrap .u32 (List.getD b (Int.toNat (IntKind.wrap .i64 ((IntKind.wrap .i64 (4 * t)) + 1))) 0)) * 65536)))) + (IntKind.wrap .u32 ((IntKind.wrap .u32 (List.getD b (Int.toNat (IntKind.wrap .i64 ((IntKind.wrap .i64 (4 * t)) + 2))) 0)) * 256)))) + (IntKind.wrap .u32 (List.getD b (Int.toNat (IntKind.wrap .i64 ((IntKind.wrap .i64 (4 * t)) + 3))) 0))))] : List Int))) (.int .u32)) then
            spigotref05_Taken.L1 b (IntKind.wrap .i64 (t + 1)) b0 b1 (l2 ++ ([(IntKind.wrap .u32 ((IntKind.wrap .u32 ((IntKind.wrap .u32 ((IntKind.wrap .u32 ((IntKind.wrap .u32 (List.getD b (Int.toNat (IntKind.wrap .i64 (4 * t))) 0)) * 16777216)) + (IntKind.wrap .u32 ((IntKind.wrap .u32 (List.getD b (Int.toNat (IntKind.wrap .i64 ((IntKind.wrap .i64 (4 * t)) + 1))) 0)) * 65536)))) + (IntKind.wrap .u32 ((IntKind.wrap .u32 (List.getD b (Int.toNat (IntKind.wrap .i64 ((IntKind.wrap .i64 (4 * t)) + 2))) 0)) * 256)))) + (IntKind.wrap .u32 (List.getD b (Int.toNat (IntKind.wrap .i64 ((IntKind.wrap .i64 (4 * t)) + 3))) 0))))] : List Int))
          else none
        else none
      else none
    else none
  else none := res_eq (by kernel_rfl)
theorem spigotref05_Taken.L3_eq (t : Int) (b0 : (List Int)) (b1 : (List Int)) (l2 : (List Int)) : spigotref05_Taken.L3 t b0 b1 l2 =
  bif (decide ((t : Int) < 64)) then
    spigotref05_Taken.L4 t b0 b1 l2
  else
    spigotref05_constants.F.bind fun r0 =>
    bif (decide ((0 : Int) ≤ 0 ∧ (0 : Int) < 8)) then
      bif (decide ((0 : Int) ≤ 1 ∧ (1 : Int) < 8)) then
        bif (decide ((0 : Int) ≤ 2 ∧ (2 : Int) < 8)) then
          bif (decide ((0 : Int) ≤ 3 ∧ (3 : Int) < 8)) then
            bif (decide ((0 : Int) ≤ 4 ∧ (4 : Int) < 8)) then
              bif (decide ((0 : Int) ≤ 5 ∧ (5 : Int) < 8)) then
                bif (decide ((0 : Int) ≤ 6 ∧ (6 : Int) < 8)) then
                  bif (decide ((0 : Int) ≤ 7 ∧ (7 : Int) < 8)) then
                    spigotref05_Taken.L5 (List.getD b0 (Int.toNat 0) 0) (List.getD b0 (Int.toNat 1) 0) (List.getD b0 (Int.toNat 2) 0) (List.getD b0 (Int.toNat 3) 0) (List.getD b0 (Int.toNat 4) 0) (List.getD b0 (Int.toNat 5) 0) (List.getD b0 (Int.toNat 6) 0) (List.getD b0 (Int.toNat 7) 0) 0 b0 b1 l2 r0.1
                  else none
                else none
              else none
            else none
          else none
        else none
      else none
    else none := res_eq (by kernel_rfl)
theorem spigotref05_Taken.L4_eq (t : Int) (b0 : (List Int)) (b1 : (List Int)) (l2 : (List Int)) : spigotref05_Taken.L4 t b0 b1 l2 =
  bif (decide ((0 : Int) ≤ (IntKind.wrap .i64 (t - 15)) ∧ ((IntKind.wrap .i64 (t - 15)) : Int) < ((List.length l2 : Int)))) then
    bif (decide ((0 : Int) ≤ (IntKind.wrap .i64 (t - 2)) ∧ ((IntKind.wrap .i64 (t - 2)) : Int) < ((List.length l2 : Int)))) then
      (spigotref05_turn.F (List.getD l2 (Int.toNat (IntKind.wrap .i64 (t - 15))) 0) 7).bind fun r0 =>
      (spigotref05_turn.F (List.getD l2 (Int.toNat (IntKind.wrap .i64 (t - 15))) 0) 18).bind fun r1 =>
      bif (decide ((0 : Int) ≤ 3)) then
        (spigotref05_turn.F (List.getD l2 (Int.toNat (IntKind.wrap .i64 (t - 2))) 0) 17).bind fun r2 =>
        (spigotref05_turn.F (List.getD l2 (Int.toNat (IntKind.wrap .i64 (t - 2))) 0) 19).bind fun r3 =>
        bif (decide ((0 : Int) ≤ 10)) then
          bif (decide ((0 : Int) ≤ (IntKind.wrap .i64 (t - 16)) ∧ ((IntKind.wrap .i64 (t - 16)) : Int) < ((List.length l2 : Int)))) then
            bif (decide ((0 : Int) ≤ (IntKind.wrap .i64 (t - 7)) ∧ ((IntKind.wrap .i64 (t - 7)) : Int) < ((List.length l2 : Int)))) then
              bif (lim ((List.length l2) + (List.length ([(IntKind.wrap .u32 ((IntKind.wrap .u32 ((IntKind.wrap .u32 ((List.getD l2 (Int.toNat (IntKind.wrap .i64 (t - 16))) 0) + (List.getD l2 (Int.toNat (IntKind.wrap .i64 (t - 7))) 0))) + (bits .xor .u32 (bits .xor .u32 r0.1 r1.1) (Int.fdiv (List.getD l2 (Int.toNat (IntKind.wrap .i64 (t - 15))) 0) (2 ^ min (Int.toNat 3) (IntKind.bits .u32)))))) + (bits .xor .u32 (bits .xor .u32 r2.1 r3.1) (Int.fdiv (List.getD l2 (Int.toNat (IntKind.wrap .i64 (t - 2))) 0) (2 ^ min (Int.toNat 10) (IntKind.bits .u32))))))] : List Int))) (.int .u32)) then
                spigotref05_Taken.L3 (IntKind.wrap .i64 (t + 1)) b0 b1 (l2 ++ ([(IntKind.wrap .u32 ((IntKind.wrap .u32 ((IntKind.wrap .u32 ((List.getD l2 (Int.toNat (IntKind.wrap .i64 (t - 16))) 0) + (List.getD l2 (Int.toNat (IntKind.wrap .i64 (t - 7))) 0))) + (bits .xor .u32 (bits .xor .u32 r0.1 r1.1) (Int.fdiv (List.getD l2 (Int.toNat (IntKind.wrap .i64 (t - 15))) 0) (2 ^ min (Int.toNat 3) (IntKind.bits .u32)))))) + (bits .xor .u32 (bits .xor .u32 r2.1 r3.1) (Int.fdiv (List.getD l2 (Int.toNat (IntKind.wrap .i64 (t - 2))) 0) (2 ^ min (Int.toNat 10) (IntKind.bits .u32))))))] : List Int))
              else none
            else none
          else none
        else none
      else none
    else none
  else none := res_eq (by kernel_rfl)
theorem spigotref05_Taken.L5_eq (a : Int) (b1 : Int) (c : Int) (d : Int) (e : Int) (f : Int) (g : Int) (z : Int) (t : Int) (b0 : (List Int)) (b12 : (List Int)) (l2 : (List Int)) (l3 : (List Int)) : spigotref05_Taken.L5 a b1 c d e f g z t b0 b12 l2 l3 =
  bif (decide ((t : Int) < 64)) then
    spigotref05_Taken.L6 a b1 c d e f g z t b0 b12 l2 l3
  else
    bif (decide ((0 : Int) ≤ 0 ∧ (0 : Int) < 8)) then
      bif (decide ((0 : Int) ≤ 1 ∧ (1 : Int) < 8)) then
        bif (decide ((0 : Int) ≤ 2 ∧ (2 : Int) < 8)) then
          bif (decide ((0 : Int) ≤ 3 ∧ (3 : Int) < 8)) then
            bif (decide ((0 : Int) ≤ 4 ∧ (4 : Int) < 8)) then
              bif (decide ((0 : Int) ≤ 5 ∧ (5 : Int) < 8)) then
                bif (decide ((0 : Int) ≤ 6 ∧ (6 : Int) < 8)) then
                  bif (decide ((0 : Int) ≤ 7 ∧ (7 : Int) < 8)) then
                    some (([(IntKind.wrap .u32 ((List.getD b0 (Int.toNat 0) 0) + a)), (IntKind.wrap .u32 ((List.getD b0 (Int.toNat 1) 0) + b1)), (IntKind.wrap .u32 ((List.getD b0 (Int.toNat 2) 0) + c)), (IntKind.wrap .u32 ((List.getD b0 (Int.toNat 3) 0) + d)), (IntKind.wrap .u32 ((List.getD b0 (Int.toNat 4) 0) + e)), (IntKind.wrap .u32 ((List.getD b0 (Int.toNat 5) 0) + f)), (IntKind.wrap .u32 ((List.getD b0 (Int.toNat 6) 0) + g)), (IntKind.wrap .u32 ((List.getD b0 (Int.toNat 7) 0) + z))] : List Int), ())
                  else none
                else none
              else none
            else none
          else none
        else none
      else none
    else none := res_eq (by kernel_rfl)
theorem spigotref05_Taken.L6_eq (a : Int) (b1 : Int) (c : Int) (d : Int) (e : Int) (f : Int) (g : Int) (z : Int) (t : Int) (b0 : (List Int)) (b12 : (List Int)) (l2 : (List Int)) (l3 : (List Int)) : spigotref05_Taken.L6 a b1 c d e f g z t b0 b12 l2 l3 =
  (spigotref05_turn.F e 6).bind fun r0 =>
  (spigotref05_turn.F e 11).bind fun r1 =>
  (spigotref05_turn.F e 25).bind fun r2 =>
  bif (decide ((0 : Int) ≤ t ∧ (t : Int) < ((List.length l3 : Int)))) then
    bif (decide ((0 : Int) ≤ t ∧ (t : Int) < ((List.length l2 : Int)))) then
      (spigotref05_turn.F a 2).bind fun r3 =>
      (spigotref05_turn.F a 13).bind fun r4 =>
      (spigotref05_turn.F a 22).bind fun r5 =>
      spigotref05_Taken.L5 (IntKind.wrap .u32 ((IntKind.wrap .u32 ((IntKind.wrap .u32 ((IntKind.wrap .u32 ((IntKind.wrap .u32 (z + (bits .xor .u32 (bits .xor .u32 r0.1 r1.1) r2.1))) + (bits .xor .u32 (bits .and .u32 e f) (bits .and .u32 (bits .xor .u32 (IntKind.max .u32) e) g)))) + (List.getD l3 (Int.toNat t) 0))) + (List.getD l2 (Int.toNat t) 0))) + (IntKind.wrap .u32 ((bits .xor .u32 (bits .xor .u32 r3.1 r4.1) r5.1) + (bits .xor .u32 (bits .xor .u32 (bits .and .u32 a b1) (bits .and .u32 a c)) (bits .and .u32 b1 c)))))) a b1 c (IntKind.wrap .u32 (d + (IntKind.wrap .u32 ((IntKind.wrap .u32 ((IntKind.wrap .u32 ((IntKind.wrap .u32 (z + (bits .xor .u32 (bits .xor .u32 r0.1 r1.1) r2.1))) + (bits .xor .u32 (bits .and .u32 e f) (bits .and .u32 (bits .xor .u32 (IntKind.max .u32) e) g)))) + (List.getD l3 (Int.toNat t) 0))) + (List.getD l2 (Int.toNat t) 0))))) e f g (IntKind.wrap .i64 (t + 1)) b0 b12 l2 l3
    else none
  else none := res_eq (by kernel_rfl)
theorem spigotref05_Taken.F_eq (h : (List Int)) (b : (List Int)) : spigotref05_Taken.F h b =
  spigotref05_Taken.L1 b 0 h (List.replicate 8 (0 : Int)) ([] : List Int) := by kernel_rfl
/-! ### spigot/spigotref05.after (52) -/
noncomputable def spigotref05_after.sg : Sig := ⟨[.val (.arr 8 (.int .u32)), .val (.slice (.int .u8))], [((.arr 8 (.int .u32)), true)]⟩
noncomputable def spigotref05_after.E : Env := ⟨tl, fun i => look i [(65, spigotref05_Taken.Fn)], [], eqs, globs, prims⟩
noncomputable def spigotref05_after.c := cxOf spigotref05_after.E spigotref05_after.sg Tryd.f52
noncomputable def spigotref05_after.b := body Tryd.f52
noncomputable def spigotref05_after.Fn : Fun := fnOf spigotref05_after.E spigotref05_after.sg Tryd.f52
noncomputable def spigotref05_after.F (h : (List Int)) (b : (List Int)) : Option ((List Int) × Unit) := spigotref05_after.Fn.F (h, b, ())
noncomputable def spigotref05_after.S1 (b : (List Int)) (at_ : Int) (b0 : (List Int)) (b1 : (List Int)) : St := ⟨[(1, (.v (.slice (.int .u8)) b)), (2, (.ptr 0 [])), (4, (.ptr 1 [])), (5, (.v (.int .i64) at_))], [(0, some (.box (.v (.arr 8 (.int .u32)) b0))), (1, some (.box (.v (.arr 8 (.int .u32)) b1)))], 2, []⟩
noncomputable def spigotref05_after.L1 (b : (List Int)) (at_ : Int) (b0 : (List Int)) (b1 : (List Int)) : Option ((List Int) × Unit) := res spigotref05_after.c (atLoop spigotref05_after.b [1, 0, 1, 0]) (spigotref05_after.S1 b at_ b0 b1)
noncomputable def spigotref05_after.S2 (b : (List Int)) (at_ : Int) (b0 : (List Int)) (b1 : (List Int)) : St := ⟨[(1, (.v (.slice (.int .u8)) b)), (2, (.ptr 0 [])), (4, (.ptr 1 [])), (5, (.v (.int .i64) at_))], [(0, some (.box (.v (.arr 8 (.int .u32)) b0))), (1, some (.box (.v (.arr 8 (.int .u32)) b1)))], 2, []⟩
noncomputable def spigotref05_after.L2 (b : (List Int)) (at_ : Int) (b0 : (List Int)) (b1 : (List Int)) : Option ((List Int) × Unit) := res spigotref05_after.c (atJoin spigotref05_after.b [1, 0, 1, 0, 0, 0, 1]) (spigotref05_after.S2 b at_ b0 b1)
theorem spigotref05_after.spec : FnSpec Tryd.prog globs 52 spigotref05_after.Fn := spec_of (E := spigotref05_after.E) (envOk_at tabOk eqOk primsOk (.cons spigotref05_Taken.spec <| .nil)) mixOk Tryd.func52 (by kernel_rfl)
theorem spigotref05_after.L1_eq (b : (List Int)) (at_ : Int) (b0 : (List Int)) (b1 : (List Int)) : spigotref05_after.L1 b at_ b0 b1 =
  bif (decide (((IntKind.wrap .i64 (at_ + 64)) : Int) ≤ ((List.length b : Int)))) then
    spigotref05_after.L2 b at_ b0 b1
  else
    some (b0, ()) := res_eq (by kernel_rfl)
theorem spigotref05_after.L2_eq (b : (List Int)) (at_ : Int) (b0 : (List Int)) (b1 : (List Int)) : spigotref05_after.L2 b at_ b0 b1 =
  bif (decide ((0 : Int) ≤ at_ ∧ (at_ : Int) ≤ (IntKind.wrap .i64 (at_ + 64)) ∧ ((IntKind.wrap .i64 (at_ + 64)) : Int) ≤ ((List.length b : Int)))) then
    (spigotref05_Taken.F b0 (List.take ((Int.toNat (IntKind.wrap .i64 (at_ + 64))) - (Int.toNat at_)) (List.drop (Int.toNat at_) b))).bind fun r0 =>
    spigotref05_after.L1 b (IntKind.wrap .i64 (at_ + 64)) r0.1 b1
  else none := res_eq (by kernel_rfl)
theorem spigotref05_after.F_eq (h : (List Int)) (b : (List Int)) : spigotref05_after.F h b =
  spigotref05_after.L1 b 0 h (List.replicate 8 (0 : Int)) := by kernel_rfl
/-! ### spigot/spigotref05.First (53) -/
noncomputable def spigotref05_First.sg : Sig := ⟨[], [((.arr 8 (.int .u32)), true)]⟩
noncomputable def spigotref05_First.E : Env := ⟨tl, fun i => look i [], [], eqs, globs, prims⟩
noncomputable def spigotref05_First.c := cxOf spigotref05_First.E spigotref05_First.sg Tryd.f53
noncomputable def spigotref05_First.b := body Tryd.f53
noncomputable def spigotref05_First.Fn : Fun := fnOf spigotref05_First.E spigotref05_First.sg Tryd.f53
noncomputable def spigotref05_First.F : Option ((List Int) × Unit) := spigotref05_First.Fn.F ()
theorem spigotref05_First.spec : FnSpec Tryd.prog globs 53 spigotref05_First.Fn := spec_of (E := spigotref05_First.E) (envOk_at tabOk eqOk primsOk (.nil)) mixOk Tryd.func53 (by kernel_rfl)
theorem spigotref05_First.F_eq : spigotref05_First.F =
  some (([1779033703, 3144134277, 1013904242, 2773480762, 1359893119, 2600822924, 528734635, 1541459225] : List Int), ()) := by kernel_rfl
/-! ### spigot/spigotref05.Padding (54) -/
noncomputable def spigotref05_Padding.sg : Sig := ⟨[.val (.int .i64)], [((.slice (.int .u8)), true)]⟩
noncomputable def spigotref05_Padding.E : Env := ⟨tl, fun i => look i [], [], eqs, globs, prims⟩
noncomputable def spigotref05_Padding.c := cxOf spigotref05_Padding.E spigotref05_Padding.sg Tryd.f54
noncomputable def spigotref05_Padding.b := body Tryd.f54
noncomputable def spigotref05_Padding.Fn : Fun := fnOf spigotref05_Padding.E spigotref05_Padding.sg Tryd.f54
noncomputable def spigotref05_Padding.F (n : Int) : Option ((List Int) × Unit) := spigotref05_Padding.Fn.F (n, ())
noncomputable def spigotref05_Padding.S1 (n : Int) (l0 : (List Int)) : St := ⟨[(0, (.v (.int .i64) n)), (3, (.sl 0))], [(0, some (.row (.int .u8) l0 false))], 1, []⟩
noncomputable def spigotref05_Padding.L1 (n : Int) (l0 : (List Int)) : Option ((List Int) × Unit) := res spigotref05_Padding.c (atLoop spigotref05_Padding.b [1, 1, 0, 0]) (spigotref05_Padding.S1 n l0)
noncomputable def spigotref05_Padding.S2 (n : Int) (l0 : (List Int)) : St := ⟨[(0, (.v (.int .i64) n)), (3, (.sl 0))], [(0, some (.row (.int .u8) l0 false))], 1, []⟩
noncomputable def spigotref05_Padding.L2 (n : Int) (l0 : (List Int)) : Option ((List Int) × Unit) := res spigotref05_Padding.c (atJoin spigotref05_Padding.b [1, 1, 0, 0, 0, 0, 1]) (spigotref05_Padding.S2 n l0)
noncomputable def spigotref05_Padding.S3 (n : Int) (i : Int) (l0 : (List Int)) : St := ⟨[(0, (.v (.int .i64) n)), (3, (.sl 0)), (4, (.v (.int .i64) i))], [(0, some (.row (.int .u8) l0 false))], 1, []⟩
noncomputable def spigotref05_Padding.L3 (n : Int) (i : Int) (l0 : (List Int)) : Option ((List Int) × Unit) := res spigotref05_Padding.c (atLoop spigotref05_Padding.b [1, 1, 1, 0, 1, 0]) (spigotref05_Padding.S3 n i l0)
noncomputable def spigotref05_Padding.S4 (n : Int) (i : Int) (l0 : (List Int)) : St := ⟨[(0, (.v (.int .i64) n)), (3, (.sl 0)), (4, (.v (.int .i64) i))], [(0, some (.row (.int .u8) l0 false))], 1, []⟩
noncomputable def spigotref05_Padding.L4 (n : Int) (i : Int) (l0 : (List Int)) : Option ((List Int) × Unit) := res spigotref05_Padding.c (atJoin spigotref05_Padding.b [1, 1, 1, 0, 1, 0, 0, 0, 1]) (spigotref05_Padding.S4 n i l0)
theorem spigotref05_Padding.spec : FnSpec Tryd.prog globs 54 spigotref05_Padding.Fn := spec_of (E := spigotref05_Padding.E) (envOk_at tabOk eqOk primsOk (.nil)) mixOk Tryd.func54 (by kernel_rfl)
theorem spigotref05_Padding.L1_eq (n : Int) (l0 : (List Int)) : spigotref05_Padding.L1 n l0 =
  bif (decide ((64 : Int) ≠ 0)) then
    bif ((Int.tmod (IntKind.wrap .i64 ((IntKind.wrap .i64 (n + ((List.length l0 : Int)))) + 8)) 64) != 0) then
      spigotref05_Padding.L2 n l0
    else
      spigotref05_Padding.L3 n 7 l0
  else none := res_eq (by kernel_rfl)
theorem spigotref05_Padding.L2_eq (n : Int) (l0 : (List Int)) : spigotref05_Padding.L2 n l0 =
  bif (lim ((List.length l0) + (List.length ([0] : List Int))) (.int .u8)) then
    spigotref05_Padding.L1 n (l0 ++ ([0] : List Int))
  else none := res_eq (by kernel_rfl)
theorem spigotref05_Padding.L3_eq (n : Int) (i : Int) (l0 : (List Int)) : spigotref05_Padding.L3 n i l0 =
  bif (decide ((i : Int) ≥ 0)) then
    spigotref05_Padding.L4 n i l0
  else
    some (l0, ()) := res_eq (by kernel_rfl)
theorem spigotref05_Padding.L4_eq (n : Int) (i : Int) (l0 : (List Int)) : spigotref05_Padding.L4 n i l0 =
  bif (decide ((0 : Int) ≤ (IntKind.wrap .i64 (8 * i)))) then
    bif (lim ((List.length l0) + (List.length ([(IntKind.wrap .u8 (Int.fdiv (IntKind.wrap .u64 (8 * (IntKind.wrap .u64 n))) (2 ^ min (Int.toNat (IntKind.wrap .i64 (8 * i))) (IntKind.bits .u64))))] : List Int))) (.int .u8)) then
      spigotref05_Padding.L3 n (IntKind.wrap .i64 (i - 1)) (l0 ++ ([(IntKind.wrap .u8 (Int.fdiv (IntKind.wrap .u64 (8 * (IntKind.wrap .u64 n))) (2 ^ min (Int.toNat (IntKind.wrap .i64 (8 * i))) (IntKind.bits .u64))))] : List Int))
    else none
  else none := res_eq (by kernel_rfl)
theorem spigotref05_Padding.F_eq (n : Int) : spigotref05_Padding.F n =
  spigotref05_Padding.L1 n ([128] : List Int) := by kernel_rfl
/-! ### spigot/spigotref05.Of (37) -/
noncomputable def spigotref05_Of.sg : Sig := ⟨[.val (.slice (.int .u8))], [((.arr 32 (.int .u8)), true)]⟩
noncomputable def spigotref05_Of.E : Env := ⟨tl, fun i => look i [(51, spigotref05_digest.Fn), (52, spigotref05_after.Fn), (53, spigotref05_First.Fn), (54, spigotref05_Padding.Fn)], [], eqs, globs, prims⟩
noncomputable def spigotref05_Of.c := cxOf spigotref05_Of.E spigotref05_Of.sg Tryd.f37
noncomputable def spigotref05_Of.b := body Tryd.f37
noncomputable def spigotref05_Of.Fn : Fun := fnOf spigotref05_Of.E spigotref05_Of.sg Tryd.f37
noncomputable def spigotref05_Of.F (b : (List Int)) : Option ((List Int) × Unit) := spigotref05_Of.Fn.F (b, ())
theorem spigotref05_Of.spec : FnSpec Tryd.prog globs 37 spigotref05_Of.Fn := spec_of (E := spigotref05_Of.E) (envOk_at tabOk eqOk primsOk (.cons spigotref05_digest.spec <| .cons spigotref05_after.spec <| .cons spigotref05_First.spec <| .cons spigotref05_Padding.spec <| .nil)) mixOk Tryd.func37 (by kernel_rfl)
theorem spigotref05_Of.F_eq (b : (List Int)) : spigotref05_Of.F b =
  spigotref05_First.F.bind fun r0 =>
  bif (lim ((List.length ([] : List Int)) + (List.length b)) (.int .u8)) then
    (spigotref05_Padding.F ((List.length b : Int))).bind fun r1 =>
    bif (lim ((List.length (([] : List Int) ++ b)) + (List.length r1.1)) (.int .u8)) then
      (spigotref05_after.F r0.1 ((([] : List Int) ++ b) ++ r1.1)).bind fun r2 =>
      (spigotref05_digest.F r2.1).bind fun r3 =>
      some (r3.1, ())
    else none
  else none := by kernel_rfl
/-! ### spigot/spigotref41.four (38) -/
noncomputable def spigotref41_four.sg : Sig := ⟨[.val (.int .u32)], [((.slice (.int .u8)), true)]⟩
noncomputable def spigotref41_four.E : Env := ⟨tl, fun i => look i [], [], eqs, globs, prims⟩
noncomputable def spigotref41_four.c := cxOf spigotref41_four.E spigotref41_four.sg Tryd.f38
noncomputable def spigotref41_four.b := body Tryd.f38
noncomputable def spigotref41_four.Fn : Fun := fnOf spigotref41_four.E spigotref41_four.sg Tryd.f38
noncomputable def spigotref41_four.F (n : Int) : Option ((List Int) × Unit) := spigotref41_four.Fn.F (n, ())
theorem spigotref41_four.spec : FnSpec Tryd.prog globs 38 spigotref41_four.Fn := spec_of (E := spigotref41_four.E) (envOk_at tabOk eqOk primsOk (.nil)) mixOk Tryd.func38 (by kernel_rfl)
theorem spigotref41_four.F_eq (n : Int) : spigotref41_four.F n =
  bif (decide ((0 : Int) ≤ 24)) then
    bif (decide ((0 : Int) ≤ 16)) then
      bif (decide ((0 : Int) ≤ 8)) then
        some (([(IntKind.wrap .u8 (Int.fdiv n (2 ^ min (Int.toNat 24) (IntKind.bits .u32)))), (IntKind.wrap .u8 (Int.fdiv n (2 ^ min (Int.toNat 16) (IntKind.bits .u32)))), (IntKind.wrap .u8 (Int.fdiv n (2 ^ min (Int.toNat 8) (IntKind.bits .u32)))), (IntKind.wrap .u8 n)] : List Int), ())
      else none
    else none
  else none := by kernel_rfl
/-! ### spigot/spigotref41.Score (17) -/
noncomputable def spigotref41_Score.sg : Sig := ⟨[.val (.int .u32), .val (.int .u32)], [((.arr 32 (.int .u8)), true)]⟩
noncomputable def spigotref41_Score.E : Env := ⟨tl, fun i => look i [(37, spigotref05_Of.Fn), (38, spigotref41_four.Fn)], [], eqs, globs, prims⟩
noncomputable def spigotref41_Score.c := cxOf spigotref41_Score.E spigotref41_Score.sg Tryd.f17
noncomputable def spigotref41_Score.b := body Tryd.f17
noncomputable def spigotref41_Score.Fn : Fun := fnOf spigotref41_Score.E spigotref41_Score.sg Tryd.f17
noncomputable def spigotref41_Score.F (host : Int) (tenant : Int) : Option ((List Int) × Unit) := spigotref41_Score.Fn.F (host, tenant, ())
theorem spigotref41_Score.spec : FnSpec Tryd.prog globs 17 spigotref41_Score.Fn := spec_of (E := spigotref41_Score.E) (envOk_at tabOk eqOk primsOk (.cons spigotref05_Of.spec <| .cons spigotref41_four.spec <| .nil)) mixOk Tryd.func17 (by kernel_rfl)
theorem spigotref41_Score.F_eq (host : Int) (tenant : Int) : spigotref41_Score.F host tenant =
  (spigotref41_four.F host).bind fun r0 =>
  bif (lim ((List.length ([114] : List Int)) + (List.length r0.1)) (.int .u8)) then
    (spigotref41_four.F tenant).bind fun r1 =>
    bif (lim ((List.length (([114] : List Int) ++ r0.1)) + (List.length r1.1)) (.int .u8)) then
      (spigotref05_Of.F ((([114] : List Int) ++ r0.1) ++ r1.1)).bind fun r2 =>
      some (r2.1, ())
    else none
  else none := by kernel_rfl
/-! ### spigot/spigotref41.Greater (21) -/
noncomputable def spigotref41_Greater.sg : Sig := ⟨[.val (.arr 32 (.int .u8)), .val (.arr 32 (.int .u8))], [(.bool, true)]⟩
noncomputable def spigotref41_Greater.E : Env := ⟨tl, fun i => look i [], [], eqs, globs, prims⟩
noncomputable def spigotref41_Greater.c := cxOf spigotref41_Greater.E spigotref41_Greater.sg Tryd.f21
noncomputable def spigotref41_Greater.b := body Tryd.f21
noncomputable def spigotref41_Greater.Fn : Fun := fnOf spigotref41_Greater.E spigotref41_Greater.sg Tryd.f21
noncomputable def spigotref41_Greater.F (a : (List Int)) (b : (List Int)) : Option (Bool × Unit) := spigotref41_Greater.Fn.F (a, b, ())
noncomputable def spigotref41_Greater.S1 (i : Int) (b0 : (List Int)) (b1 : (List Int)) : St := ⟨[(2, (.ptr 0 [])), (3, (.ptr 1 [])), (5, (.v (.int .i64) i))], [(0, some (.box (.v (.arr 32 (.int .u8)) b0))), (1, some (.box (.v (.arr 32 (.int .u8)) b1)))], 2, []⟩
noncomputable def spigotref41_Greater.L1 (i : Int) (b0 : (List Int)) (b1 : (List Int)) : Option (Bool × Unit) := res spigotref41_Greater.c (atLoop spigotref41_Greater.b [1, 0, 1, 0]) (spigotref41_Greater.S1 i b0 b1)
noncomputable def spigotref41_Greater.S2 (i : Int) (b0 : (List Int)) (b1 : (List Int)) : St := ⟨[(2, (.ptr 0 [])), (3, (.ptr 1 [])), (5, (.v (.int .i64) i))], [(0, some (.box (.v (.arr 32 (.int .u8)) b0))), (1, some (.box (.v (.arr 32 (.int .u8)) b1)))], 2, []⟩
noncomputable def spigotref41_Greater.L2 (i : Int) (b0 : (List Int)) (b1 : (List Int)) : Option (Bool × Unit) := res spigotref41_Greater.c (atJoin spigotref41_Greater.b [1, 0, 1, 0, 0, 0, 1]) (spigotref41_Greater.S2 i b0 b1)
noncomputable def spigotref41_Greater.S3 (i : Int) (b0 : (List Int)) (b1 : (List Int)) : St := ⟨[(2, (.ptr 0 [])), (3, (.ptr 1 [])), (5, (.v (.int .i64) i))], [(0, some (.box (.v (.arr 32 (.int .u8)) b0))), (1, some (.box (.v (.arr 32 (.int .u8)) b1)))], 2, []⟩
noncomputable def spigotref41_Greater.L3 (i : Int) (b0 : (List Int)) (b1 : (List Int)) : Option (Bool × Unit) := res spigotref41_Greater.c (atJoin spigotref41_Greater.b [1, 0, 1, 0, 0, 1, 0, 0, 1]) (spigotref41_Greater.S3 i b0 b1)
theorem spigotref41_Greater.spec : FnSpec Tryd.prog globs 21 spigotref41_Greater.Fn := spec_of (E := spigotref41_Greater.E) (envOk_at tabOk eqOk primsOk (.nil)) mixOk Tryd.func21 (by kernel_rfl)
theorem spigotref41_Greater.L1_eq (i : Int) (b0 : (List Int)) (b1 : (List Int)) : spigotref41_Greater.L1 i b0 b1 =
  bif (decide ((i : Int) < 32)) then
    spigotref41_Greater.L2 i b0 b1
  else
    some (false, ()) := res_eq (by kernel_rfl)
theorem spigotref41_Greater.L2_eq (i : Int) (b0 : (List Int)) (b1 : (List Int)) : spigotref41_Greater.L2 i b0 b1 =
  bif (decide ((0 : Int) ≤ i ∧ (i : Int) < 32)) then
    bif (decide ((0 : Int) ≤ i ∧ (i : Int) < 32)) then
      bif ((List.getD b0 (Int.toNat i) 0) != (List.getD b1 (Int.toNat i) 0)) then
        bif (decide ((0 : Int) ≤ i ∧ (i : Int) < 32)) then
          bif (decide ((0 : Int) ≤ i ∧ (i : Int) < 32)) then
            some ((decide (((List.getD b0 (Int.toNat i) 0) : Int) > (List.getD b1 (Int.toNat i) 0))), ())
          else none
        else none
      else
        spigotref41_Greater.L3 i b0 b1
    else none
  else none := res_eq (by kernel_rfl)
theorem spigotref41_Greater.L3_eq (i : Int) (b0 : (List Int)) (b1 : (List Int)) : spigotref41_Greater.L3 i b0 b1 =
  spigotref41_Greater.L1 (IntKind.wrap .i64 (i + 1)) b0 b1 := res_eq (by kernel_rfl)
theorem spigotref41_Greater.F_eq (a : (List Int)) (b : (List Int)) : spigotref41_Greater.F a b =
  spigotref41_Greater.L1 0 a b := by kernel_rfl
/-! ### spigot/spigotref41.rank (36) -/
noncomputable def spigotref41_rank.sg : Sig := ⟨[.val (.slice (.int .u32)), .val (.int .u32)], [((.slice (.int .u32)), true)]⟩
noncomputable def spigotref41_rank.E : Env := ⟨tl, fun i => look i [(17, spigotref41_Score.Fn), (21, spigotref41_Greater.Fn)], [], eqs, globs, prims⟩
noncomputable def spigotref41_rank.c := cxOf spigotref41_rank.E spigotref41_rank.sg Tryd.f36
noncomputable def spigotref41_rank.b := body Tryd.f36
noncomputable def spigotref41_rank.Fn : Fun := fnOf spigotref41_rank.E spigotref41_rank.sg Tryd.f36
noncomputable def spigotref41_rank.F (l : (List Int)) (tenant : Int) : Option ((List Int) × Unit) := spigotref41_rank.Fn.F (l, tenant, ())
noncomputable def spigotref41_rank.S1 (l : (List Int)) (tenant : Int) (i : Int) (l0 : (List Int)) (l1 : (List (List Int))) : St := ⟨[(0, (.v (.slice (.int .u32)) l)), (1, (.v (.int .u32) tenant)), (5, (.sl 0)), (6, (.sl 1)), (7, (.v (.int .i64) i))], [(0, some (.row (.int .u32) l0 false)), (1, some (.row (.arr 32 (.int .u8)) l1 false))], 2, []⟩
noncomputable def spigotref41_rank.L1 (l : (List Int)) (tenant : Int) (i : Int) (l0 : (List Int)) (l1 : (List (List Int))) : Option ((List Int) × Unit) := res spigotref41_rank.c (atLoop spigotref41_rank.b [1, 1, 1, 0, 1, 0]) (spigotref41_rank.S1 l tenant i l0 l1)
noncomputable def spigotref41_rank.S2 (l : (List Int)) (tenant : Int) (i : Int) (l0 : (List Int)) (l1 : (List (List Int))) : St := ⟨[(0, (.v (.slice (.int .u32)) l)), (1, (.v (.int .u32) tenant)), (5, (.sl 0)), (6, (.sl 1)), (7, (.v (.int .i64) i))], [(0, some (.row (.int .u32) l0 false)), (1, some (.row (.arr 32 (.int .u8)) l1 false))], 2, []⟩
noncomputable def spigotref41_rank.L2 (l : (List Int)) (tenant : Int) (i : Int) (l0 : (List Int)) (l1 : (List (List Int))) : Option ((List Int) × Unit) := res spigotref41_rank.c (atJoin spigotref41_rank.b [1, 1, 1, 0, 1, 0, 0, 0, 1]) (spigotref41_rank.S2 l tenant i l0 l1)
noncomputable def spigotref41_rank.S3 (l : (List Int)) (tenant : Int) (i : Int) (at_ : Int) (l0 : (List Int)) (l1 : (List (List Int))) (b2 : (List Int)) : St := ⟨[(0, (.v (.slice (.int .u32)) l)), (1, (.v (.int .u32) tenant)), (5, (.sl 0)), (6, (.sl 1)), (7, (.v (.int .i64) i)), (8, (.ptr 2 [])), (9, (.v (.int .i64) at_))], [(0, some (.row (.int .u32) l0 false)), (1, some (.row (.arr 32 (.int .u8)) l1 false)), (2, some (.box (.v (.arr 32 (.int .u8)) b2)))], 3, []⟩
noncomputable def spigotref41_rank.L3 (l : (List Int)) (tenant : Int) (i : Int) (at_ : Int) (l0 : (List Int)) (l1 : (List (List Int))) (b2 : (List Int)) : Option ((List Int) × Unit) := res spigotref41_rank.c (atLoop spigotref41_rank.b [1, 1, 1, 0, 1, 0, 0, 1, 0, 0, 1, 1, 0, 0]) (spigotref41_rank.S3 l tenant i at_ l0 l1 b2)
noncomputable def spigotref41_rank.S4 (l : (List Int)) (tenant : Int) (i : Int) (at_ : Int) (l0 : (List Int)) (l1 : (List (List Int))) (b2 : (List Int)) : St := ⟨[(0, (.v (.slice (.int .u32)) l)), (1, (.v (.int .u32) tenant)), (5, (.sl 0)), (6, (.sl 1)), (7, (.v (.int .i64) i)), (8, (.ptr 2 [])), (9, (.v (.int .i64) at_))], [(0, some (.row (.int .u32) l0 false)), (1, some (.row (.arr 32 (.int .u8)) l1 false)), (2, some (.box (.v (.arr 32 (.int .u8)) b2)))], 3, []⟩
noncomputable def spigotref41_rank.L4 (l : (List Int)) (tenant : Int) (i : Int) (at_ : Int) (l0 : (List Int)) (l1 : (List (List Int))) (b2 : (List Int)) : Option ((List Int) × Unit) := res spigotref41_rank.c (atJoin spigotref41_rank.b [1, 1, 1, 0, 1, 0, 0, 1, 0, 0, 1, 1, 0, 0, 0, 0, 1]) (spigotref41_rank.S4 l tenant i at_ l0 l1 b2)
theorem spigotref41_rank.spec : FnSpec Tryd.prog globs 36 spigotref41_rank.Fn := spec_of (E := spigotref41_rank.E) (envOk_at tabOk eqOk primsOk (.cons spigotref41_Score.spec <| .cons spigotref41_Greater.spec <| .nil)) mixOk Tryd.func36 (by kernel_rfl)
theorem spigotref41_rank.L1_eq (l : (List Int)) (tenant : Int) (i : Int) (l0 : (List Int)) (l1 : (List (List Int))) : spigotref41_rank.L1 l tenant i l0 l1 =
  bif (decide ((i : Int) < ((List.length l : Int)))) then
    spigotref41_rank.L2 l tenant i l0 l1
  else
    some (l0, ()) := res_eq (by kernel_rfl)
theorem spigotref41_rank.L2_eq (l : (List Int)) (tenant : Int) (i : Int) (l0 : (List Int)) (l1 : (List (List Int))) : spigotref41_rank.L2 l tenant i l0 l1 =
  bif (decide ((0 : Int) ≤ i ∧ (i : Int) < ((List.length l : Int)))) then
    (spigotref41_Score.F (List.getD l (Int.toNat i) 0) tenant).bind fun r0 =>
    spigotref41_rank.L3 l tenant i ((List.length l0 : Int)) l0 l1 r0.1
  else none := res_eq (by kernel_rfl)
theorem spigotref41_rank.L3_eq (l : (List Int)) (tenant : Int) (i : Int) (at_ : Int) (l0 : (List Int)) (l1 : (List (List Int))) (b2 : (List Int)) : spigotref41_rank.L3 l tenant i at_ l0 l1 b2 =
  bif (decide ((at_ : Int) > 0)) then
    bif (decide ((0 : Int) ≤ (IntKind.wrap .i64 (at_ - 1)) ∧ ((IntKind.wrap .i64 (at_ - 1)) : Int) < ((List.length l1 : Int)))) then
      (spigotref41_Greater.F b2 (List.getD l1 (Int.toNat (IntKind.wrap .i64 (at_ - 1))) (List.replicate 32 (0 : Int)))).bind fun r0 =>
      bif r0.1 then
        spigotref41_rank.L4 l tenant i at_ l0 l1 b2
      else
        bif (decide ((0 : Int) ≤ 0 ∧ (0 : Int) ≤ at_ ∧ (at_ : Int) ≤ ((List.length l0 : Int)))) then
          bif (lim ((List.length ([] : List Int)) + (List.length (List.take ((Int.toNat at_) - (Int.toNat 0)) (List.drop (Int.toNat 0) l0)))) (.int .u32)) then
            bif (decide ((0 : Int) ≤ i ∧ (i : Int) < ((List.length l : Int)))) then
              bif (lim ((List.length (([] : List Int) ++ (List.take ((Int.toNat at_) - (Int.toNat 0)) (List.drop (Int.toNat 0) l0)))) + (List.length ([(List.getD l (Int.toNat i) 0)] : List Int))) (.int .u32)) then
                bif (decide ((0 : Int) ≤ at_ ∧ (at_ : Int) ≤ ((List.length l0 : Int)) ∧ (((List.length l0 : Int)) : Int) ≤ ((List.length l0 : Int)))) then
                  bif (lim ((List.length ((([] : List Int) ++ (List.take ((Int.toNat at_) - (Int.toNat 0)) (List.drop (Int.toNat 0) l0))) ++ ([(List.getD l (Int.toNat i) 0)] : List Int))) + (List.length (List.take ((Int.toNat ((List.length l0 : Int))) - (Int.toNat at_)) (List.drop (Int.toNat at_) l0)))) (.int .u32)) then
                    bif (decide ((0 : Int) ≤ 0 ∧ (0 : Int) ≤ at_ ∧ (at_ : Int) ≤ ((List.length l1 : Int)))) then
                      bif (lim ((List.length ([] : List (List Int))) + (List.length (List.take ((Int.toNat at_) - (Int.toNat 0)) (List.drop (Int.toNat 0) l1)))) (.arr 32 (.int .u8))) then
                        bif (lim ((List.length (([] : List (List Int)) ++ (List.take ((Int.toNat at_) - (Int.toNat 0)) (List.drop (Int.toNat 0) l1)))) + (List.length ([b2] : List (List Int)))) (.arr 32 (.int .u8))) then
                          bif (decide ((0 : Int) ≤ at_ ∧ (at_ : Int) ≤ ((List.length l1 : Int)) ∧ (((List.length l1 : Int)) : Int) ≤ ((List.length l1 : Int)))) then
                            bif (lim ((List.length ((([] : List (List Int)) ++ (List.take ((Int.toNat at_) - (Int.toNat 0)) (List.drop (Int.toNat 0) l1))) ++ ([b2] : List (List Int)))) + (List.length (List.take ((Int.toNat ((List.length l1 : Int))) - (Int.toNat at_)) (List.drop (Int.toNat at_) l1)))) (.arr 32 (.int .u8))) then
                              spigotref41_rank.L1 l tenant (IntKind.wrap .i64 (i + 1)) (((([] : List Int) ++ (List.take ((Int.toNat at_) - (Int.toNat 0)) (List.drop (Int.toNat 0) l0))) ++ ([(List.getD l (Int.toNat i) 0)] : List Int)) ++ (List.take ((Int.toNat ((List.length l0 : Int))) - (Int.toNat at_)) (List.drop (Int.toNat at_) l0))) (((([] : List (List Int)) ++ (List.take ((Int.toNat at_) - (Int.toNat 0)) (List.drop (Int.toNat 0) l1))) ++ ([b2] : List (List Int))) ++ (List.take ((Int.toNat ((List.length l1 : Int))) - (Int.toNat at_)) (List.drop (Int.toNat at_) l1)))
                            else none
                          else none
                        else none
                      else none
                    else none
                  else none
                else none
              else none
            else none
          else none
        else none
    else none
  else
    bif (decide ((0 : Int) ≤ 0 ∧ (0 : Int) ≤ at_ ∧ (at_ : Int) ≤ ((List.length l0 : Int)))) then
      bif (lim ((List.length ([] : List Int)) + (List.length (List.take ((Int.toNat at_) - (Int.toNat 0)) (List.drop (Int.toNat 0) l0)))) (.int .u32)) then
        bif (decide ((0 : Int) ≤ i ∧ (i : Int) < ((List.length l : Int)))) then
          bif (lim ((List.length (([] : List Int) ++ (List.take ((Int.toNat at_) - (Int.toNat 0)) (List.drop (Int.toNat 0) l0)))) + (List.length ([(List.getD l (Int.toNat i) 0)] : List Int))) (.int .u32)) then
            bif (decide ((0 : Int) ≤ at_ ∧ (at_ : Int) ≤ ((List.length l0 : Int)) ∧ (((List.length l0 : Int)) : Int) ≤ ((List.length l0 : Int)))) then
              bif (lim ((List.length ((([] : List Int) ++ (List.take ((Int.toNat at_) - (Int.toNat 0)) (List.drop (Int.toNat 0) l0))) ++ ([(List.getD l (Int.toNat i) 0)] : List Int))) + (List.length (List.take ((Int.toNat ((List.length l0 : Int))) - (Int.toNat at_)) (List.drop (Int.toNat at_) l0)))) (.int .u32)) then
                bif (decide ((0 : Int) ≤ 0 ∧ (0 : Int) ≤ at_ ∧ (at_ : Int) ≤ ((List.length l1 : Int)))) then
                  bif (lim ((List.length ([] : List (List Int))) + (List.length (List.take ((Int.toNat at_) - (Int.toNat 0)) (List.drop (Int.toNat 0) l1)))) (.arr 32 (.int .u8))) then
                    bif (lim ((List.length (([] : List (List Int)) ++ (List.take ((Int.toNat at_) - (Int.toNat 0)) (List.drop (Int.toNat 0) l1)))) + (List.length ([b2] : List (List Int)))) (.arr 32 (.int .u8))) then
                      bif (decide ((0 : Int) ≤ at_ ∧ (at_ : Int) ≤ ((List.length l1 : Int)) ∧ (((List.length l1 : Int)) : Int) ≤ ((List.length l1 : Int)))) then
                        bif (lim ((List.length ((([] : List (List Int)) ++ (List.take ((Int.toNat at_) - (Int.toNat 0)) (List.drop (Int.toNat 0) l1))) ++ ([b2] : List (List Int)))) + (List.length (List.take ((Int.toNat ((List.length l1 : Int))) - (Int.toNat at_)) (List.drop (Int.toNat at_) l1)))) (.arr 32 (.int .u8))) then
                          spigotref41_rank.L1 l tenant (IntKind.wrap .i64 (i + 1)) (((([] : List Int) ++ (List.take ((Int.toNat at_) - (Int.toNat 0)) (List.drop (Int.toNat 0) l0))) ++ ([(List.getD l (Int.toNat i) 0)] : List Int)) ++ (List.take ((Int.toNat ((List.length l0 : Int))) - (Int.toNat at_)) (List.drop (Int.toNat at_) l0))) (((([] : List (List Int)) ++ (List.take ((Int.toNat at_) - (Int.toNat 0)) (List.drop (Int.toNat 0) l1))) ++ ([b2] : List (List Int))) ++ (List.take ((Int.toNat ((List.length l1 : Int))) - (Int.toNat at_)) (List.drop (Int.toNat at_) l1)))
                        else none
                      else none
                    else none
                  else none
                else none
              else none
            else none
          else none
        else none
      else none
    else none := res_eq (by kernel_rfl)
theorem spigotref41_rank.L4_eq (l : (List Int)) (tenant : Int) (i : Int) (at_ : Int) (l0 : (List Int)) (l1 : (List (List Int))) (b2 : (List Int)) : spigotref41_rank.L4 l tenant i at_ l0 l1 b2 =
  spigotref41_rank.L3 l tenant i (IntKind.wrap .i64 (at_ - 1)) l0 l1 b2 := res_eq (by kernel_rfl)
theorem spigotref41_rank.F_eq (l : (List Int)) (tenant : Int) : spigotref41_rank.F l tenant =
  spigotref41_rank.L1 l tenant 0 ([] : List Int) ([] : List (List Int)) := by kernel_rfl
/-! ### spigot/spigotref41.Rank (12) -/
noncomputable def spigotref41_Rank.sg : Sig := ⟨[.val (.slice (.int .u32)), .val (.int .u32)], [((.slice (.int .u32)), true), ((.int .i64), true)]⟩
noncomputable def spigotref41_Rank.E : Env := ⟨tl, fun i => look i [(16, spigotref41_Check.Fn), (36, spigotref41_rank.Fn)], [], eqs, globs, prims⟩
noncomputable def spigotref41_Rank.c := cxOf spigotref41_Rank.E spigotref41_Rank.sg Tryd.f12
noncomputable def spigotref41_Rank.b := body Tryd.f12
noncomputable def spigotref41_Rank.Fn : Fun := fnOf spigotref41_Rank.E spigotref41_Rank.sg Tryd.f12
noncomputable def spigotref41_Rank.F (l : (List Int)) (tenant : Int) : Option ((List Int) × Int × Unit) := spigotref41_Rank.Fn.F (l, tenant, ())
noncomputable def spigotref41_Rank.S1 (l : (List Int)) (tenant : Int) : St := ⟨[(0, (.v (.slice (.int .u32)) l)), (1, (.v (.int .u32) tenant))], [], 0, []⟩
noncomputable def spigotref41_Rank.L1 (l : (List Int)) (tenant : Int) : Option ((List Int) × Int × Unit) := res spigotref41_Rank.c (atJoin spigotref41_Rank.b [1, 0, 1, 1]) (spigotref41_Rank.S1 l tenant)
theorem spigotref41_Rank.spec : FnSpec Tryd.prog globs 12 spigotref41_Rank.Fn := spec_of (E := spigotref41_Rank.E) (envOk_at tabOk eqOk primsOk (.cons spigotref41_Check.spec <| .cons spigotref41_rank.spec <| .nil)) mixOk Tryd.func12 (by kernel_rfl)
theorem spigotref41_Rank.L1_eq (l : (List Int)) (tenant : Int) : spigotref41_Rank.L1 l tenant =
  (spigotref41_rank.F l tenant).bind fun r0 =>
  some (r0.1, 0, ()) := res_eq (by kernel_rfl)
theorem spigotref41_Rank.F_eq (l : (List Int)) (tenant : Int) : spigotref41_Rank.F l tenant =
  (spigotref41_Check.F l).bind fun r0 =>
  bif (r0.1 != 0) then
    some (([] : List Int), r0.1, ())
  else
    spigotref41_Rank.L1 l tenant := by kernel_rfl
/-! ### spigot/ring.Owner (13) -/
noncomputable def ring_Owner.sg : Sig := ⟨[.val (.slice (.int .u32)), .val (.int .u32)], [((.int .u32), true), ((.int .i64), true)]⟩
noncomputable def ring_Owner.E : Env := ⟨tl, fun i => look i [(11, ring_Rank.Fn)], [], eqs, globs, prims⟩
noncomputable def ring_Owner.c := cxOf ring_Owner.E ring_Owner.sg Tryd.f13
noncomputable def ring_Owner.b := body Tryd.f13
noncomputable def ring_Owner.Fn : Fun := fnOf ring_Owner.E ring_Owner.sg Tryd.f13
noncomputable def ring_Owner.F (l : (List Int)) (tenant : Int) : Option (Int × Int × Unit) := ring_Owner.Fn.F (l, tenant, ())
noncomputable def ring_Owner.S1 (l0 : (List Int)) : St := ⟨[(6, (.sl 0))], [(0, some (.row (.int .u32) l0 false))], 1, []⟩
noncomputable def ring_Owner.L1 (l0 : (List Int)) : Option (Int × Int × Unit) := res ring_Owner.c (atJoin ring_Owner.b [1, 1, 0, 1]) (ring_Owner.S1 l0)
noncomputable def ring_Owner.S2 (l0 : (List Int)) : St := ⟨[(6, (.sl 0))], [(0, some (.row (.int .u32) l0 false))], 1, []⟩
noncomputable def ring_Owner.L2 (l0 : (List Int)) : Option (Int × Int × Unit) := res ring_Owner.c (atJoin ring_Owner.b [1, 1, 1, 0, 1]) (ring_Owner.S2 l0)
theorem ring_Owner.spec : FnSpec Tryd.prog globs 13 ring_Owner.Fn := spec_of (E := ring_Owner.E) (envOk_at tabOk eqOk primsOk (.cons ring_Rank.spec <| .nil)) mixOk Tryd.func13 (by kernel_rfl)
theorem ring_Owner.L1_eq (l0 : (List Int)) : ring_Owner.L1 l0 =
  bif (((List.length l0 : Int)) == 0) then
    some (0, 6, ())
  else
    ring_Owner.L2 l0 := res_eq (by kernel_rfl)
theorem ring_Owner.L2_eq (l0 : (List Int)) : ring_Owner.L2 l0 =
  bif (decide ((0 : Int) ≤ 0 ∧ (0 : Int) < ((List.length l0 : Int)))) then
    some ((List.getD l0 (Int.toNat 0) 0), 0, ())
  else none := res_eq (by kernel_rfl)
theorem ring_Owner.F_eq (l : (List Int)) (tenant : Int) : ring_Owner.F l tenant =
  (ring_Rank.F l tenant).bind fun r0 =>
  bif (r0.2.1 != 0) then
    some (0, r0.2.1, ())
  else
    ring_Owner.L1 r0.1 := by kernel_rfl
/-! ### spigot/spigotref41.Owner (14) -/
noncomputable def spigotref41_Owner.sg : Sig := ⟨[.val (.slice (.int .u32)), .val (.int .u32)], [((.int .u32), true), ((.int .i64), true)]⟩
noncomputable def spigotref41_Owner.E : Env := ⟨tl, fun i => look i [(16, spigotref41_Check.Fn), (36, spigotref41_rank.Fn)], [], eqs, globs, prims⟩
noncomputable def spigotref41_Owner.c := cxOf spigotref41_Owner.E spigotref41_Owner.sg Tryd.f14
noncomputable def spigotref41_Owner.b := body Tryd.f14
noncomputable def spigotref41_Owner.Fn : Fun := fnOf spigotref41_Owner.E spigotref41_Owner.sg Tryd.f14
noncomputable def spigotref41_Owner.F (l : (List Int)) (tenant : Int) : Option (Int × Int × Unit) := spigotref41_Owner.Fn.F (l, tenant, ())
noncomputable def spigotref41_Owner.S1 (l : (List Int)) (tenant : Int) : St := ⟨[(0, (.v (.slice (.int .u32)) l)), (1, (.v (.int .u32) tenant))], [], 0, []⟩
noncomputable def spigotref41_Owner.L1 (l : (List Int)) (tenant : Int) : Option (Int × Int × Unit) := res spigotref41_Owner.c (atJoin spigotref41_Owner.b [1, 0, 1, 1]) (spigotref41_Owner.S1 l tenant)
noncomputable def spigotref41_Owner.S2 (l : (List Int)) (tenant : Int) : St := ⟨[(0, (.v (.slice (.int .u32)) l)), (1, (.v (.int .u32) tenant))], [], 0, []⟩
noncomputable def spigotref41_Owner.L2 (l : (List Int)) (tenant : Int) : Option (Int × Int × Unit) := res spigotref41_Owner.c (atJoin spigotref41_Owner.b [1, 1, 0, 1]) (spigotref41_Owner.S2 l tenant)
theorem spigotref41_Owner.spec : FnSpec Tryd.prog globs 14 spigotref41_Owner.Fn := spec_of (E := spigotref41_Owner.E) (envOk_at tabOk eqOk primsOk (.cons spigotref41_Check.spec <| .cons spigotref41_rank.spec <| .nil)) mixOk Tryd.func14 (by kernel_rfl)
theorem spigotref41_Owner.L1_eq (l : (List Int)) (tenant : Int) : spigotref41_Owner.L1 l tenant =
  bif (((List.length l : Int)) == 0) then
    some (0, 6, ())
  else
    spigotref41_Owner.L2 l tenant := res_eq (by kernel_rfl)
theorem spigotref41_Owner.L2_eq (l : (List Int)) (tenant : Int) : spigotref41_Owner.L2 l tenant =
  (spigotref41_rank.F l tenant).bind fun r0 =>
  bif (decide ((0 : Int) ≤ 0 ∧ (0 : Int) < ((List.length r0.1 : Int)))) then
    some ((List.getD r0.1 (Int.toNat 0) 0), 0, ())
  else none := res_eq (by kernel_rfl)
theorem spigotref41_Owner.F_eq (l : (List Int)) (tenant : Int) : spigotref41_Owner.F l tenant =
  (spigotref41_Check.F l).bind fun r0 =>
  bif (r0.1 != 0) then
    some (0, r0.1, ())
  else
    spigotref41_Owner.L1 l tenant := by kernel_rfl
/-! ### spigot/spigotref41.Same (18) -/
noncomputable def spigotref41_Same.sg : Sig := ⟨[.val (.slice (.int .u32)), .val (.slice (.int .u32))], [(.bool, true)]⟩
noncomputable def spigotref41_Same.E : Env := ⟨tl, fun i => look i [], [], eqs, globs, prims⟩
noncomputable def spigotref41_Same.c := cxOf spigotref41_Same.E spigotref41_Same.sg Tryd.f18
noncomputable def spigotref41_Same.b := body Tryd.f18
noncomputable def spigotref41_Same.Fn : Fun := fnOf spigotref41_Same.E spigotref41_Same.sg Tryd.f18
noncomputable def spigotref41_Same.F (a : (List Int)) (b : (List Int)) : Option (Bool × Unit) := spigotref41_Same.Fn.F (a, b, ())
noncomputable def spigotref41_Same.S1 (a : (List Int)) (b : (List Int)) : St := ⟨[(0, (.v (.slice (.int .u32)) a)), (1, (.v (.slice (.int .u32)) b))], [], 0, []⟩
noncomputable def spigotref41_Same.L1 (a : (List Int)) (b : (List Int)) : Option (Bool × Unit) := res spigotref41_Same.c (atJoin spigotref41_Same.b [1, 0, 1]) (spigotref41_Same.S1 a b)
noncomputable def spigotref41_Same.S2 (a : (List Int)) (b : (List Int)) (i : Int) : St := ⟨[(0, (.v (.slice (.int .u32)) a)), (1, (.v (.slice (.int .u32)) b)), (5, (.v (.int .i64) i))], [], 0, []⟩
noncomputable def spigotref41_Same.L2 (a : (List Int)) (b : (List Int)) (i : Int) : Option (Bool × Unit) := res spigotref41_Same.c (atLoop spigotref41_Same.b [1, 1, 0, 1, 0]) (spigotref41_Same.S2 a b i)
noncomputable def spigotref41_Same.S3 (a : (List Int)) (b : (List Int)) (i : Int) : St := ⟨[(0, (.v (.slice (.int .u32)) a)), (1, (.v (.slice (.int .u32)) b)), (5, (.v (.int .i64) i))], [], 0, []⟩
noncomputable def spigotref41_Same.L3 (a : (List Int)) (b : (List Int)) (i : Int) : Option (Bool × Unit) := res spigotref41_Same.c (atJoin spigotref41_Same.b [1, 1, 0, 1, 0, 0, 0, 1]) (spigotref41_Same.S3 a b i)
noncomputable def spigotref41_Same.S4 (a : (List Int)) (b : (List Int)) (i : Int) : St := ⟨[(0, (.v (.slice (.int .u32)) a)), (1, (.v (.slice (.int .u32)) b)), (5, (.v (.int .i64) i))], [], 0, []⟩
noncomputable def spigotref41_Same.L4 (a : (List Int)) (b : (List Int)) (i : Int) : Option (Bool × Unit) := res spigotref41_Same.c (atJoin spigotref41_Same.b [1, 1, 0, 1, 0, 0, 1, 0, 0, 1]) (spigotref41_Same.S4 a b i)
theorem spigotref41_Same.spec : FnSpec Tryd.prog globs 18 spigotref41_Same.Fn := spec_of (E := spigotref41_Same.E) (envOk_at tabOk eqOk primsOk (.nil)) mixOk Tryd.func18 (by kernel_rfl)
theorem spigotref41_Same.L1_eq (a : (List Int)) (b : (List Int)) : spigotref41_Same.L1 a b =
  spigotref41_Same.L2 a b 0 := res_eq (by kernel_rfl)
theorem spigotref41_Same.L2_eq (a : (List Int)) (b : (List Int)) (i : Int) : spigotref41_Same.L2 a b i =
  bif (decide ((i : Int) < ((List.length a : Int)))) then
    spigotref41_Same.L3 a b i
  else
    some (true, ()) := res_eq (by kernel_rfl)
theorem spigotref41_Same.L3_eq (a : (List Int)) (b : (List Int)) (i : Int) : spigotref41_Same.L3 a b i =
  bif (decide ((0 : Int) ≤ i ∧ (i : Int) < ((List.length a : Int)))) then
    bif (decide ((0 : Int) ≤ i ∧ (i : Int) < ((List.length b : Int)))) then
      bif ((List.getD a (Int.toNat i) 0) != (List.getD b (Int.toNat i) 0)) then
        some (false, ())
      else
        spigotref41_Same.L4 a b i
    else none
  else none := res_eq (by kernel_rfl)
theorem spigotref41_Same.L4_eq (a : (List Int)) (b : (List Int)) (i : Int) : spigotref41_Same.L4 a b i =
  spigotref41_Same.L2 a b (IntKind.wrap .i64 (i + 1)) := res_eq (by kernel_rfl)
theorem spigotref41_Same.F_eq (a : (List Int)) (b : (List Int)) : spigotref41_Same.F a b =
  bif (((List.length a : Int)) != ((List.length b : Int))) then
    some (false, ())
  else
    spigotref41_Same.L1 a b := by kernel_rfl
/-! ### spigot/spigotlaw41.RingRanks (3) -/
noncomputable def spigotlaw41_RingRanks.sg : Sig := ⟨[.val (.slice (.int .u32)), .val (.int .u32), .val (.int .u32)], [(.bool, true)]⟩
noncomputable def spigotlaw41_RingRanks.E : Env := ⟨tl, fun i => look i [(9, spigotref41_Great.Fn), (10, ring_Score.Fn), (11, ring_Rank.Fn), (12, spigotref41_Rank.Fn), (13, ring_Owner.Fn), (14, spigotref41_Owner.Fn), (15, ring_Check.Fn), (16, spigotref41_Check.Fn), (17, spigotref41_Score.Fn), (18, spigotref41_Same.Fn)], [], eqs, globs, prims⟩
noncomputable def spigotlaw41_RingRanks.c := cxOf spigotlaw41_RingRanks.E spigotlaw41_RingRanks.sg Tryd.f3
noncomputable def spigotlaw41_RingRanks.b := body Tryd.f3
noncomputable def spigotlaw41_RingRanks.Fn : Fun := fnOf spigotlaw41_RingRanks.E spigotlaw41_RingRanks.sg Tryd.f3
noncomputable def spigotlaw41_RingRanks.F (l : (List Int)) (tenant : Int) (host : Int) : Option (Bool × Unit) := spigotlaw41_RingRanks.Fn.F (l, tenant, host, ())
noncomputable def spigotlaw41_RingRanks.S1 (l : (List Int)) (tenant : Int) (host : Int) : St := ⟨[(0, (.v (.slice (.int .u32)) l)), (1, (.v (.int .u32) tenant)), (2, (.v (.int .u32) host))], [], 0, []⟩
noncomputable def spigotlaw41_RingRanks.L1 (l : (List Int)) (tenant : Int) (host : Int) : Option (Bool × Unit) := res spigotlaw41_RingRanks.c (atJoin spigotlaw41_RingRanks.b [1, 0, 1]) (spigotlaw41_RingRanks.S1 l tenant host)
theorem spigotlaw41_RingRanks.spec : FnSpec Tryd.prog globs 3 spigotlaw41_RingRanks.Fn := spec_of (E := spigotlaw41_RingRanks.E) (envOk_at tabOk eqOk primsOk (.cons spigotref41_Great.spec <| .cons ring_Score.spec <| .cons ring_Rank.spec <| .cons spigotref41_Rank.spec <| .cons ring_Owner.spec <| .cons spigotref41_Owner.spec <| .cons ring_Check.spec <| .cons spigotref41_Check.spec <| .cons spigotref41_Score.spec <| .cons spigotref41_Same.spec <| .nil)) mixOk Tryd.func3 (by kernel_rfl)
theorem spigotlaw41_RingRanks.L1_eq (l : (List Int)) (tenant : Int) (host : Int) : spigotlaw41_RingRanks.L1 l tenant host =
  bif (lim ((List.length ([] : List Int)) + (List.length l)) (.int .u32)) then
    (ring_Score.F host tenant).bind fun r0 =>
    (ring_Rank.F l tenant).bind fun r1 =>
    (spigotref41_Rank.F l tenant).bind fun r2 =>
    (ring_Owner.F l tenant).bind fun r3 =>
    (spigotref41_Owner.F l tenant).bind fun r4 =>
    (ring_Check.F l).bind fun r5 =>
    (spigotref41_Check.F l).bind fun r6 =>
    bif (r5.1 == r6.1) then
      bif (r0.2.1 == 0) then
        (spigotref41_Score.F host tenant).bind fun r7 =>
        bif (Ty.beq (.arr 32 (.int .u8)) r0.1 r7.1) then
          (spigotref41_Same.F r1.1 r2.1).bind fun r8 =>
          bif r8.1 then
            bif (r1.2.1 == r2.2.1) then
              bif (r3.1 == r4.1) then
                bif (r3.2.1 == r4.2.1) then
                  (spigotref41_Same.F l (([] : List Int) ++ l)).bind fun r9 =>
                  some (r9.1, ())
                else
                  some (false, ())
              else
                some (false, ())
            else
              some (false, ())
          else
            some (false, ())
        else
          some (false, ())
      else
        some (false, ())
    else
      some (false, ())
  else none := res_eq (by kernel_rfl)
theorem spigotlaw41_RingRanks.F_eq (l : (List Int)) (tenant : Int) (host : Int) : spigotlaw41_RingRanks.F l tenant host =
  (spigotref41_Great.F l ([] : List Int)).bind fun r0 =>
  bif r0.1 then
    some (true, ())
  else
    spigotlaw41_RingRanks.L1 l tenant host := by kernel_rfl
/-! ### spigot/ring.routed (42) -/
noncomputable def ring_routed.sg : Sig := ⟨[.val (.slice (.int .u32)), .val (.slice (.int .u32))], [((.int .i64), true)]⟩
noncomputable def ring_routed.E : Env := ⟨tl, fun i => look i [], [], eqs, globs, prims⟩
noncomputable def ring_routed.c := cxOf ring_routed.E ring_routed.sg Tryd.f42
noncomputable def ring_routed.b := body Tryd.f42
noncomputable def ring_routed.Fn : Fun := fnOf ring_routed.E ring_routed.sg Tryd.f42
noncomputable def ring_routed.F (l : (List Int)) (tenants : (List Int)) : Option (Int × Unit) := ring_routed.Fn.F (l, tenants, ())
noncomputable def ring_routed.S1 (l : (List Int)) (tenants : (List Int)) : St := ⟨[(0, (.v (.slice (.int .u32)) l)), (1, (.v (.slice (.int .u32)) tenants))], [], 0, []⟩
noncomputable def ring_routed.L1 (l : (List Int)) (tenants : (List Int)) : Option (Int × Unit) := res ring_routed.c (atJoin ring_routed.b [1, 0, 1]) (ring_routed.S1 l tenants)
noncomputable def ring_routed.S2 : St := ⟨[], [], 0, []⟩
noncomputable def ring_routed.L2 : Option (Int × Unit) := res ring_routed.c (atJoin ring_routed.b [1, 1, 0, 1]) (ring_routed.S2)
theorem ring_routed.spec : FnSpec Tryd.prog globs 42 ring_routed.Fn := spec_of (E := ring_routed.E) (envOk_at tabOk eqOk primsOk (.nil)) mixOk Tryd.func42 (by kernel_rfl)
theorem ring_routed.L1_eq (l : (List Int)) (tenants : (List Int)) : ring_routed.L1 l tenants =
  bif (decide ((((List.length tenants : Int)) : Int) > 0)) then
    bif (((List.length l : Int)) == 0) then
      some (6, ())
    else
      ring_routed.L2
  else
    ring_routed.L2 := res_eq (by kernel_rfl)
theorem ring_routed.L2_eq : ring_routed.L2 =
  some (0, ()) := res_eq (by kernel_rfl)
theorem ring_routed.F_eq (l : (List Int)) (tenants : (List Int)) : ring_routed.F l tenants =
  bif (decide ((((List.length tenants : Int)) : Int) > 100)) then
    some (4, ())
  else
    ring_routed.L1 l tenants := by kernel_rfl
/-! ### slices.Index[[]uint32,uint32] (43) -/
noncomputable def slices_Index.sg : Sig := ⟨[.val (.slice (.int .u32)), .val (.int .u32)], [((.int .i64), true)]⟩
noncomputable def slices_Index.E : Env := ⟨tl, fun i => look i [], [], eqs, globs, prims⟩
noncomputable def slices_Index.c := cxOf slices_Index.E slices_Index.sg Tryd.f43
noncomputable def slices_Index.b := body Tryd.f43
noncomputable def slices_Index.Fn : Fun := fnOf slices_Index.E slices_Index.sg Tryd.f43
noncomputable def slices_Index.F (s : (List Int)) (v : Int) : Option (Int × Unit) := slices_Index.Fn.F (s, v, ())
noncomputable def slices_Index.S1 (s : (List Int)) (v : Int) (t7_ : Int) (t8_ : Int) : St := ⟨[(0, (.v (.slice (.int .u32)) s)), (1, (.v (.int .u32) v)), (7, (.v (.int .i64) t7_)), (8, (.v (.int .i64) t8_))], [], 0, []⟩
noncomputable def slices_Index.L1 (s : (List Int)) (v : Int) (t7_ : Int) (t8_ : Int) : Option (Int × Unit) := res slices_Index.c (atLoop slices_Index.b [1, 0, 1, 0]) (slices_Index.S1 s v t7_ t8_)
noncomputable def slices_Index.S2 (s : (List Int)) (v : Int) (t7_ : Int) (t8_ : Int) : St := ⟨[(0, (.v (.slice (.int .u32)) s)), (1, (.v (.int .u32) v)), (7, (.v (.int .i64) t7_)), (8, (.v (.int .i64) t8_))], [], 0, []⟩
noncomputable def slices_Index.L2 (s : (List Int)) (v : Int) (t7_ : Int) (t8_ : Int) : Option (Int × Unit) := res slices_Index.c (atJoin slices_Index.b [1, 0, 1, 0, 0, 1, 0]) (slices_Index.S2 s v t7_ t8_)
noncomputable def slices_Index.S3 (s : (List Int)) (v : Int) (t7_ : Int) (t8_ : Int) : St := ⟨[(0, (.v (.slice (.int .u32)) s)), (1, (.v (.int .u32) v)), (7, (.v (.int .i64) t7_)), (8, (.v (.int .i64) t8_))], [], 0, []⟩
noncomputable def slices_Index.L3 (s : (List Int)) (v : Int) (t7_ : Int) (t8_ : Int) : Option (Int × Unit) := res slices_Index.c (atJoin slices_Index.b [1, 0, 1, 0, 0, 1, 1, 0, 0, 1, 1]) (slices_Index.S3 s v t7_ t8_)
theorem slices_Index.spec : FnSpec Tryd.prog globs 43 slices_Index.Fn := spec_of (E := slices_Index.E) (envOk_at tabOk eqOk primsOk (.nil)) mixOk Tryd.func43 (by kernel_rfl)
theorem slices_Index.L1_eq (s : (List Int)) (v : Int) (t7_ : Int) (t8_ : Int) : slices_Index.L1 s v t7_ t8_ =
  bif (decide ((t8_ : Int) < t7_)) then
    slices_Index.L2 s v t7_ t8_
  else
    some ((-1), ()) := res_eq (by kernel_rfl)
theorem slices_Index.L2_eq (s : (List Int)) (v : Int) (t7_ : Int) (t8_ : Int) : slices_Index.L2 s v t7_ t8_ =
  bif (decide ((0 : Int) ≤ t8_ ∧ (t8_ : Int) < ((List.length s : Int)))) then
    bif (v == (List.getD s (Int.toNat t8_) 0)) then
      some (t8_, ())
    else
      slices_Index.L3 s v t7_ t8_
  else none := res_eq (by kernel_rfl)
theorem slices_Index.L3_eq (s : (List Int)) (v : Int) (t7_ : Int) (t8_ : Int) : slices_Index.L3 s v t7_ t8_ =
  slices_Index.L1 s v t7_ (IntKind.wrap .i64 (t8_ + 1)) := res_eq (by kernel_rfl)
theorem slices_Index.F_eq (s : (List Int)) (v : Int) : slices_Index.F s v =
  slices_Index.L1 s v ((List.length s : Int)) 0 := by kernel_rfl
/-! ### spigot/ring.Loads (24) -/
noncomputable def ring_Loads.sg : Sig := ⟨[.val (.slice (.int .u32)), .val (.slice (.int .u32))], [((.slice (.int .i64)), true), ((.int .i64), true)]⟩
noncomputable def ring_Loads.E : Env := ⟨tl, fun i => look i [(13, ring_Owner.Fn), (15, ring_Check.Fn), (42, ring_routed.Fn), (43, slices_Index.Fn)], [], eqs, globs, prims⟩
noncomputable def ring_Loads.c := cxOf ring_Loads.E ring_Loads.sg Tryd.f24
noncomputable def ring_Loads.b := body Tryd.f24
noncomputable def ring_Loads.Fn : Fun := fnOf ring_Loads.E ring_Loads.sg Tryd.f24
noncomputable def ring_Loads.F (l : (List Int)) (tenants : (List Int)) : Option ((List Int) × Int × Unit) := ring_Loads.Fn.F (l, tenants, ())
noncomputable def ring_Loads.S1 (l : (List Int)) (tenants : (List Int)) : St := ⟨[(0, (.v (.slice (.int .u32)) l)), (1, (.v (.slice (.int .u32)) tenants))], [], 0, []⟩
noncomputable def ring_Loads.L1 (l : (List Int)) (tenants : (List Int)) : Option ((List Int) × Int × Unit) := res ring_Loads.c (atJoin ring_Loads.b [1, 0, 1, 1]) (ring_Loads.S1 l tenants)
noncomputable def ring_Loads.S2 (l : (List Int)) (tenants : (List Int)) : St := ⟨[(0, (.v (.slice (.int .u32)) l)), (1, (.v (.slice (.int .u32)) tenants))], [], 0, []⟩
noncomputable def ring_Loads.L2 (l : (List Int)) (tenants : (List Int)) : Option ((List Int) × Int × Unit) := res ring_Loads.c (atJoin ring_Loads.b [1, 1, 0, 1, 1]) (ring_Loads.S2 l tenants)
noncomputable def ring_Loads.S3 (l : (List Int)) (t27_ : (List Int)) (t28_ : Int) (t29_ : Int) (l0 : (List Int)) : St := ⟨[(0, (.v (.slice (.int .u32)) l)), (8, (.sl 0)), (27, (.v (.slice (.int .u32)) t27_)), (28, (.v (.int .i64) t28_)), (29, (.v (.int .i64) t29_))], [(0, some (.row (.int .i64) l0 false))], 1, []⟩
noncomputable def ring_Loads.L3 (l : (List Int)) (t27_ : (List Int)) (t28_ : Int) (t29_ : Int) (l0 : (List Int)) : Option ((List Int) × Int × Unit) := res ring_Loads.c (atLoop ring_Loads.b [1, 1, 1, 1, 0, 1, 0]) (ring_Loads.S3 l t27_ t28_ t29_ l0)
noncomputable def ring_Loads.S4 (l : (List Int)) (t27_ : (List Int)) (t28_ : Int) (t29_ : Int) (l0 : (List Int)) : St := ⟨[(0, (.v (.slice (.int .u32)) l)), (8, (.sl 0)), (27, (.v (.slice (.int .u32)) t27_)), (28, (.v (.int .i64) t28_)), (29, (.v (.int .i64) t29_))], [(0, some (.row (.int .i64) l0 false))], 1, []⟩
noncomputable def ring_Loads.L4 (l : (List Int)) (t27_ : (List Int)) (t28_ : Int) (t29_ : Int) (l0 : (List Int)) : Option ((List Int) × Int × Unit) := res ring_Loads.c (atJoin ring_Loads.b [1, 1, 1, 1, 0, 1, 0, 0, 1, 0]) (ring_Loads.S4 l t27_ t28_ t29_ l0)
noncomputable def ring_Loads.S5 (l : (List Int)) (h : Int) (t27_ : (List Int)) (t28_ : Int) (t29_ : Int) (l0 : (List Int)) : St := ⟨[(0, (.v (.slice (.int .u32)) l)), (8, (.sl 0)), (11, (.v (.int .u32) h)), (27, (.v (.slice (.int .u32)) t27_)), (28, (.v (.int .i64) t28_)), (29, (.v (.int .i64) t29_))], [(0, some (.row (.int .i64) l0 false))], 1, []⟩
noncomputable def ring_Loads.L5 (l : (List Int)) (h : Int) (t27_ : (List Int)) (t28_ : Int) (t29_ : Int) (l0 : (List Int)) : Option ((List Int) × Int × Unit) := res ring_Loads.c (atJoin ring_Loads.b [1, 1, 1, 1, 0, 1, 0, 0, 1, 1, 0, 0, 1, 1, 0, 1]) (ring_Loads.S5 l h t27_ t28_ t29_ l0)
theorem ring_Loads.spec : FnSpec Tryd.prog globs 24 ring_Loads.Fn := spec_of (E := ring_Loads.E) (envOk_at tabOk eqOk primsOk (.cons ring_Owner.spec <| .cons ring_Check.spec <| .cons ring_routed.spec <| .cons slices_Index.spec <| .nil)) mixOk Tryd.func24 (by kernel_rfl)
theorem ring_Loads.L1_eq (l : (List Int)) (tenants : (List Int)) : ring_Loads.L1 l tenants =
  (ring_routed.F l tenants).bind fun r0 =>
  bif (r0.1 != 0) then
    some (([] : List Int), r0.1, ())
  else
    ring_Loads.L2 l tenants := res_eq (by kernel_rfl)
theorem ring_Loads.L2_eq (l : (List Int)) (tenants : (List Int)) : ring_Loads.L2 l tenants =
  bif (decide ((0 : Int) ≤ ((List.length l : Int)) ∧ (((List.length l : Int)) : Int) ≤ ((List.length l : Int))) && (lim (Int.toNat ((List.length l : Int))) (.int .i64))) then
    ring_Loads.L3 l tenants ((List.length tenants : Int)) 0 (List.replicate (Int.toNat ((List.length l : Int))) (0 : Int))
  else none := res_eq (by kernel_rfl)
theorem ring_Loads.L3_eq (l : (List Int)) (t27_ : (List Int)) (t28_ : Int) (t29_ : Int) (l0 : (List Int)) : ring_Loads.L3 l t27_ t28_ t29_ l0 =
  bif (decide ((t29_ : Int) < t28_)) then
    ring_Loads.L4 l t27_ t28_ t29_ l0
  else
    some (l0, 0, ()) := res_eq (by kernel_rfl)
theorem ring_Loads.L4_eq (l : (List Int)) (t27_ : (List Int)) (t28_ : Int) (t29_ : Int) (l0 : (List Int)) : ring_Loads.L4 l t27_ t28_ t29_ l0 =
  bif (decide ((0 : Int) ≤ t29_ ∧ (t29_ : Int) < ((List.length t27_ : Int)))) then
    (ring_Owner.F l (List.getD t27_ (Int.toNat t29_) 0)).bind fun r0 =>
    bif (r0.2.1 != 0) then
      some (([] : List Int), r0.2.1, ())
    else
      ring_Loads.L5 l r0.1 t27_ t28_ t29_ l0
  else none := res_eq (by kernel_rfl)
theorem ring_Loads.L5_eq (l : (List Int)) (h : Int) (t27_ : (List Int)) (t28_ : Int) (t29_ : Int) (l0 : (List Int)) : ring_Loads.L5 l h t27_ t28_ t29_ l0 =
  (slices_Index.F l h).bind fun r0 =>
  bif (decide ((0 : Int) ≤ r0.1 ∧ (r0.1 : Int) < ((List.length l0 : Int)))) then
    bif (decide ((0 : Int) ≤ r0.1 ∧ (r0.1 : Int) < ((List.length l0 : Int)))) then
      ring_Loads.L3 l t27_ t28_ (IntKind.wrap .i64 (t29_ + 1)) (List.set l0 (Int.toNat r0.1) (IntKind.wrap .i64 ((List.getD l0 (Int.toNat r0.1) 0) + 1)))
    else none
  else none := res_eq (by kernel_rfl)
theorem ring_Loads.F_eq (l : (List Int)) (tenants : (List Int)) : ring_Loads.F l tenants =
  (ring_Check.F l).bind fun r0 =>
  bif (r0.1 != 0) then
    some (([] : List Int), r0.1, ())
  else
    ring_Loads.L1 l tenants := by kernel_rfl
/-! ### cmp.isNaN[uint32] (66) -/
noncomputable def cmp_isNaN.sg : Sig := ⟨[.val (.int .u32)], [(.bool, true)]⟩
noncomputable def cmp_isNaN.E : Env := ⟨tl, fun i => look i [], [], eqs, globs, prims⟩
noncomputable def cmp_isNaN.c := cxOf cmp_isNaN.E cmp_isNaN.sg Tryd.f66
noncomputable def cmp_isNaN.b := body Tryd.f66
noncomputable def cmp_isNaN.Fn : Fun := fnOf cmp_isNaN.E cmp_isNaN.sg Tryd.f66
noncomputable def cmp_isNaN.F (x : Int) : Option (Bool × Unit) := cmp_isNaN.Fn.F (x, ())
theorem cmp_isNaN.spec : FnSpec Tryd.prog globs 66 cmp_isNaN.Fn := spec_of (E := cmp_isNaN.E) (envOk_at tabOk eqOk primsOk (.nil)) mixOk Tryd.func66 (by kernel_rfl)
theorem cmp_isNaN.F_eq (x : Int) : cmp_isNaN.F x =
  some ((x != x), ()) := by kernel_rfl
/-! ### cmp.Less[uint32] (55) -/
noncomputable def cmp_Less.sg : Sig := ⟨[.val (.int .u32), .val (.int .u32)], [(.bool, true)]⟩
noncomputable def cmp_Less.E : Env := ⟨tl, fun i => look i [(66, cmp_isNaN.Fn)], [], eqs, globs, prims⟩
noncomputable def cmp_Less.c := cxOf cmp_Less.E cmp_Less.sg Tryd.f55
noncomputable def cmp_Less.b := body Tryd.f55
noncomputable def cmp_Less.Fn : Fun := fnOf cmp_Less.E cmp_Less.sg Tryd.f55
noncomputable def cmp_Less.F (x : Int) (y : Int) : Option (Bool × Unit) := cmp_Less.Fn.F (x, y, ())
theorem cmp_Less.spec : FnSpec Tryd.prog globs 55 cmp_Less.Fn := spec_of (E := cmp_Less.E) (envOk_at tabOk eqOk primsOk (.cons cmp_isNaN.spec <| .nil)) mixOk Tryd.func55 (by kernel_rfl)
theorem cmp_Less.F_eq (x : Int) (y : Int) : cmp_Less.F x y =
  (cmp_isNaN.F x).bind fun r0 =>
  bif r0.1 then
    (cmp_isNaN.F y).bind fun r1 =>
    bif (!r1.1) then
      some (true, ())
    else
      some ((decide ((x : Int) < y)), ())
  else
    some ((decide ((x : Int) < y)), ()) := by kernel_rfl
/-! ### slices.isNaN[uint32] (56) -/
noncomputable def slices_isNaN.sg : Sig := ⟨[.val (.int .u32)], [(.bool, true)]⟩
noncomputable def slices_isNaN.E : Env := ⟨tl, fun i => look i [], [], eqs, globs, prims⟩
noncomputable def slices_isNaN.c := cxOf slices_isNaN.E slices_isNaN.sg Tryd.f56
noncomputable def slices_isNaN.b := body Tryd.f56
noncomputable def slices_isNaN.Fn : Fun := fnOf slices_isNaN.E slices_isNaN.sg Tryd.f56
noncomputable def slices_isNaN.F (x : Int) : Option (Bool × Unit) := slices_isNaN.Fn.F (x, ())
theorem slices_isNaN.spec : FnSpec Tryd.prog globs 56 slices_isNaN.Fn := spec_of (E := slices_isNaN.E) (envOk_at tabOk eqOk primsOk (.nil)) mixOk Tryd.func56 (by kernel_rfl)
theorem slices_isNaN.F_eq (x : Int) : slices_isNaN.F x =
  some ((x != x), ()) := by kernel_rfl
/-! ### slices.BinarySearch[[]uint32,uint32] (39) -/
noncomputable def slices_BinarySearch.sg : Sig := ⟨[.val (.slice (.int .u32)), .val (.int .u32)], [((.int .i64), true), (.bool, true)]⟩
noncomputable def slices_BinarySearch.E : Env := ⟨tl, fun i => look i [(55, cmp_Less.Fn), (56, slices_isNaN.Fn)], [], eqs, globs, prims⟩
noncomputable def slices_BinarySearch.c := cxOf slices_BinarySearch.E slices_BinarySearch.sg Tryd.f39
noncomputable def slices_BinarySearch.b := body Tryd.f39
noncomputable def slices_BinarySearch.Fn : Fun := fnOf slices_BinarySearch.E slices_BinarySearch.sg Tryd.f39
noncomputable def slices_BinarySearch.F (x : (List Int)) (target : Int) : Option (Int × Bool × Unit) := slices_BinarySearch.Fn.F (x, target, ())
noncomputable def slices_BinarySearch.S1 (x : (List Int)) (target : Int) (n : Int) (i : Int) (j : Int) : St := ⟨[(0, (.v (.slice (.int .u32)) x)), (1, (.v (.int .u32) target)), (6, (.v (.int .i64) n)), (7, (.v (.int .i64) i)), (8, (.v (.int .i64) j))], [], 0, []⟩
noncomputable def slices_BinarySearch.L1 (x : (List Int)) (target : Int) (n : Int) (i : Int) (j : Int) : Option (Int × Bool × Unit) := res slices_BinarySearch.c (atLoop slices_BinarySearch.b [1, 1, 1, 0, 0]) (slices_BinarySearch.S1 x target n i j)
noncomputable def slices_BinarySearch.S2 (x : (List Int)) (target : Int) (n : Int) (i : Int) (j : Int) : St := ⟨[(0, (.v (.slice (.int .u32)) x)), (1, (.v (.int .u32) target)), (6, (.v (.int .i64) n)), (7, (.v (.int .i64) i)), (8, (.v (.int .i64) j))], [], 0, []⟩
noncomputable def slices_BinarySearch.L2 (x : (List Int)) (target : Int) (n : Int) (i : Int) (j : Int) : Option (Int × Bool × Unit) := res slices_BinarySearch.c (atJoin slices_BinarySearch.b [1, 1, 1, 0, 0, 0, 0, 1]) (slices_BinarySearch.S2 x target n i j)
noncomputable def slices_BinarySearch.S3 (x : (List Int)) (target : Int) (n : Int) (i : Int) (j : Int) : St := ⟨[(0, (.v (.slice (.int .u32)) x)), (1, (.v (.int .u32) target)), (6, (.v (.int .i64) n)), (7, (.v (.int .i64) i)), (8, (.v (.int .i64) j))], [], 0, []⟩
noncomputable def slices_BinarySearch.L3 (x : (List Int)) (target : Int) (n : Int) (i : Int) (j : Int) : Option (Int × Bool × Unit) := res slices_BinarySearch.c (atJoin slices_BinarySearch.b [1, 1, 1, 0, 0, 0, 1, 0, 1, 1]) (slices_BinarySearch.S3 x target n i j)
theorem slices_BinarySearch.spec : FnSpec Tryd.prog globs 39 slices_BinarySearch.Fn := spec_of (E := slices_BinarySearch.E) (envOk_at tabOk eqOk primsOk (.cons cmp_Less.spec <| .cons slices_isNaN.spec <| .nil)) mixOk Tryd.func39 (by kernel_rfl)
theorem slices_BinarySearch.L1_eq (x : (List Int)) (target : Int) (n : Int) (i : Int) (j : Int) : slices_BinarySearch.L1 x target n i j =
  bif (decide ((i : Int) < j)) then
    slices_BinarySearch.L2 x target n i j
  else
    bif (decide ((i : Int) < n)) then
      bif (decide ((0 : Int) ≤ i ∧ (i : Int) < ((List.length x : Int)))) then
        bif ((List.getD x (Int.toNat i) 0) == target) then
          some (i, true, ())
        else
          bif (decide ((0 : Int) ≤ i ∧ (i : Int) < ((List.length x : Int)))) then
            (slices_isNaN.F (List.getD x (Int.toNat i) 0)).bind fun r0 =>
            bif r0.1 then
              (slices_isNaN.F target).bind fun r1 =>
              some (i, r1.1, ())
            else
              some (i, false, ())
          else none
      else none
    else
      some (i, false, ()) := res_eq (by kernel_rfl)
theorem slices_BinarySearch.L2_eq (x : (List Int)) (target : Int) (n : Int) (i : Int) (j : Int) : slices_BinarySearch.L2 x target n i j =
  bif (decide ((0 : Int) ≤ 1)) then
    bif (decide ((0 : Int) ≤ (IntKind.wrap .i64 (Int.fdiv (IntKind.wrap .u64 (IntKind.wrap .i64 (i + j))) (2 ^ min (Int.toNat 1) (IntKind.bits .u64)))) ∧ ((IntKind.wrap .i64 (Int.fdiv (IntKind.wrap .u64 (IntKind.wrap .i64 (i + j))) (2 ^ min (Int.toNat 1) (IntKind.bits .u64)))) : Int) < ((List.length x : Int)))) then
      (cmp_Less.F (List.getD x (Int.toNat (IntKind.wrap .i64 (Int.fdiv (IntKind.wrap .u64 (IntKind.wrap .i64 (i + j))) (2 ^ min (Int.toNat 1) (IntKind.bits .u64))))) 0) target).bind fun r0 =>
      bif r0.1 then
        slices_BinarySearch.L3 x target n (IntKind.wrap .i64 ((IntKind.wrap .i64 (Int.fdiv (IntKind.wrap .u64 (IntKind.wrap .i64 (i + j))) (2 ^ min (Int.toNat 1) (IntKind.bits .u64)))) + 1)) j
      else
        slices_BinarySearch.L3 x target n i (IntKind.wrap .i64 (Int.fdiv (IntKind.wrap .u64 (IntKind.wrap .i64 (i + j))) (2 ^ min (Int.toNat 1) (IntKind.bits .u64))))
    else none
  else none := res_eq (by kernel_rfl)
theorem slices_BinarySearch.L3_eq (x : (List Int)) (target : Int) (n : Int) (i : Int) (j : Int) : slices_BinarySearch.L3 x target n i j =
  slices_BinarySearch.L1 x target n i j := res_eq (by kernel_rfl)
theorem slices_BinarySearch.F_eq (x : (List Int)) (target : Int) : slices_BinarySearch.F x target =
  slices_BinarySearch.L1 x target ((List.length x : Int)) 0 ((List.length x : Int)) := by kernel_rfl
/-! ### spigot/ring.Add (26) -/
noncomputable def ring_Add.sg : Sig := ⟨[.val (.slice (.int .u32)), .val (.int .u32)], [((.slice (.int .u32)), true), ((.int .i64), true)]⟩
noncomputable def ring_Add.E : Env := ⟨tl, fun i => look i [(15, ring_Check.Fn), (39, slices_BinarySearch.Fn)], [], eqs, globs, prims⟩
noncomputable def ring_Add.c := cxOf ring_Add.E ring_Add.sg Tryd.f26
noncomputable def ring_Add.b := body Tryd.f26
noncomputable def ring_Add.Fn : Fun := fnOf ring_Add.E ring_Add.sg Tryd.f26
noncomputable def ring_Add.F (l : (List Int)) (host : Int) : Option ((List Int) × Int × Unit) := ring_Add.Fn.F (l, host, ())
noncomputable def ring_Add.S1 (l : (List Int)) (host : Int) : St := ⟨[(0, (.v (.slice (.int .u32)) l)), (1, (.v (.int .u32) host))], [], 0, []⟩
noncomputable def ring_Add.L1 (l : (List Int)) (host : Int) : Option ((List Int) × Int × Unit) := res ring_Add.c (atJoin ring_Add.b [1, 0, 1, 1]) (ring_Add.S1 l host)
noncomputable def ring_Add.S2 (l : (List Int)) (host : Int) (at_ : Int) : St := ⟨[(0, (.v (.slice (.int .u32)) l)), (1, (.v (.int .u32) host)), (7, (.v (.int .i64) at_))], [], 0, []⟩
noncomputable def ring_Add.L2 (l : (List Int)) (host : Int) (at_ : Int) : Option ((List Int) × Int × Unit) := res ring_Add.c (atJoin ring_Add.b [1, 1, 1, 0, 1]) (ring_Add.S2 l host at_)
noncomputable def ring_Add.S3 (l : (List Int)) (host : Int) (at_ : Int) : St := ⟨[(0, (.v (.slice (.int .u32)) l)), (1, (.v (.int .u32) host)), (7, (.v (.int .i64) at_))], [], 0, []⟩
noncomputable def ring_Add.L3 (l : (List Int)) (host : Int) (at_ : Int) : Option ((List Int) × Int × Unit) := res ring_Add.c (atJoin ring_Add.b [1, 1, 1, 1, 0, 1]) (ring_Add.S3 l host at_)
theorem ring_Add.spec : FnSpec Tryd.prog globs 26 ring_Add.Fn := spec_of (E := ring_Add.E) (envOk_at tabOk eqOk primsOk (.cons ring_Check.spec <| .cons slices_BinarySearch.spec <| .nil)) mixOk Tryd.func26 (by kernel_rfl)
theorem ring_Add.L1_eq (l : (List Int)) (host : Int) : ring_Add.L1 l host =
  (slices_BinarySearch.F l host).bind fun r0 =>
  bif r0.2.1 then
    some (([] : List Int), 14, ())
  else
    ring_Add.L2 l host r0.1 := res_eq (by kernel_rfl)
theorem ring_Add.L2_eq (l : (List Int)) (host : Int) (at_ : Int) : ring_Add.L2 l host at_ =
  bif (decide ((((List.length l : Int)) : Int) ≥ 12)) then
    some (([] : List Int), 4, ())
  else
    ring_Add.L3 l host at_ := res_eq (by kernel_rfl)
theorem ring_Add.L3_eq (l : (List Int)) (host : Int) (at_ : Int) : ring_Add.L3 l host at_ =
  bif (lim (List.length l) (.int .u32)) then
    bif (decide ((0 : Int) ≤ at_ ∧ (at_ : Int) ≤ (List.length l : Int)) && lim (List.length l + List.length ([host] : List Int)) (.int .u32)) then
      some ((((List.take (Int.toNat at_) l) ++ ([host] : List Int)) ++ (List.drop (Int.toNat at_) l)), 0, ())
    else none
  else none := res_eq (by kernel_rfl)
theorem ring_Add.F_eq (l : (List Int)) (host : Int) : ring_Add.F l host =
  (ring_Check.F l).bind fun r0 =>
  bif (r0.1 != 0) then
    some (([] : List Int), r0.1, ())
  else
    ring_Add.L1 l host := by kernel_rfl
/-! ### spigot/spigotref41.SameInts (31) -/
noncomputable def spigotref41_SameInts.sg : Sig := ⟨[.val (.slice (.int .i64)), .val (.slice (.int .i64))], [(.bool, true)]⟩
noncomputable def spigotref41_SameInts.E : Env := ⟨tl, fun i => look i [], [], eqs, globs, prims⟩
noncomputable def spigotref41_SameInts.c := cxOf spigotref41_SameInts.E spigotref41_SameInts.sg Tryd.f31
noncomputable def spigotref41_SameInts.b := body Tryd.f31
noncomputable def spigotref41_SameInts.Fn : Fun := fnOf spigotref41_SameInts.E spigotref41_SameInts.sg Tryd.f31
noncomputable def spigotref41_SameInts.F (a : (List Int)) (b : (List Int)) : Option (Bool × Unit) := spigotref41_SameInts.Fn.F (a, b, ())
noncomputable def spigotref41_SameInts.S1 (a : (List Int)) (b : (List Int)) : St := ⟨[(0, (.v (.slice (.int .i64)) a)), (1, (.v (.slice (.int .i64)) b))], [], 0, []⟩
noncomputable def spigotref41_SameInts.L1 (a : (List Int)) (b : (List Int)) : Option (Bool × Unit) := res spigotref41_SameInts.c (atJoin spigotref41_SameInts.b [1, 0, 1]) (spigotref41_SameInts.S1 a b)
noncomputable def spigotref41_SameInts.S2 (a : (List Int)) (b : (List Int)) (i : Int) : St := ⟨[(0, (.v (.slice (.int .i64)) a)), (1, (.v (.slice (.int .i64)) b)), (5, (.v (.int .i64) i))], [], 0, []⟩
noncomputable def spigotref41_SameInts.L2 (a : (List Int)) (b : (List Int)) (i : Int) : Option (Bool × Unit) := res spigotref41_SameInts.c (atLoop spigotref41_SameInts.b [1, 1, 0, 1, 0]) (spigotref41_SameInts.S2 a b i)
noncomputable def spigotref41_SameInts.S3 (a : (List Int)) (b : (List Int)) (i : Int) : St := ⟨[(0, (.v (.slice (.int .i64)) a)), (1, (.v (.slice (.int .i64)) b)), (5, (.v (.int .i64) i))], [], 0, []⟩
noncomputable def spigotref41_SameInts.L3 (a : (List Int)) (b : (List Int)) (i : Int) : Option (Bool × Unit) := res spigotref41_SameInts.c (atJoin spigotref41_SameInts.b [1, 1, 0, 1, 0, 0, 0, 1]) (spigotref41_SameInts.S3 a b i)
noncomputable def spigotref41_SameInts.S4 (a : (List Int)) (b : (List Int)) (i : Int) : St := ⟨[(0, (.v (.slice (.int .i64)) a)), (1, (.v (.slice (.int .i64)) b)), (5, (.v (.int .i64) i))], [], 0, []⟩
noncomputable def spigotref41_SameInts.L4 (a : (List Int)) (b : (List Int)) (i : Int) : Option (Bool × Unit) := res spigotref41_SameInts.c (atJoin spigotref41_SameInts.b [1, 1, 0, 1, 0, 0, 1, 0, 0, 1]) (spigotref41_SameInts.S4 a b i)
theorem spigotref41_SameInts.spec : FnSpec Tryd.prog globs 31 spigotref41_SameInts.Fn := spec_of (E := spigotref41_SameInts.E) (envOk_at tabOk eqOk primsOk (.nil)) mixOk Tryd.func31 (by kernel_rfl)
theorem spigotref41_SameInts.L1_eq (a : (List Int)) (b : (List Int)) : spigotref41_SameInts.L1 a b =
  spigotref41_SameInts.L2 a b 0 := res_eq (by kernel_rfl)
theorem spigotref41_SameInts.L2_eq (a : (List Int)) (b : (List Int)) (i : Int) : spigotref41_SameInts.L2 a b i =
  bif (decide ((i : Int) < ((List.length a : Int)))) then
    spigotref41_SameInts.L3 a b i
  else
    some (true, ()) := res_eq (by kernel_rfl)
theorem spigotref41_SameInts.L3_eq (a : (List Int)) (b : (List Int)) (i : Int) : spigotref41_SameInts.L3 a b i =
  bif (decide ((0 : Int) ≤ i ∧ (i : Int) < ((List.length a : Int)))) then
    bif (decide ((0 : Int) ≤ i ∧ (i : Int) < ((List.length b : Int)))) then
      bif ((List.getD a (Int.toNat i) 0) != (List.getD b (Int.toNat i) 0)) then
        some (false, ())
      else
        spigotref41_SameInts.L4 a b i
    else none
  else none := res_eq (by kernel_rfl)
theorem spigotref41_SameInts.L4_eq (a : (List Int)) (b : (List Int)) (i : Int) : spigotref41_SameInts.L4 a b i =
  spigotref41_SameInts.L2 a b (IntKind.wrap .i64 (i + 1)) := res_eq (by kernel_rfl)
theorem spigotref41_SameInts.F_eq (a : (List Int)) (b : (List Int)) : spigotref41_SameInts.F a b =
  bif (((List.length a : Int)) != ((List.length b : Int))) then
    some (false, ())
  else
    spigotref41_SameInts.L1 a b := by kernel_rfl
/-! ### spigot/spigotlaw41.alive (19) -/
noncomputable def spigotlaw41_alive.sg : Sig := ⟨[], [(.bool, true)]⟩
noncomputable def spigotlaw41_alive.E : Env := ⟨tl, fun i => look i [(11, ring_Rank.Fn), (13, ring_Owner.Fn), (15, ring_Check.Fn), (24, ring_Loads.Fn), (26, ring_Add.Fn), (31, spigotref41_SameInts.Fn)], [], eqs, globs, prims⟩
noncomputable def spigotlaw41_alive.c := cxOf spigotlaw41_alive.E spigotlaw41_alive.sg Tryd.f19
noncomputable def spigotlaw41_alive.b := body Tryd.f19
noncomputable def spigotlaw41_alive.Fn : Fun := fnOf spigotlaw41_alive.E spigotlaw41_alive.sg Tryd.f19
noncomputable def spigotlaw41_alive.F : Option (Bool × Unit) := spigotlaw41_alive.Fn.F ()
theorem spigotlaw41_alive.spec : FnSpec Tryd.prog globs 19 spigotlaw41_alive.Fn := spec_of (E := spigotlaw41_alive.E) (envOk_at tabOk eqOk primsOk (.cons ring_Rank.spec <| .cons ring_Owner.spec <| .cons ring_Check.spec <| .cons ring_Loads.spec <| .cons ring_Add.spec <| .cons spigotref41_SameInts.spec <| .nil)) mixOk Tryd.func19 (by kernel_rfl)
theorem spigotlaw41_alive.F_eq : spigotlaw41_alive.F =
  (ring_Owner.F ([7] : List Int) 5).bind fun r0 =>
  (ring_Owner.F ([] : List Int) 5).bind fun r1 =>
  (ring_Rank.F ([] : List Int) 5).bind fun r2 =>
  (ring_Add.F ([] : List Int) 3).bind fun r3 =>
  (ring_Loads.F r3.1 ([1, 2, 1] : List Int)).bind fun r4 =>
  bif (r0.2.1 == 0) then
    bif (r0.1 == 7) then
      bif (r1.2.1 == 6) then
        bif (r2.2.1 == 0) then
          bif (((List.length r2.1 : Int)) == 0) then
            bif (r3.2.1 == 0) then
              bif (r4.2.1 == 0) then
                (spigotref41_SameInts.F r4.1 ([3] : List Int)).bind fun r5 =>
                bif r5.1 then
                  (ring_Check.F ([2, 1] : List Int)).bind fun r6 =>
                  bif (r6.1 == 8) then
                    (ring_Check.F ([1, 1] : List Int)).bind fun r7 =>
                    some ((r7.1 == 8), ())
                  else
                    some (false, ())
                else
                  some (false, ())
              else
                some (false, ())
            else
              some (false, ())
          else
            some (false, ())
        else
          some (false, ())
      else
        some (false, ())
    else
      some (false, ())
  else
    some (false, ()) := by kernel_rfl
/-! ### spigot/spigotref41.In (20) -/
noncomputable def spigotref41_In.sg : Sig := ⟨[.val (.slice (.int .u32)), .val (.int .u32)], [(.bool, true)]⟩
noncomputable def spigotref41_In.E : Env := ⟨tl, fun i => look i [], [], eqs, globs, prims⟩
noncomputable def spigotref41_In.c := cxOf spigotref41_In.E spigotref41_In.sg Tryd.f20
noncomputable def spigotref41_In.b := body Tryd.f20
noncomputable def spigotref41_In.Fn : Fun := fnOf spigotref41_In.E spigotref41_In.sg Tryd.f20
noncomputable def spigotref41_In.F (l : (List Int)) (n : Int) : Option (Bool × Unit) := spigotref41_In.Fn.F (l, n, ())
noncomputable def spigotref41_In.S1 (l : (List Int)) (n : Int) (i : Int) : St := ⟨[(0, (.v (.slice (.int .u32)) l)), (1, (.v (.int .u32) n)), (5, (.v (.int .i64) i))], [], 0, []⟩
noncomputable def spigotref41_In.L1 (l : (List Int)) (n : Int) (i : Int) : Option (Bool × Unit) := res spigotref41_In.c (atLoop spigotref41_In.b [1, 0, 1, 0]) (spigotref41_In.S1 l n i)
noncomputable def spigotref41_In.S2 (l : (List Int)) (n : Int) (i : Int) : St := ⟨[(0, (.v (.slice (.int .u32)) l)), (1, (.v (.int .u32) n)), (5, (.v (.int .i64) i))], [], 0, []⟩
noncomputable def spigotref41_In.L2 (l : (List Int)) (n : Int) (i : Int) : Option (Bool × Unit) := res spigotref41_In.c (atJoin spigotref41_In.b [1, 0, 1, 0, 0, 0, 1]) (spigotref41_In.S2 l n i)
noncomputable def spigotref41_In.S3 (l : (List Int)) (n : Int) (i : Int) : St := ⟨[(0, (.v (.slice (.int .u32)) l)), (1, (.v (.int .u32) n)), (5, (.v (.int .i64) i))], [], 0, []⟩
noncomputable def spigotref41_In.L3 (l : (List Int)) (n : Int) (i : Int) : Option (Bool × Unit) := res spigotref41_In.c (atJoin spigotref41_In.b [1, 0, 1, 0, 0, 1, 0, 0, 1]) (spigotref41_In.S3 l n i)
theorem spigotref41_In.spec : FnSpec Tryd.prog globs 20 spigotref41_In.Fn := spec_of (E := spigotref41_In.E) (envOk_at tabOk eqOk primsOk (.nil)) mixOk Tryd.func20 (by kernel_rfl)
theorem spigotref41_In.L1_eq (l : (List Int)) (n : Int) (i : Int) : spigotref41_In.L1 l n i =
  bif (decide ((i : Int) < ((List.length l : Int)))) then
    spigotref41_In.L2 l n i
  else
    some (false, ()) := res_eq (by kernel_rfl)
theorem spigotref41_In.L2_eq (l : (List Int)) (n : Int) (i : Int) : spigotref41_In.L2 l n i =
  bif (decide ((0 : Int) ≤ i ∧ (i : Int) < ((List.length l : Int)))) then
    bif ((List.getD l (Int.toNat i) 0) == n) then
      some (true, ())
    else
      spigotref41_In.L3 l n i
  else none := res_eq (by kernel_rfl)
theorem spigotref41_In.L3_eq (l : (List Int)) (n : Int) (i : Int) : spigotref41_In.L3 l n i =
  spigotref41_In.L1 l n (IntKind.wrap .i64 (i + 1)) := res_eq (by kernel_rfl)
theorem spigotref41_In.F_eq (l : (List Int)) (n : Int) : spigotref41_In.F l n =
  spigotref41_In.L1 l n 0 := by kernel_rfl
/-! ### spigot/ring.Drop (22) -/
noncomputable def ring_Drop.sg : Sig := ⟨[.val (.slice (.int .u32)), .val (.int .u32)], [((.slice (.int .u32)), true), ((.int .i64), true)]⟩
noncomputable def ring_Drop.E : Env := ⟨tl, fun i => look i [(15, ring_Check.Fn), (39, slices_BinarySearch.Fn)], [], eqs, globs, prims⟩
noncomputable def ring_Drop.c := cxOf ring_Drop.E ring_Drop.sg Tryd.f22
noncomputable def ring_Drop.b := body Tryd.f22
noncomputable def ring_Drop.Fn : Fun := fnOf ring_Drop.E ring_Drop.sg Tryd.f22
noncomputable def ring_Drop.F (l : (List Int)) (host : Int) : Option ((List Int) × Int × Unit) := ring_Drop.Fn.F (l, host, ())
noncomputable def ring_Drop.S1 (l : (List Int)) (host : Int) : St := ⟨[(0, (.v (.slice (.int .u32)) l)), (1, (.v (.int .u32) host))], [], 0, []⟩
noncomputable def ring_Drop.L1 (l : (List Int)) (host : Int) : Option ((List Int) × Int × Unit) := res ring_Drop.c (atJoin ring_Drop.b [1, 0, 1, 1]) (ring_Drop.S1 l host)
noncomputable def ring_Drop.S2 (l : (List Int)) (at_ : Int) : St := ⟨[(0, (.v (.slice (.int .u32)) l)), (7, (.v (.int .i64) at_))], [], 0, []⟩
noncomputable def ring_Drop.L2 (l : (List Int)) (at_ : Int) : Option ((List Int) × Int × Unit) := res ring_Drop.c (atJoin ring_Drop.b [1, 1, 1, 0, 1]) (ring_Drop.S2 l at_)
theorem ring_Drop.spec : FnSpec Tryd.prog globs 22 ring_Drop.Fn := spec_of (E := ring_Drop.E) (envOk_at tabOk eqOk primsOk (.cons ring_Check.spec <| .cons slices_BinarySearch.spec <| .nil)) mixOk Tryd.func22 (by kernel_rfl)
theorem ring_Drop.L1_eq (l : (List Int)) (host : Int) : ring_Drop.L1 l host =
  (slices_BinarySearch.F l host).bind fun r0 =>
  bif (!r0.2.1) then
    some (([] : List Int), 6, ())
  else
    ring_Drop.L2 l r0.1 := res_eq (by kernel_rfl)
theorem ring_Drop.L2_eq (l : (List Int)) (at_ : Int) : ring_Drop.L2 l at_ =
  bif (lim (List.length l) (.int .u32)) then
    bif (decide ((0 : Int) ≤ at_ ∧ (at_ : Int) ≤ (IntKind.wrap .i64 (at_ + 1)) ∧ ((IntKind.wrap .i64 (at_ + 1)) : Int) ≤ (List.length l : Int))) then
      some (((List.take (Int.toNat at_) l) ++ (List.drop (Int.toNat (IntKind.wrap .i64 (at_ + 1))) l)), 0, ())
    else none
  else none := res_eq (by kernel_rfl)
theorem ring_Drop.F_eq (l : (List Int)) (host : Int) : ring_Drop.F l host =
  (ring_Check.F l).bind fun r0 =>
  bif (r0.1 != 0) then
    some (([] : List Int), r0.1, ())
  else
    ring_Drop.L1 l host := by kernel_rfl
/-! ### spigot/spigotref41.Without (23) -/
noncomputable def spigotref41_Without.sg : Sig := ⟨[.val (.slice (.int .u32)), .val (.int .u32)], [((.slice (.int .u32)), true)]⟩
noncomputable def spigotref41_Without.E : Env := ⟨tl, fun i => look i [], [], eqs, globs, prims⟩
noncomputable def spigotref41_Without.c := cxOf spigotref41_Without.E spigotref41_Without.sg Tryd.f23
noncomputable def spigotref41_Without.b := body Tryd.f23
noncomputable def spigotref41_Without.Fn : Fun := fnOf spigotref41_Without.E spigotref41_Without.sg Tryd.f23
noncomputable def spigotref41_Without.F (l : (List Int)) (host : Int) : Option ((List Int) × Unit) := spigotref41_Without.Fn.F (l, host, ())
noncomputable def spigotref41_Without.S1 (l : (List Int)) (host : Int) (i : Int) (l0 : (List Int)) : St := ⟨[(0, (.v (.slice (.int .u32)) l)), (1, (.v (.int .u32) host)), (5, (.sl 0)), (6, (.v (.int .i64) i))], [(0, some (.row (.int .u32) l0 false))], 1, []⟩
noncomputable def spigotref41_Without.L1 (l : (List Int)) (host : Int) (i : Int) (l0 : (List Int)) : Option ((List Int) × Unit) := res spigotref41_Without.c (atLoop spigotref41_Without.b [1, 1, 0, 1, 0]) (spigotref41_Without.S1 l host i l0)
noncomputable def spigotref41_Without.S2 (l : (List Int)) (host : Int) (i : Int) (l0 : (List Int)) : St := ⟨[(0, (.v (.slice (.int .u32)) l)), (1, (.v (.int .u32) host)), (5, (.sl 0)), (6, (.v (.int .i64) i))], [(0, some (.row (.int .u32) l0 false))], 1, []⟩
noncomputable def spigotref41_Without.L2 (l : (List Int)) (host : Int) (i : Int) (l0 : (List Int)) : Option ((List Int) × Unit) := res spigotref41_Without.c (atJoin spigotref41_Without.b [1, 1, 0, 1, 0, 0, 0, 1]) (spigotref41_Without.S2 l host i l0)
noncomputable def spigotref41_Without.S3 (l : (List Int)) (host : Int) (i : Int) (l0 : (List Int)) : St := ⟨[(0, (.v (.slice (.int .u32)) l)), (1, (.v (.int .u32) host)), (5, (.sl 0)), (6, (.v (.int .i64) i))], [(0, some (.row (.int .u32) l0 false))], 1, []⟩
noncomputable def spigotref41_Without.L3 (l : (List Int)) (host : Int) (i : Int) (l0 : (List Int)) : Option ((List Int) × Unit) := res spigotref41_Without.c (atJoin spigotref41_Without.b [1, 1, 0, 1, 0, 0, 1, 0, 0, 1]) (spigotref41_Without.S3 l host i l0)
theorem spigotref41_Without.spec : FnSpec Tryd.prog globs 23 spigotref41_Without.Fn := spec_of (E := spigotref41_Without.E) (envOk_at tabOk eqOk primsOk (.nil)) mixOk Tryd.func23 (by kernel_rfl)
theorem spigotref41_Without.L1_eq (l : (List Int)) (host : Int) (i : Int) (l0 : (List Int)) : spigotref41_Without.L1 l host i l0 =
  bif (decide ((i : Int) < ((List.length l : Int)))) then
    spigotref41_Without.L2 l host i l0
  else
    some (l0, ()) := res_eq (by kernel_rfl)
theorem spigotref41_Without.L2_eq (l : (List Int)) (host : Int) (i : Int) (l0 : (List Int)) : spigotref41_Without.L2 l host i l0 =
  bif (decide ((0 : Int) ≤ i ∧ (i : Int) < ((List.length l : Int)))) then
    bif ((List.getD l (Int.toNat i) 0) != host) then
      bif (decide ((0 : Int) ≤ i ∧ (i : Int) < ((List.length l : Int)))) then
        bif (lim ((List.length l0) + (List.length ([(List.getD l (Int.toNat i) 0)] : List Int))) (.int .u32)) then
          spigotref41_Without.L3 l host i (l0 ++ ([(List.getD l (Int.toNat i) 0)] : List Int))
        else none
      else none
    else
      spigotref41_Without.L3 l host i l0
  else none := res_eq (by kernel_rfl)
theorem spigotref41_Without.L3_eq (l : (List Int)) (host : Int) (i : Int) (l0 : (List Int)) : spigotref41_Without.L3 l host i l0 =
  spigotref41_Without.L1 l host (IntKind.wrap .i64 (i + 1)) l0 := res_eq (by kernel_rfl)
theorem spigotref41_Without.F_eq (l : (List Int)) (host : Int) : spigotref41_Without.F l host =
  spigotref41_Without.L1 l host 0 ([] : List Int) := by kernel_rfl
/-! ### spigot/spigotlaw41.RingRank (4) -/
noncomputable def spigotlaw41_RingRank.sg : Sig := ⟨[.val (.slice (.int .u32)), .val (.int .u32), .val (.int .i64)], [(.bool, true)]⟩
noncomputable def spigotlaw41_RingRank.E : Env := ⟨tl, fun i => look i [(10, ring_Score.Fn), (11, ring_Rank.Fn), (16, spigotref41_Check.Fn), (18, spigotref41_Same.Fn), (19, spigotlaw41_alive.Fn), (20, spigotref41_In.Fn), (21, spigotref41_Greater.Fn), (22, ring_Drop.Fn), (23, spigotref41_Without.Fn)], [], eqs, globs, prims⟩
noncomputable def spigotlaw41_RingRank.c := cxOf spigotlaw41_RingRank.E spigotlaw41_RingRank.sg Tryd.f4
noncomputable def spigotlaw41_RingRank.b := body Tryd.f4
noncomputable def spigotlaw41_RingRank.Fn : Fun := fnOf spigotlaw41_RingRank.E spigotlaw41_RingRank.sg Tryd.f4
noncomputable def spigotlaw41_RingRank.F (l : (List Int)) (tenant : Int) (at_ : Int) : Option (Bool × Unit) := spigotlaw41_RingRank.Fn.F (l, tenant, at_, ())
noncomputable def spigotlaw41_RingRank.S1 (l : (List Int)) (tenant : Int) (at_ : Int) (ok : Bool) : St := ⟨[(0, (.v (.slice (.int .u32)) l)), (1, (.v (.int .u32) tenant)), (2, (.v (.int .i64) at_)), (7, (.v .bool ok))], [], 0, []⟩
noncomputable def spigotlaw41_RingRank.L1 (l : (List Int)) (tenant : Int) (at_ : Int) (ok : Bool) : Option (Bool × Unit) := res spigotlaw41_RingRank.c (atJoin spigotlaw41_RingRank.b [1, 1, 0, 1]) (spigotlaw41_RingRank.S1 l tenant at_ ok)
noncomputable def spigotlaw41_RingRank.S2 (l : (List Int)) (tenant : Int) (at_ : Int) (ok : Bool) (l0 : (List Int)) : St := ⟨[(0, (.v (.slice (.int .u32)) l)), (1, (.v (.int .u32) tenant)), (2, (.v (.int .i64) at_)), (7, (.v .bool ok)), (8, (.sl 0))], [(0, some (.row (.int .u32) l0 false))], 1, []⟩
noncomputable def spigotlaw41_RingRank.L2 (l : (List Int)) (tenant : Int) (at_ : Int) (ok : Bool) (l0 : (List Int)) : Option (Bool × Unit) := res spigotlaw41_RingRank.c (atJoin spigotlaw41_RingRank.b [1, 1, 1, 1, 0, 1]) (spigotlaw41_RingRank.S2 l tenant at_ ok l0)
noncomputable def spigotlaw41_RingRank.S3 (l : (List Int)) (tenant : Int) (at_ : Int) (ok : Bool) (i : Int) (l0 : (List Int)) : St := ⟨[(0, (.v (.slice (.int .u32)) l)), (1, (.v (.int .u32) tenant)), (2, (.v (.int .i64) at_)), (7, (.v .bool ok)), (8, (.sl 0)), (10, (.v (.int .i64) i))], [(0, some (.row (.int .u32) l0 false))], 1, []⟩
noncomputable def spigotlaw41_RingRank.L3 (l : (List Int)) (tenant : Int) (at_ : Int) (ok : Bool) (i : Int) (l0 : (List Int)) : Option (Bool × Unit) := res spigotlaw41_RingRank.c (atLoop spigotlaw41_RingRank.b [1, 1, 1, 1, 1, 0, 1, 0]) (spigotlaw41_RingRank.S3 l tenant at_ ok i l0)
noncomputable def spigotlaw41_RingRank.S4 (l : (List Int)) (tenant : Int) (at_ : Int) (ok : Bool) (i : Int) (l0 : (List Int)) : St := ⟨[(0, (.v (.slice (.int .u32)) l)), (1, (.v (.int .u32) tenant)), (2, (.v (.int .i64) at_)), (7, (.v .bool ok)), (8, (.sl 0)), (10, (.v (.int .i64) i))], [(0, some (.row (.int .u32) l0 false))], 1, []⟩
noncomputable def spigotlaw41_RingRank.L4 (l : (List Int)) (tenant : Int) (at_ : Int) (ok : Bool) (i : Int) (l0 : (List Int)) : Option (Bool × Unit) := res spigotlaw41_RingRank.c (atJoin spigotlaw41_RingRank.b [1, 1, 1, 1, 1, 0, 1, 0, 0, 0, 1]) (spigotlaw41_RingRank.S4 l tenant at_ ok i l0)
noncomputable def spigotlaw41_RingRank.S5 (l : (List Int)) (tenant : Int) (at_ : Int) (ok : Bool) (i : Int) (l0 : (List Int)) : St := ⟨[(0, (.v (.slice (.int .u32)) l)), (1, (.v (.int .u32) tenant)), (2, (.v (.int .i64) at_)), (7, (.v .bool ok)), (8, (.sl 0)), (11, (.v (.int .i64) i))], [(0, some (.row (.int .u32) l0 false))], 1, []⟩
noncomputable def spigotlaw41_RingRank.L5 (l : (List Int)) (tenant : Int) (at_ : Int) (ok : Bool) (i : Int) (l0 : (List Int)) : Option (Bool × Unit) := res spigotlaw41_RingRank.c (atLoop spigotlaw41_RingRank.b [1, 1, 1, 1, 1, 1, 0, 1, 0]) (spigotlaw41_RingRank.S5 l tenant at_ ok i l0)
noncomputable def spigotlaw41_RingRank.S6 (l : (List Int)) (tenant : Int) (at_ : Int) (ok : Bool) (i : Int) (l0 : (List Int)) : St := ⟨[(0, (.v (.slice (.int .u32)) l)), (1, (.v (.int .u32) tenant)), (2, (.v (.int .i64) at_)), (7, (.v .bool ok)), (8, (.sl 0)), (11, (.v (.int .i64) i))], [(0, some (.row (.int .u32) l0 false))], 1, []⟩
noncomputable def spigotlaw41_RingRank.L6 (l : (List Int)) (tenant : Int) (at_ : Int) (ok : Bool) (i : Int) (l0 : (List Int)) : Option (Bool × Unit) := res spigotlaw41_RingRank.c (atJoin spigotlaw41_RingRank.b [1, 1, 1, 1, 1, 1, 0, 1, 0, 0, 0, 1]) (spigotlaw41_RingRank.S6 l tenant at_ ok i l0)
noncomputable def spigotlaw41_RingRank.S7 (l : (List Int)) (tenant : Int) (at_ : Int) (ok : Bool) (l0 : (List Int)) : St := ⟨[(0, (.v (.slice (.int .u32)) l)), (1, (.v (.int .u32) tenant)), (2, (.v (.int .i64) at_)), (7, (.v .bool ok)), (8, (.sl 0))], [(0, some (.row (.int .u32) l0 false))], 1, []⟩
noncomputable def spigotlaw41_RingRank.L7 (l : (List Int)) (tenant : Int) (at_ : Int) (ok : Bool) (l0 : (List Int)) : Option (Bool × Unit) := res spigotlaw41_RingRank.c (atJoin spigotlaw41_RingRank.b [1, 1, 1, 1, 1, 1, 1, 0, 1]) (spigotlaw41_RingRank.S7 l tenant at_ ok l0)
noncomputable def spigotlaw41_RingRank.S8 (l : (List Int)) (tenant : Int) (at_ : Int) (ok : Bool) (i : Int) (l0 : (List Int)) : St := ⟨[(0, (.v (.slice (.int .u32)) l)), (1, (.v (.int .u32) tenant)), (2, (.v (.int .i64) at_)), (7, (.v .bool ok)), (8, (.sl 0)), (11, (.v (.int .i64) i))], [(0, some (.row (.int .u32) l0 false))], 1, []⟩
noncomputable def spigotlaw41_RingRank.L8 (l : (List Int)) (tenant : Int) (at_ : Int) (ok : Bool) (i : Int) (l0 : (List Int)) : Option (Bool × Unit) := res spigotlaw41_RingRank.c (atJoin spigotlaw41_RingRank.b [1, 1, 1, 1, 1, 1, 0, 1, 0, 0, 1, 0, 0, 1, 1, 1]) (spigotlaw41_RingRank.S8 l tenant at_ ok i l0)
noncomputable def spigotlaw41_RingRank.S9 (l : (List Int)) (tenant : Int) (at_ : Int) (ok : Bool) (i : Int) (l0 : (List Int)) : St := ⟨[(0, (.v (.slice (.int .u32)) l)), (1, (.v (.int .u32) tenant)), (2, (.v (.int .i64) at_)), (7, (.v .bool ok)), (8, (.sl 0)), (10, (.v (.int .i64) i))], [(0, some (.row (.int .u32) l0 false))], 1, []⟩
noncomputable def spigotlaw41_RingRank.L9 (l : (List Int)) (tenant : Int) (at_ : Int) (ok : Bool) (i : Int) (l0 : (List Int)) : Option (Bool × Unit) := res spigotlaw41_RingRank.c (atJoin spigotlaw41_RingRank.b [1, 1, 1, 1, 1, 0, 1, 0, 0, 1, 0, 0, 1]) (spigotlaw41_RingRank.S9 l tenant at_ ok i l0)
theorem spigotlaw41_RingRank.spec : FnSpec Tryd.prog globs 4 spigotlaw41_RingRank.Fn := spec_of (E := spigotlaw41_RingRank.E) (envOk_at tabOk eqOk primsOk (.cons ring_Score.spec <| .cons ring_Rank.spec <| .cons spigotref41_Check.spec <| .cons spigotref41_Same.spec <| .cons spigotlaw41_alive.spec <| .cons spigotref41_In.spec <| .cons spigotref41_Greater.spec <| .cons ring_Drop.spec <| .cons spigotref41_Without.spec <| .nil)) mixOk Tryd.func4 (by kernel_rfl)
theorem spigotlaw41_RingRank.L1_eq (l : (List Int)) (tenant : Int) (at_ : Int) (ok : Bool) : spigotlaw41_RingRank.L1 l tenant at_ ok =
  (ring_Rank.F l tenant).bind fun r0 =>
  bif (r0.2.1 != 0) then
    some (false, ())
  else
    bif (((List.length r0.1 : Int)) != ((List.length l : Int))) then
      some (false, ())
    else
      spigotlaw41_RingRank.L2 l tenant at_ ok r0.1 := res_eq (by kernel_rfl)
theorem spigotlaw41_RingRank.L2_eq (l : (List Int)) (tenant : Int) (at_ : Int) (ok : Bool) (l0 : (List Int)) : spigotlaw41_RingRank.L2 l tenant at_ ok l0 =
  spigotlaw41_RingRank.L3 l tenant at_ ok 0 l0 := res_eq (by kernel_rfl)
theorem spigotlaw41_RingRank.L3_eq (l : (List Int)) (tenant : Int) (at_ : Int) (ok : Bool) (i : Int) (l0 : (List Int)) : spigotlaw41_RingRank.L3 l tenant at_ ok i l0 =
  bif (decide ((i : Int) < ((List.length l : Int)))) then
    spigotlaw41_RingRank.L4 l tenant at_ ok i l0
  else
    spigotlaw41_RingRank.L5 l tenant at_ ok 1 l0 := res_eq (by kernel_rfl)
theorem spigotlaw41_RingRank.L4_eq (l : (List Int)) (tenant : Int) (at_ : Int) (ok : Bool) (i : Int) (l0 : (List Int)) : spigotlaw41_RingRank.L4 l tenant at_ ok i l0 =
  bif (decide ((0 : Int) ≤ i ∧ (i : Int) < ((List.length l : Int)))) then
    (spigotref41_In.F l0 (List.getD l (Int.toNat i) 0)).bind fun r0 =>
    bif (!r0.1) then
      some (false, ())
    else
      spigotlaw41_RingRank.L9 l tenant at_ ok i l0
  else none := res_eq (by kernel_rfl)
theorem spigotlaw41_RingRank.L5_eq (l : (List Int)) (tenant : Int) (at_ : Int) (ok : Bool) (i : Int) (l0 : (List Int)) : spigotlaw41_RingRank.L5 l tenant at_ ok i l0 =
  bif (decide ((i : Int) < ((List.length l0 : Int)))) then
    spigotlaw41_RingRank.L6 l tenant at_ ok i l0
  else
    bif (decide ((at_ : Int) < 0)) then
      some (ok, ())
    else
      bif (decide ((at_ : Int) ≥ ((List.length l : Int)))) then
        some (ok, ())
      else
        spigotlaw41_RingRank.L7 l tenant at_ ok l0 := res_eq (by kernel_rfl)
theorem spigotlaw41_RingRank.L6_eq (l : (List Int)) (tenant : Int) (at_ : Int) (ok : Bool) (i : Int) (l0 : (List Int)) : spigotlaw41_RingRank.L6 l tenant at_ ok i l0 =
  bif (decide ((0 : Int) ≤ (IntKind.wrap .i64 (i - 1)) ∧ ((IntKind.wrap .i64 (i - 1)) : Int) < ((List.length l0 : Int)))) then
    (ring_Score.F (List.getD l0 (Int.toNat (IntKind.wrap .i64 (i - 1))) 0) tenant).bind fun r0 =>
    bif (decide ((0 : Int) ≤ i ∧ (i : Int) < ((List.length l0 : Int)))) then
      (ring_Score.F (List.getD l0 (Int.toNat i) 0) tenant).bind fun r1 =>
      bif (r0.2.1 != 0) then
        some (false, ())
      else
        bif (r1.2.1 != 0) then
          some (false, ())
        else
          (spigotref41_Greater.F r1.1 r0.1).bind fun r2 =>
          bif r2.1 then
            some (false, ())
          else
            bif (Ty.beq (.arr 32 (.int .u8)) r0.1 r1.1) then
              bif (decide ((0 : Int) ≤ (IntKind.wrap .i64 (i - 1)) ∧ ((IntKind.wrap .i64 (i - 1)) : Int) < ((List.length l0 : Int)))) then
                bif (decide ((0 : Int) ≤ i ∧ (i : Int) < ((List.length l0 : Int)))) then
                  bif (decide (((List.getD l0 (Int.toNat (IntKind.wrap .i64 (i - 1))) 0) : Int) ≥ (List.getD l0 (Int.toNat i) 0))) then
                    some (false, ())
                  else
                    spigotlaw41_RingRank.L8 l tenant at_ ok i l0
                else none
              else none
            else
              spigotlaw41_RingRank.L8 l tenant at_ ok i l0
    else none
  else none := res_eq (by kernel_rfl)
theorem spigotlaw41_RingRank.L7_eq (l : (List Int)) (tenant : Int) (at_ : Int) (ok : Bool) (l0 : (List Int)) : spigotlaw41_RingRank.L7 l tenant at_ ok l0 =
  bif (decide ((0 : Int) ≤ at_ ∧ (at_ : Int) < ((List.length l : Int)))) then
    (ring_Drop.F l (List.getD l (Int.toNat at_) 0)).bind fun r0 =>
    (ring_Rank.F r0.1 tenant).bind fun r1 =>
    bif ok then
      bif (r0.2.1 == 0) then
        bif (r1.2.1 == 0) then
          bif (decide ((0 : Int) ≤ at_ ∧ (at_ : Int) < ((List.length l : Int)))) then
            (spigotref41_Without.F l0 (List.getD l (Int.toNat at_) 0)).bind fun r2 =>
            (spigotref41_Same.F r1.1 r2.1).bind fun r3 =>
            some (r3.1, ())
          else none
        else
          some (false, ())
      else
        some (false, ())
    else
      some (false, ())
  else none := res_eq (by kernel_rfl)
theorem spigotlaw41_RingRank.L8_eq (l : (List Int)) (tenant : Int) (at_ : Int) (ok : Bool) (i : Int) (l0 : (List Int)) : spigotlaw41_RingRank.L8 l tenant at_ ok i l0 =
  spigotlaw41_RingRank.L5 l tenant at_ ok (IntKind.wrap .i64 (i + 1)) l0 := res_eq (by kernel_rfl)
theorem spigotlaw41_RingRank.L9_eq (l : (List Int)) (tenant : Int) (at_ : Int) (ok : Bool) (i : Int) (l0 : (List Int)) : spigotlaw41_RingRank.L9 l tenant at_ ok i l0 =
  spigotlaw41_RingRank.L3 l tenant at_ ok (IntKind.wrap .i64 (i + 1)) l0 := res_eq (by kernel_rfl)
theorem spigotlaw41_RingRank.F_eq (l : (List Int)) (tenant : Int) (at_ : Int) : spigotlaw41_RingRank.F l tenant at_ =
  spigotlaw41_alive.F.bind fun r0 =>
  (spigotref41_Check.F l).bind fun r1 =>
  bif (r1.1 != 0) then
    some (r0.1, ())
  else
    bif (!r0.1) then
      some (r0.1, ())
    else
      spigotlaw41_RingRank.L1 l tenant at_ r0.1 := by kernel_rfl
/-! ### spigot/ring.Moved (25) -/
noncomputable def ring_Moved.sg : Sig := ⟨[.val (.slice (.int .u32)), .val (.slice (.int .u32)), .val (.slice (.int .u32))], [((.slice (.int .u32)), true), ((.int .i64), true)]⟩
noncomputable def ring_Moved.E : Env := ⟨tl, fun i => look i [(13, ring_Owner.Fn), (15, ring_Check.Fn), (42, ring_routed.Fn)], [], eqs, globs, prims⟩
noncomputable def ring_Moved.c := cxOf ring_Moved.E ring_Moved.sg Tryd.f25
noncomputable def ring_Moved.b := body Tryd.f25
noncomputable def ring_Moved.Fn : Fun := fnOf ring_Moved.E ring_Moved.sg Tryd.f25
noncomputable def ring_Moved.F (a : (List Int)) (b : (List Int)) (tenants : (List Int)) : Option ((List Int) × Int × Unit) := ring_Moved.Fn.F (a, b, tenants, ())
noncomputable def ring_Moved.S1 (a : (List Int)) (b : (List Int)) (tenants : (List Int)) (t23_ : Int) (t24_ : Int) (l0 : (List (List Int))) : St := ⟨[(0, (.v (.slice (.int .u32)) a)), (1, (.v (.slice (.int .u32)) b)), (2, (.v (.slice (.int .u32)) tenants)), (22, (.sl 0)), (23, (.v (.int .i64) t23_)), (24, (.v (.int .i64) t24_))], [(0, some (.row (.slice (.int .u32)) l0 false))], 1, []⟩
noncomputable def ring_Moved.L1 (a : (List Int)) (b : (List Int)) (tenants : (List Int)) (t23_ : Int) (t24_ : Int) (l0 : (List (List Int))) : Option ((List Int) × Int × Unit) := res ring_Moved.c (atLoop ring_Moved.b [1, 0, 1, 0]) (ring_Moved.S1 a b tenants t23_ t24_ l0)
noncomputable def ring_Moved.S2 (a : (List Int)) (b : (List Int)) (tenants : (List Int)) (t23_ : Int) (t24_ : Int) (l0 : (List (List Int))) : St := ⟨[(0, (.v (.slice (.int .u32)) a)), (1, (.v (.slice (.int .u32)) b)), (2, (.v (.slice (.int .u32)) tenants)), (22, (.sl 0)), (23, (.v (.int .i64) t23_)), (24, (.v (.int .i64) t24_))], [(0, some (.row (.slice (.int .u32)) l0 false))], 1, []⟩
noncomputable def ring_Moved.L2 (a : (List Int)) (b : (List Int)) (tenants : (List Int)) (t23_ : Int) (t24_ : Int) (l0 : (List (List Int))) : Option ((List Int) × Int × Unit) := res ring_Moved.c (atJoin ring_Moved.b [1, 0, 1, 0, 0, 1, 0]) (ring_Moved.S2 a b tenants t23_ t24_ l0)
noncomputable def ring_Moved.S3 (a : (List Int)) (b : (List Int)) (tenants : (List Int)) (t37_ : Int) (t38_ : Int) (l0 : (List (List Int))) : St := ⟨[(0, (.v (.slice (.int .u32)) a)), (1, (.v (.slice (.int .u32)) b)), (2, (.v (.slice (.int .u32)) tenants)), (36, (.sl 0)), (37, (.v (.int .i64) t37_)), (38, (.v (.int .i64) t38_))], [(0, some (.row (.slice (.int .u32)) l0 false))], 1, []⟩
noncomputable def ring_Moved.L3 (a : (List Int)) (b : (List Int)) (tenants : (List Int)) (t37_ : Int) (t38_ : Int) (l0 : (List (List Int))) : Option ((List Int) × Int × Unit) := res ring_Moved.c (atLoop ring_Moved.b [1, 1, 0, 1, 0]) (ring_Moved.S3 a b tenants t37_ t38_ l0)
noncomputable def ring_Moved.S4 (a : (List Int)) (b : (List Int)) (tenants : (List Int)) (t37_ : Int) (t38_ : Int) (l0 : (List (List Int))) : St := ⟨[(0, (.v (.slice (.int .u32)) a)), (1, (.v (.slice (.int .u32)) b)), (2, (.v (.slice (.int .u32)) tenants)), (36, (.sl 0)), (37, (.v (.int .i64) t37_)), (38, (.v (.int .i64) t38_))], [(0, some (.row (.slice (.int .u32)) l0 false))], 1, []⟩
noncomputable def ring_Moved.L4 (a : (List Int)) (b : (List Int)) (tenants : (List Int)) (t37_ : Int) (t38_ : Int) (l0 : (List (List Int))) : Option ((List Int) × Int × Unit) := res ring_Moved.c (atJoin ring_Moved.b [1, 1, 0, 1, 0, 0, 1, 0]) (ring_Moved.S4 a b tenants t37_ t38_ l0)
noncomputable def ring_Moved.S5 (a : (List Int)) (b : (List Int)) (t49_ : (List Int)) (t50_ : Int) (t51_ : Int) (l0 : (List Int)) : St := ⟨[(0, (.v (.slice (.int .u32)) a)), (1, (.v (.slice (.int .u32)) b)), (14, (.sl 0)), (49, (.v (.slice (.int .u32)) t49_)), (50, (.v (.int .i64) t50_)), (51, (.v (.int .i64) t51_))], [(0, some (.row (.int .u32) l0 false))], 1, []⟩
noncomputable def ring_Moved.L5 (a : (List Int)) (b : (List Int)) (t49_ : (List Int)) (t50_ : Int) (t51_ : Int) (l0 : (List Int)) : Option ((List Int) × Int × Unit) := res ring_Moved.c (atLoop ring_Moved.b [1, 1, 1, 1, 0, 1, 0]) (ring_Moved.S5 a b t49_ t50_ t51_ l0)
noncomputable def ring_Moved.S6 (a : (List Int)) (b : (List Int)) (t49_ : (List Int)) (t50_ : Int) (t51_ : Int) (l0 : (List Int)) : St := ⟨[(0, (.v (.slice (.int .u32)) a)), (1, (.v (.slice (.int .u32)) b)), (14, (.sl 0)), (49, (.v (.slice (.int .u32)) t49_)), (50, (.v (.int .i64) t50_)), (51, (.v (.int .i64) t51_))], [(0, some (.row (.int .u32) l0 false))], 1, []⟩
noncomputable def ring_Moved.L6 (a : (List Int)) (b : (List Int)) (t49_ : (List Int)) (t50_ : Int) (t51_ : Int) (l0 : (List Int)) : Option ((List Int) × Int × Unit) := res ring_Moved.c (atJoin ring_Moved.b [1, 1, 1, 1, 0, 1, 0, 0, 1, 0]) (ring_Moved.S6 a b t49_ t50_ t51_ l0)
noncomputable def ring_Moved.S7 (a : (List Int)) (b : (List Int)) (t : Int) (x : Int) (t49_ : (List Int)) (t50_ : Int) (t51_ : Int) (l0 : (List Int)) : St := ⟨[(0, (.v (.slice (.int .u32)) a)), (1, (.v (.slice (.int .u32)) b)), (14, (.sl 0)), (16, (.v (.int .u32) t)), (17, (.v (.int .u32) x)), (49, (.v (.slice (.int .u32)) t49_)), (50, (.v (.int .i64) t50_)), (51, (.v (.int .i64) t51_))], [(0, some (.row (.int .u32) l0 false))], 1, []⟩
noncomputable def ring_Moved.L7 (a : (List Int)) (b : (List Int)) (t : Int) (x : Int) (t49_ : (List Int)) (t50_ : Int) (t51_ : Int) (l0 : (List Int)) : Option ((List Int) × Int × Unit) := res ring_Moved.c (atJoin ring_Moved.b [1, 1, 1, 1, 0, 1, 0, 0, 1, 1, 0, 0, 1, 1, 0, 1]) (ring_Moved.S7 a b t x t49_ t50_ t51_ l0)
noncomputable def ring_Moved.S8 (a : (List Int)) (b : (List Int)) (t : Int) (x : Int) (y : Int) (t49_ : (List Int)) (t50_ : Int) (t51_ : Int) (l0 : (List Int)) : St := ⟨[(0, (.v (.slice (.int .u32)) a)), (1, (.v (.slice (.int .u32)) b)), (14, (.sl 0)), (16, (.v (.int .u32) t)), (17, (.v (.int .u32) x)), (19, (.v (.int .u32) y)), (49, (.v (.slice (.int .u32)) t49_)), (50, (.v (.int .i64) t50_)), (51, (.v (.int .i64) t51_))], [(0, some (.row (.int .u32) l0 false))], 1, []⟩
noncomputable def ring_Moved.L8 (a : (List Int)) (b : (List Int)) (t : Int) (x : Int) (y : Int) (t49_ : (List Int)) (t50_ : Int) (t51_ : Int) (l0 : (List Int)) : Option ((List Int) × Int × Unit) := res ring_Moved.c (atJoin ring_Moved.b [1, 1, 1, 1, 0, 1, 0, 0, 1, 1, 0, 0, 1, 1, 1, 1, 0, 1]) (ring_Moved.S8 a b t x y t49_ t50_ t51_ l0)
noncomputable def ring_Moved.S9 (a : (List Int)) (b : (List Int)) (t49_ : (List Int)) (t50_ : Int) (t51_ : Int) (l0 : (List Int)) : St := ⟨[(0, (.v (.slice (.int .u32)) a)), (1, (.v (.slice (.int .u32)) b)), (14, (.sl 0)), (49, (.v (.slice (.int .u32)) t49_)), (50, (.v (.int .i64) t50_)), (51, (.v (.int .i64) t51_))], [(0, some (.row (.int .u32) l0 false))], 1, []⟩
noncomputable def ring_Moved.L9 (a : (List Int)) (b : (List Int)) (t49_ : (List Int)) (t50_ : Int) (t51_ : Int) (l0 : (List Int)) : Option ((List Int) × Int × Unit) := res ring_Moved.c (atJoin ring_Moved.b [1, 1, 1, 1, 0, 1, 0, 0, 1, 1, 0, 0, 1, 1, 1, 1, 1, 1]) (ring_Moved.S9 a b t49_ t50_ t51_ l0)
noncomputable def ring_Moved.S10 (a : (List Int)) (b : (List Int)) (tenants : (List Int)) (t37_ : Int) (t38_ : Int) (l0 : (List (List Int))) : St := ⟨[(0, (.v (.slice (.int .u32)) a)), (1, (.v (.slice (.int .u32)) b)), (2, (.v (.slice (.int .u32)) tenants)), (36, (.sl 0)), (37, (.v (.int .i64) t37_)), (38, (.v (.int .i64) t38_))], [(0, some (.row (.slice (.int .u32)) l0 false))], 1, []⟩
noncomputable def ring_Moved.L10 (a : (List Int)) (b : (List Int)) (tenants : (List Int)) (t37_ : Int) (t38_ : Int) (l0 : (List (List Int))) : Option ((List Int) × Int × Unit) := res ring_Moved.c (atJoin ring_Moved.b [1, 1, 0, 1, 0, 0, 1, 1, 0, 0, 1, 1, 1]) (ring_Moved.S10 a b tenants t37_ t38_ l0)
noncomputable def ring_Moved.S11 (a : (List Int)) (b : (List Int)) (tenants : (List Int)) (t23_ : Int) (t24_ : Int) (l0 : (List (List Int))) : St := ⟨[(0, (.v (.slice (.int .u32)) a)), (1, (.v (.slice (.int .u32)) b)), (2, (.v (.slice (.int .u32)) tenants)), (22, (.sl 0)), (23, (.v (.int .i64) t23_)), (24, (.v (.int .i64) t24_))], [(0, some (.row (.slice (.int .u32)) l0 false))], 1, []⟩
noncomputable def ring_Moved.L11 (a : (List Int)) (b : (List Int)) (tenants : (List Int)) (t23_ : Int) (t24_ : Int) (l0 : (List (List Int))) : Option ((List Int) × Int × Unit) := res ring_Moved.c (atJoin ring_Moved.b [1, 0, 1, 0, 0, 1, 1, 0, 0, 1, 1, 1]) (ring_Moved.S11 a b tenants t23_ t24_ l0)
theorem ring_Moved.spec : FnSpec Tryd.prog globs 25 ring_Moved.Fn := spec_of (E := ring_Moved.E) (envOk_at tabOk eqOk primsOk (.cons ring_Owner.spec <| .cons ring_Check.spec <| .cons ring_routed.spec <| .nil)) mixOk Tryd.func25 (by kernel_rfl)
theorem ring_Moved.L1_eq (a : (List Int)) (b : (List Int)) (tenants : (List Int)) (t23_ : Int) (t24_ : Int) (l0 : (List (List Int))) : ring_Moved.L1 a b tenants t23_ t24_ l0 =
  bif (decide ((t24_ : Int) < t23_)) then
    ring_Moved.L2 a b tenants t23_ t24_ l0
  else
    ring_Moved.L3 a b tenants ((List.length ([a, b] : List (List Int)) : Int)) 0 ([a, b] : List (List Int)) := res_eq (by kernel_rfl)
theorem ring_Moved.L2_eq (a : (List Int)) (b : (List Int)) (tenants : (List Int)) (t23_ : Int) (t24_ : Int) (l0 : (List (List Int))) : ring_Moved.L2 a b tenants t23_ t24_ l0 =
  bif (decide ((0 : Int) ≤ t24_ ∧ (t24_ : Int) < ((List.length l0 : Int)))) then
    (ring_Check.F (List.getD l0 (Int.toNat t24_) ([] : List Int))).bind fun r0 =>
    bif (r0.1 != 0) then
      some (([] : List Int), r0.1, ())
    else
      ring_Moved.L11 a b tenants t23_ t24_ l0
  else none := res_eq (by kernel_rfl)
theorem ring_Moved.L3_eq (a : (List Int)) (b : (List Int)) (tenants : (List Int)) (t37_ : Int) (t38_ : Int) (l0 : (List (List Int))) : ring_Moved.L3 a b tenants t37_ t38_ l0 =
  bif (decide ((t38_ : Int) < t37_)) then
    ring_Moved.L4 a b tenants t37_ t38_ l0
  else
    ring_Moved.L5 a b tenants ((List.length tenants : Int)) 0 ([] : List Int) := res_eq (by kernel_rfl)
theorem ring_Moved.L4_eq (a : (List Int)) (b : (List Int)) (tenants : (List Int)) (t37_ : Int) (t38_ : Int) (l0 : (List (List Int))) : ring_Moved.L4 a b tenants t37_ t38_ l0 =
  bif (decide ((0 : Int) ≤ t38_ ∧ (t38_ : Int) < ((List.length l0 : Int)))) then
    (ring_routed.F (List.getD l0 (Int.toNat t38_) ([] : List Int)) tenants).bind fun r0 =>
    bif (r0.1 != 0) then
      some (([] : List Int), r0.1, ())
    else
      ring_Moved.L10 a b tenants t37_ t38_ l0
  else none := res_eq (by kernel_rfl)
theorem ring_Moved.L5_eq (a : (List Int)) (b : (List Int)) (t49_ : (List Int)) (t50_ : Int) (t51_ : Int) (l0 : (List Int)) : ring_Moved.L5 a b t49_ t50_ t51_ l0 =
  bif (decide ((t51_ : Int) < t50_)) then
    ring_Moved.L6 a b t49_ t50_ t51_ l0
  else
    some (l0, 0, ()) := res_eq (by kernel_rfl)
theorem ring_Moved.L6_eq (a : (List Int)) (b : (List Int)) (t49_ : (List Int)) (t50_ : Int) (t51_ : Int) (l0 : (List Int)) : ring_Moved.L6 a b t49_ t50_ t51_ l0 =
  bif (decide ((0 : Int) ≤ t51_ ∧ (t51_ : Int) < ((List.length t49_ : Int)))) then
    (ring_Owner.F a (List.getD t49_ (Int.toNat t51_) 0)).bind fun r0 =>
    bif (r0.2.1 != 0) then
      some (([] : List Int), r0.2.1, ())
    else
      ring_Moved.L7 a b (List.getD t49_ (Int.toNat t51_) 0) r0.1 t49_ t50_ t51_ l0
  else none := res_eq (by kernel_rfl)
theorem ring_Moved.L7_eq (a : (List Int)) (b : (List Int)) (t : Int) (x : Int) (t49_ : (List Int)) (t50_ : Int) (t51_ : Int) (l0 : (List Int)) : ring_Moved.L7 a b t x t49_ t50_ t51_ l0 =
  (ring_Owner.F b t).bind fun r0 =>
  bif (r0.2.1 != 0) then
    some (([] : List Int), r0.2.1, ())
  else
    ring_Moved.L8 a b t x r0.1 t49_ t50_ t51_ l0 := res_eq (by kernel_rfl)
theorem ring_Moved.L8_eq (a : (List Int)) (b : (List Int)) (t : Int) (x : Int) (y : Int) (t49_ : (List Int)) (t50_ : Int) (t51_ : Int) (l0 : (List Int)) : ring_Moved.L8 a b t x y t49_ t50_ t51_ l0 =
  bif (x != y) then
    bif (lim ((List.length l0) + (List.length ([t] : List Int))) (.int .u32)) then
      ring_Moved.L9 a b t49_ t50_ t51_ (l0 ++ ([t] : List Int))
    else none
  else
    ring_Moved.L9 a b t49_ t50_ t51_ l0 := res_eq (by kernel_rfl)
theorem ring_Moved.L9_eq (a : (List Int)) (b : (List Int)) (t49_ : (List Int)) (t50_ : Int) (t51_ : Int) (l0 : (List Int)) : ring_Moved.L9 a b t49_ t50_ t51_ l0 =
  ring_Moved.L5 a b t49_ t50_ (IntKind.wrap .i64 (t51_ + 1)) l0 := res_eq (by kernel_rfl)
theorem ring_Moved.L10_eq (a : (List Int)) (b : (List Int)) (tenants : (List Int)) (t37_ : Int) (t38_ : Int) (l0 : (List (List Int))) : ring_Moved.L10 a b tenants t37_ t38_ l0 =
  ring_Moved.L3 a b tenants t37_ (IntKind.wrap .i64 (t38_ + 1)) l0 := res_eq (by kernel_rfl)
theorem ring_Moved.L11_eq (a : (List Int)) (b : (List Int)) (tenants : (List Int)) (t23_ : Int) (t24_ : Int) (l0 : (List (List Int))) : ring_Moved.L11 a b tenants t23_ t24_ l0 =
  ring_Moved.L1 a b tenants t23_ (IntKind.wrap .i64 (t24_ + 1)) l0 := res_eq (by kernel_rfl)
theorem ring_Moved.F_eq (a : (List Int)) (b : (List Int)) (tenants : (List Int)) : ring_Moved.F a b tenants =
  ring_Moved.L1 a b tenants ((List.length ([a, b] : List (List Int)) : Int)) 0 ([a, b] : List (List Int)) := by kernel_rfl
/-! ### spigot/spigotlaw41.RingLoads (5) -/
noncomputable def spigotlaw41_RingLoads.sg : Sig := ⟨[.val (.slice (.int .u32)), .val (.slice (.int .u32)), .val (.slice (.int .u32))], [(.bool, true)]⟩
noncomputable def spigotlaw41_RingLoads.E : Env := ⟨tl, fun i => look i [(13, ring_Owner.Fn), (16, spigotref41_Check.Fn), (19, spigotlaw41_alive.Fn), (24, ring_Loads.Fn), (25, ring_Moved.Fn)], [], eqs, globs, prims⟩
noncomputable def spigotlaw41_RingLoads.c := cxOf spigotlaw41_RingLoads.E spigotlaw41_RingLoads.sg Tryd.f5
noncomputable def spigotlaw41_RingLoads.b := body Tryd.f5
noncomputable def spigotlaw41_RingLoads.Fn : Fun := fnOf spigotlaw41_RingLoads.E spigotlaw41_RingLoads.sg Tryd.f5
noncomputable def spigotlaw41_RingLoads.F (a : (List Int)) (b : (List Int)) (tenants : (List Int)) : Option (Bool × Unit) := spigotlaw41_RingLoads.Fn.F (a, b, tenants, ())
noncomputable def spigotlaw41_RingLoads.S1 (a : (List Int)) (b : (List Int)) (tenants : (List Int)) (ok : Bool) : St := ⟨[(0, (.v (.slice (.int .u32)) a)), (1, (.v (.slice (.int .u32)) b)), (2, (.v (.slice (.int .u32)) tenants)), (7, (.v .bool ok))], [], 0, []⟩
noncomputable def spigotlaw41_RingLoads.L1 (a : (List Int)) (b : (List Int)) (tenants : (List Int)) (ok : Bool) : Option (Bool × Unit) := res spigotlaw41_RingLoads.c (atJoin spigotlaw41_RingLoads.b [1, 1, 0, 1]) (spigotlaw41_RingLoads.S1 a b tenants ok)
noncomputable def spigotlaw41_RingLoads.S2 (a : (List Int)) (b : (List Int)) (tenants : (List Int)) (ok : Bool) (l0 : (List Int)) (l1 : (List Int)) (l2 : (List Int)) : St := ⟨[(0, (.v (.slice (.int .u32)) a)), (1, (.v (.slice (.int .u32)) b)), (2, (.v (.slice (.int .u32)) tenants)), (7, (.v .bool ok)), (8, (.sl 0)), (10, (.sl 1)), (12, (.sl 2))], [(0, some (.row (.int .i64) l0 false)), (1, some (.row (.int .i64) l1 false)), (2, some (.row (.int .u32) l2 false))], 3, []⟩
noncomputable def spigotlaw41_RingLoads.L2 (a : (List Int)) (b : (List Int)) (tenants : (List Int)) (ok : Bool) (l0 : (List Int)) (l1 : (List Int)) (l2 : (List Int)) : Option (Bool × Unit) := res spigotlaw41_RingLoads.c (atJoin spigotlaw41_RingLoads.b [1, 1, 1, 1, 1, 1, 0, 1]) (spigotlaw41_RingLoads.S2 a b tenants ok l0 l1 l2)
noncomputable def spigotlaw41_RingLoads.S3 (a : (List Int)) (b : (List Int)) (tenants : (List Int)) (ok : Bool) (sum : Int) (i : Int) (l0 : (List Int)) (l1 : (List Int)) (l2 : (List Int)) : St := ⟨[(0, (.v (.slice (.int .u32)) a)), (1, (.v (.slice (.int .u32)) b)), (2, (.v (.slice (.int .u32)) tenants)), (7, (.v .bool ok)), (8, (.sl 0)), (10, (.sl 1)), (12, (.sl 2)), (14, (.v (.int .i64) sum)), (15, (.v (.int .i64) i))], [(0, some (.row (.int .i64) l0 false)), (1, some (.row (.int .i64) l1 false)), (2, some (.row (.int .u32) l2 false))], 3, []⟩
noncomputable def spigotlaw41_RingLoads.L3 (a : (List Int)) (b : (List Int)) (tenants : (List Int)) (ok : Bool) (sum : Int) (i : Int) (l0 : (List Int)) (l1 : (List Int)) (l2 : (List Int)) : Option (Bool × Unit) := res spigotlaw41_RingLoads.c (atLoop spigotlaw41_RingLoads.b [1, 1, 1, 1, 1, 1, 1, 1, 0, 1, 0]) (spigotlaw41_RingLoads.S3 a b tenants ok sum i l0 l1 l2)
noncomputable def spigotlaw41_RingLoads.S4 (a : (List Int)) (b : (List Int)) (tenants : (List Int)) (ok : Bool) (sum : Int) (i : Int) (l0 : (List Int)) (l1 : (List Int)) (l2 : (List Int)) : St := ⟨[(0, (.v (.slice (.int .u32)) a)), (1, (.v (.slice (.int .u32)) b)), (2, (.v (.slice (.int .u32)) tenants)), (7, (.v .bool ok)), (8, (.sl 0)), (10, (.sl 1)), (12, (.sl 2)), (14, (.v (.int .i64) sum)), (15, (.v (.int .i64) i))], [(0, some (.row (.int .i64) l0 false)), (1, some (.row (.int .i64) l1 false)), (2, some (.row (.int .u32) l2 false))], 3, []⟩
noncomputable def spigotlaw41_RingLoads.L4 (a : (List Int)) (b : (List Int)) (tenants : (List Int)) (ok : Bool) (sum : Int) (i : Int) (l0 : (List Int)) (l1 : (List Int)) (l2 : (List Int)) : Option (Bool × Unit) := res spigotlaw41_RingLoads.c (atJoin spigotlaw41_RingLoads.b [1, 1, 1, 1, 1, 1, 1, 1, 0, 1, 0, 0, 0, 1]) (spigotlaw41_RingLoads.S4 a b tenants ok sum i l0 l1 l2)
noncomputable def spigotlaw41_RingLoads.S5 (a : (List Int)) (b : (List Int)) (tenants : (List Int)) (ok : Bool) (sum : Int) (k : Int) (i : Int) (l0 : (List Int)) : St := ⟨[(0, (.v (.slice (.int .u32)) a)), (1, (.v (.slice (.int .u32)) b)), (2, (.v (.slice (.int .u32)) tenants)), (7, (.v .bool ok)), (12, (.sl 0)), (14, (.v (.int .i64) sum)), (16, (.v (.int .i64) k)), (17, (.v (.int .i64) i))], [(0, some (.row (.int .u32) l0 false))], 1, []⟩
noncomputable def spigotlaw41_RingLoads.L5 (a : (List Int)) (b : (List Int)) (tenants : (List Int)) (ok : Bool) (sum : Int) (k : Int) (i : Int) (l0 : (List Int)) : Option (Bool × Unit) := res spigotlaw41_RingLoads.c (atLoop spigotlaw41_RingLoads.b [1, 1, 1, 1, 1, 1, 1, 1, 1, 1, 0, 1, 0]) (spigotlaw41_RingLoads.S5 a b tenants ok sum k i l0)
noncomputable def spigotlaw41_RingLoads.S6 (a : (List Int)) (b : (List Int)) (tenants : (List Int)) (ok : Bool) (sum : Int) (k : Int) (i : Int) (l0 : (List Int)) : St := ⟨[(0, (.v (.slice (.int .u32)) a)), (1, (.v (.slice (.int .u32)) b)), (2, (.v (.slice (.int .u32)) tenants)), (7, (.v .bool ok)), (12, (.sl 0)), (14, (.v (.int .i64) sum)), (16, (.v (.int .i64) k)), (17, (.v (.int .i64) i))], [(0, some (.row (.int .u32) l0 false))], 1, []⟩
noncomputable def spigotlaw41_RingLoads.L6 (a : (List Int)) (b : (List Int)) (tenants : (List Int)) (ok : Bool) (sum : Int) (k : Int) (i : Int) (l0 : (List Int)) : Option (Bool × Unit) := res spigotlaw41_RingLoads.c (atJoin spigotlaw41_RingLoads.b [1, 1, 1, 1, 1, 1, 1, 1, 1, 1, 0, 1, 0, 0, 0, 1]) (spigotlaw41_RingLoads.S6 a b tenants ok sum k i l0)
noncomputable def spigotlaw41_RingLoads.S7 (a : (List Int)) (b : (List Int)) (tenants : (List Int)) (ok : Bool) (sum : Int) (k : Int) (i : Int) (x : Int) (y : Int) (l0 : (List Int)) : St := ⟨[(0, (.v (.slice (.int .u32)) a)), (1, (.v (.slice (.int .u32)) b)), (2, (.v (.slice (.int .u32)) tenants)), (7, (.v .bool ok)), (12, (.sl 0)), (14, (.v (.int .i64) sum)), (16, (.v (.int .i64) k)), (17, (.v (.int .i64) i)), (18, (.v (.int .u32) x)), (20, (.v (.int .u32) y))], [(0, some (.row (.int .u32) l0 false))], 1, []⟩
noncomputable def spigotlaw41_RingLoads.L7 (a : (List Int)) (b : (List Int)) (tenants : (List Int)) (ok : Bool) (sum : Int) (k : Int) (i : Int) (x : Int) (y : Int) (l0 : (List Int)) : Option (Bool × Unit) := res spigotlaw41_RingLoads.c (atJoin spigotlaw41_RingLoads.b [1, 1, 1, 1, 1, 1, 1, 1, 1, 1, 0, 1, 0, 0, 1, 0, 0, 1, 1, 0, 1]) (spigotlaw41_RingLoads.S7 a b tenants ok sum k i x y l0)
noncomputable def spigotlaw41_RingLoads.S8 (a : (List Int)) (b : (List Int)) (tenants : (List Int)) (ok : Bool) (sum : Int) (k : Int) (i : Int) (l0 : (List Int)) : St := ⟨[(0, (.v (.slice (.int .u32)) a)), (1, (.v (.slice (.int .u32)) b)), (2, (.v (.slice (.int .u32)) tenants)), (7, (.v .bool ok)), (12, (.sl 0)), (14, (.v (.int .i64) sum)), (16, (.v (.int .i64) k)), (17, (.v (.int .i64) i))], [(0, some (.row (.int .u32) l0 false))], 1, []⟩
noncomputable def spigotlaw41_RingLoads.L8 (a : (List Int)) (b : (List Int)) (tenants : (List Int)) (ok : Bool) (sum : Int) (k : Int) (i : Int) (l0 : (List Int)) : Option (Bool × Unit) := res spigotlaw41_RingLoads.c (atJoin spigotlaw41_RingLoads.b [1, 1, 1, 1, 1, 1, 1, 1, 1, 1, 0, 1, 0, 0, 1, 0, 0, 1, 1, 1, 1, 0, 0, 1]) (spigotlaw41_RingLoads.S8 a b tenants ok sum k i l0)
noncomputable def spigotlaw41_RingLoads.S9 (a : (List Int)) (b : (List Int)) (tenants : (List Int)) (ok : Bool) (sum : Int) (k : Int) (i : Int) (l0 : (List Int)) : St := ⟨[(0, (.v (.slice (.int .u32)) a)), (1, (.v (.slice (.int .u32)) b)), (2, (.v (.slice (.int .u32)) tenants)), (7, (.v .bool ok)), (12, (.sl 0)), (14, (.v (.int .i64) sum)), (16, (.v (.int .i64) k)), (17, (.v (.int .i64) i))], [(0, some (.row (.int .u32) l0 false))], 1, []⟩
noncomputable def spigotlaw41_RingLoads.L9 (a : (List Int)) (b : (List Int)) (tenants : (List Int)) (ok : Bool) (sum : Int) (k : Int) (i : Int) (l0 : (List Int)) : Option (Bool × Unit) := res spigotlaw41_RingLoads.c (atJoin spigotlaw41_RingLoads.b [1, 1, 1, 1, 1, 1, 1, 1, 1, 1, 0, 1, 0, 0, 1, 0, 0, 1, 1, 1, 1]) (spigotlaw41_RingLoads.S9 a b tenants ok sum k i l0)
noncomputable def spigotlaw41_RingLoads.S10 (a : (List Int)) (b : (List Int)) (tenants : (List Int)) (ok : Bool) (sum : Int) (i : Int) (l0 : (List Int)) (l1 : (List Int)) (l2 : (List Int)) : St := ⟨[(0, (.v (.slice (.int .u32)) a)), (1, (.v (.slice (.int .u32)) b)), (2, (.v (.slice (.int .u32)) tenants)), (7, (.v .bool ok)), (8, (.sl 0)), (10, (.sl 1)), (12, (.sl 2)), (14, (.v (.int .i64) sum)), (15, (.v (.int .i64) i))], [(0, some (.row (.int .i64) l0 false)), (1, some (.row (.int .i64) l1 false)), (2, some (.row (.int .u32) l2 false))], 3, []⟩
noncomputable def spigotlaw41_RingLoads.L10 (a : (List Int)) (b : (List Int)) (tenants : (List Int)) (ok : Bool) (sum : Int) (i : Int) (l0 : (List Int)) (l1 : (List Int)) (l2 : (List Int)) : Option (Bool × Unit) := res spigotlaw41_RingLoads.c (atJoin spigotlaw41_RingLoads.b [1, 1, 1, 1, 1, 1, 1, 1, 0, 1, 0, 0, 1, 0, 0, 1, 1]) (spigotlaw41_RingLoads.S10 a b tenants ok sum i l0 l1 l2)
theorem spigotlaw41_RingLoads.spec : FnSpec Tryd.prog globs 5 spigotlaw41_RingLoads.Fn := spec_of (E := spigotlaw41_RingLoads.E) (envOk_at tabOk eqOk primsOk (.cons ring_Owner.spec <| .cons spigotref41_Check.spec <| .cons spigotlaw41_alive.spec <| .cons ring_Loads.spec <| .cons ring_Moved.spec <| .nil)) mixOk Tryd.func5 (by kernel_rfl)
theorem spigotlaw41_RingLoads.L1_eq (a : (List Int)) (b : (List Int)) (tenants : (List Int)) (ok : Bool) : spigotlaw41_RingLoads.L1 a b tenants ok =
  (ring_Loads.F a tenants).bind fun r0 =>
  bif (lim ((List.length ([] : List Int)) + (List.length tenants)) (.int .u32)) then
    bif (lim ((List.length (([] : List Int) ++ tenants)) + (List.length tenants)) (.int .u32)) then
      (ring_Loads.F a ((([] : List Int) ++ tenants) ++ tenants)).bind fun r1 =>
      (ring_Moved.F a b tenants).bind fun r2 =>
      bif (r0.2.1 != 0) then
        some (false, ())
      else
        bif (r1.2.1 != 0) then
          some (false, ())
        else
          bif (r2.2.1 != 0) then
            some (false, ())
          else
            bif (((List.length r0.1 : Int)) != ((List.length a : Int))) then
              some (false, ())
            else
              bif (((List.length r1.1 : Int)) != ((List.length a : Int))) then
                some (false, ())
              else
                spigotlaw41_RingLoads.L2 a b tenants ok r0.1 r1.1 r2.1
    else none
  else none := res_eq (by kernel_rfl)
theorem spigotlaw41_RingLoads.L2_eq (a : (List Int)) (b : (List Int)) (tenants : (List Int)) (ok : Bool) (l0 : (List Int)) (l1 : (List Int)) (l2 : (List Int)) : spigotlaw41_RingLoads.L2 a b tenants ok l0 l1 l2 =
  spigotlaw41_RingLoads.L3 a b tenants ok 0 0 l0 l1 l2 := res_eq (by kernel_rfl)
theorem spigotlaw41_RingLoads.L3_eq (a : (List Int)) (b : (List Int)) (tenants : (List Int)) (ok : Bool) (sum : Int) (i : Int) (l0 : (List Int)) (l1 : (List Int)) (l2 : (List Int)) : spigotlaw41_RingLoads.L3 a b tenants ok sum i l0 l1 l2 =
  bif (decide ((i : Int) < ((List.length l0 : Int)))) then
    spigotlaw41_RingLoads.L4 a b tenants ok sum i l0 l1 l2
  else
    spigotlaw41_RingLoads.L5 a b tenants ok sum 0 0 l2 := res_eq (by kernel_rfl)
theorem spigotlaw41_RingLoads.L4_eq (a : (List Int)) (b : (List Int)) (tenants : (List Int)) (ok : Bool) (sum : Int) (i : Int) (l0 : (List Int)) (l1 : (List Int)) (l2 : (List Int)) : spigotlaw41_RingLoads.L4 a b tenants ok sum i l0 l1 l2 =
  bif (decide ((0 : Int) ≤ i ∧ (i : Int) < ((List.length l0 : Int)))) then
    bif (decide ((0 : Int) ≤ i ∧ (i : Int) < ((List.length l0 : Int)))) then
      bif (decide (((List.getD l0 (Int.toNat i) 0) : Int) < 0)) then
        some (false, ())
      else
        bif (decide ((0 : Int) ≤ i ∧ (i : Int) < ((List.length l1 : Int)))) then
          bif (decide ((0 : Int) ≤ i ∧ (i : Int) < ((List.length l0 : Int)))) then
            bif ((List.getD l1 (Int.toNat i) 0) != (IntKind.wrap .i64 (2 * (List.getD l0 (Int.toNat i) 0)))) then
              some (false, ())
            else
              spigotlaw41_RingLoads.L10 a b tenants ok (IntKind.wrap .i64 (sum + (List.getD l0 (Int.toNat i) 0))) i l0 l1 l2
          else none
        else none
    else none
  else none := res_eq (by kernel_rfl)
theorem spigotlaw41_RingLoads.L5_eq (a : (List Int)) (b : (List Int)) (tenants : (List Int)) (ok : Bool) (sum : Int) (k : Int) (i : Int) (l0 : (List Int)) : spigotlaw41_RingLoads.L5 a b tenants ok sum k i l0 =
  bif (decide ((i : Int) < ((List.length tenants : Int)))) then
    spigotlaw41_RingLoads.L6 a b tenants ok sum k i l0
  else
    bif ok then
      bif (sum == ((List.length tenants : Int))) then
        some ((k == ((List.length l0 : Int))), ())
      else
        some (false, ())
    else
      some (false, ()) := res_eq (by kernel_rfl)
theorem spigotlaw41_RingLoads.L6_eq (a : (List Int)) (b : (List Int)) (tenants : (List Int)) (ok : Bool) (sum : Int) (k : Int) (i : Int) (l0 : (List Int)) : spigotlaw41_RingLoads.L6 a b tenants ok sum k i l0 =
  bif (decide ((0 : Int) ≤ i ∧ (i : Int) < ((List.length tenants : Int)))) then
    (ring_Owner.F a (List.getD tenants (Int.toNat i) 0)).bind fun r0 =>
    bif (decide ((0 : Int) ≤ i ∧ (i : Int) < ((List.length tenants : Int)))) then
      (ring_Owner.F b (List.getD tenants (Int.toNat i) 0)).bind fun r1 =>
      bif (r0.2.1 != 0) then
        some (false, ())
      else
        bif (r1.2.1 != 0) then
          some (false, ())
        else
          spigotlaw41_RingLoads.L7 a b tenants ok sum k i r0.1 r1.1 l0
    else none
  else none := res_eq (by kernel_rfl)
theorem spigotlaw41_RingLoads.L7_eq (a : (List Int)) (b : (List Int)) (tenants : (List Int)) (ok : Bool) (sum : Int) (k : Int) (i : Int) (x : Int) (y : Int) (l0 : (List Int)) : spigotlaw41_RingLoads.L7 a b tenants ok sum k i x y l0 =
  bif (x != y) then
    bif (decide ((k : Int) ≥ ((List.length l0 : Int)))) then
      some (false, ())
    else
      bif (decide ((0 : Int) ≤ k ∧ (k : Int) < ((List.length l0 : Int)))) then
        bif (decide ((0 : Int) ≤ i ∧ (i : Int) < ((List.length tenants : Int)))) then
          bif ((List.getD l0 (Int.toNat k) 0) != (List.getD tenants (Int.toNat i) 0)) then
            some (false, ())
          else
            spigotlaw41_RingLoads.L8 a b tenants ok sum k i l0
        else none
      else none
  else
    spigotlaw41_RingLoads.L9 a b tenants ok sum k i l0 := res_eq (by kernel_rfl)
theorem spigotlaw41_RingLoads.L8_eq (a : (List Int)) (b : (List Int)) (tenants : (List Int)) (ok : Bool) (sum : Int) (k : Int) (i : Int) (l0 : (List Int)) : spigotlaw41_RingLoads.L8 a b tenants ok sum k i l0 =
  spigotlaw41_RingLoads.L9 a b tenants ok sum (IntKind.wrap .i64 (k + 1)) i l0 := res_eq (by kernel_rfl)
theorem spigotlaw41_RingLoads.L9_eq (a : (List Int)) (b : (List Int)) (tenants : (List Int)) (ok : Bool) (sum : Int) (k : Int) (i : Int) (l0 : (List Int)) : spigotlaw41_RingLoads.L9 a b tenants ok sum k i l0 =
  spigotlaw41_RingLoads.L5 a b tenants ok sum k (IntKind.wrap .i64 (i + 1)) l0 := res_eq (by kernel_rfl)
theorem spigotlaw41_RingLoads.L10_eq (a : (List Int)) (b : (List Int)) (tenants : (List Int)) (ok : Bool) (sum : Int) (i : Int) (l0 : (List Int)) (l1 : (List Int)) (l2 : (List Int)) : spigotlaw41_RingLoads.L10 a b tenants ok sum i l0 l1 l2 =
  spigotlaw41_RingLoads.L3 a b tenants ok sum (IntKind.wrap .i64 (i + 1)) l0 l1 l2 := res_eq (by kernel_rfl)
theorem spigotlaw41_RingLoads.F_eq (a : (List Int)) (b : (List Int)) (tenants : (List Int)) : spigotlaw41_RingLoads.F a b tenants =
  spigotlaw41_alive.F.bind fun r0 =>
  (spigotref41_Check.F a).bind fun r1 =>
  bif (r1.1 != 0) then
    some (r0.1, ())
  else
    (spigotref41_Check.F b).bind fun r2 =>
    bif (r2.1 != 0) then
      some (r0.1, ())
    else
      bif (((List.length a : Int)) == 0) then
        some (r0.1, ())
      else
        bif (((List.length b : Int)) == 0) then
          some (r0.1, ())
        else
          bif (decide ((((List.length tenants : Int)) : Int) > 7)) then
            some (r0.1, ())
          else
            bif (!r0.1) then
              some (r0.1, ())
            else
              spigotlaw41_RingLoads.L1 a b tenants r0.1 := by kernel_rfl
/-! ### spigot/spigotref41.Add (27) -/
noncomputable def spigotref41_Add.sg : Sig := ⟨[.val (.slice (.int .u32)), .val (.int .u32)], [((.slice (.int .u32)), true), ((.int .i64), true)]⟩
noncomputable def spigotref41_Add.E : Env := ⟨tl, fun i => look i [(16, spigotref41_Check.Fn), (20, spigotref41_In.Fn)], [], eqs, globs, prims⟩
noncomputable def spigotref41_Add.c := cxOf spigotref41_Add.E spigotref41_Add.sg Tryd.f27
noncomputable def spigotref41_Add.b := body Tryd.f27
noncomputable def spigotref41_Add.Fn : Fun := fnOf spigotref41_Add.E spigotref41_Add.sg Tryd.f27
noncomputable def spigotref41_Add.F (l : (List Int)) (host : Int) : Option ((List Int) × Int × Unit) := spigotref41_Add.Fn.F (l, host, ())
noncomputable def spigotref41_Add.S1 (l : (List Int)) (host : Int) : St := ⟨[(0, (.v (.slice (.int .u32)) l)), (1, (.v (.int .u32) host))], [], 0, []⟩
noncomputable def spigotref41_Add.L1 (l : (List Int)) (host : Int) : Option ((List Int) × Int × Unit) := res spigotref41_Add.c (atJoin spigotref41_Add.b [1, 0, 1, 1]) (spigotref41_Add.S1 l host)
noncomputable def spigotref41_Add.S2 (l : (List Int)) (host : Int) : St := ⟨[(0, (.v (.slice (.int .u32)) l)), (1, (.v (.int .u32) host))], [], 0, []⟩
noncomputable def spigotref41_Add.L2 (l : (List Int)) (host : Int) : Option ((List Int) × Int × Unit) := res spigotref41_Add.c (atJoin spigotref41_Add.b [1, 1, 0, 1]) (spigotref41_Add.S2 l host)
noncomputable def spigotref41_Add.S3 (l : (List Int)) (host : Int) : St := ⟨[(0, (.v (.slice (.int .u32)) l)), (1, (.v (.int .u32) host))], [], 0, []⟩
noncomputable def spigotref41_Add.L3 (l : (List Int)) (host : Int) : Option ((List Int) × Int × Unit) := res spigotref41_Add.c (atJoin spigotref41_Add.b [1, 1, 1, 0, 1]) (spigotref41_Add.S3 l host)
noncomputable def spigotref41_Add.S4 (l : (List Int)) (host : Int) (at_ : Int) : St := ⟨[(0, (.v (.slice (.int .u32)) l)), (1, (.v (.int .u32) host)), (7, (.v (.int .i64) at_))], [], 0, []⟩
noncomputable def spigotref41_Add.L4 (l : (List Int)) (host : Int) (at_ : Int) : Option ((List Int) × Int × Unit) := res spigotref41_Add.c (atLoop spigotref41_Add.b [1, 1, 1, 1, 1, 0, 0]) (spigotref41_Add.S4 l host at_)
noncomputable def spigotref41_Add.S5 (l : (List Int)) (host : Int) (at_ : Int) : St := ⟨[(0, (.v (.slice (.int .u32)) l)), (1, (.v (.int .u32) host)), (7, (.v (.int .i64) at_))], [], 0, []⟩
noncomputable def spigotref41_Add.L5 (l : (List Int)) (host : Int) (at_ : Int) : Option ((List Int) × Int × Unit) := res spigotref41_Add.c (atJoin spigotref41_Add.b [1, 1, 1, 1, 1, 0, 0, 0, 0, 1]) (spigotref41_Add.S5 l host at_)
theorem spigotref41_Add.spec : FnSpec Tryd.prog globs 27 spigotref41_Add.Fn := spec_of (E := spigotref41_Add.E) (envOk_at tabOk eqOk primsOk (.cons spigotref41_Check.spec <| .cons spigotref41_In.spec <| .nil)) mixOk Tryd.func27 (by kernel_rfl)
theorem spigotref41_Add.L1_eq (l : (List Int)) (host : Int) : spigotref41_Add.L1 l host =
  (spigotref41_In.F l host).bind fun r0 =>
  bif r0.1 then
    some (([] : List Int), 14, ())
  else
    spigotref41_Add.L2 l host := res_eq (by kernel_rfl)
theorem spigotref41_Add.L2_eq (l : (List Int)) (host : Int) : spigotref41_Add.L2 l host =
  bif (((List.length l : Int)) == 12) then
    some (([] : List Int), 4, ())
  else
    spigotref41_Add.L3 l host := res_eq (by kernel_rfl)
theorem spigotref41_Add.L3_eq (l : (List Int)) (host : Int) : spigotref41_Add.L3 l host =
  spigotref41_Add.L4 l host 0 := res_eq (by kernel_rfl)
theorem spigotref41_Add.L4_eq (l : (List Int)) (host : Int) (at_ : Int) : spigotref41_Add.L4 l host at_ =
  bif (decide ((at_ : Int) < ((List.length l : Int)))) then
    bif (decide ((0 : Int) ≤ at_ ∧ (at_ : Int) < ((List.length l : Int)))) then
      bif (decide (((List.getD l (Int.toNat at_) 0) : Int) < host)) then
        spigotref41_Add.L5 l host at_
      else
        bif (decide ((0 : Int) ≤ 0 ∧ (0 : Int) ≤ at_ ∧ (at_ : Int) ≤ ((List.length l : Int)))) then
          bif (lim ((List.length ([] : List Int)) + (List.length (List.take ((Int.toNat at_) - (Int.toNat 0)) (List.drop (Int.toNat 0) l)))) (.int .u32)) then
            bif (lim ((List.length (([] : List Int) ++ (List.take ((Int.toNat at_) - (Int.toNat 0)) (List.drop (Int.toNat 0) l)))) + (List.length ([host] : List Int))) (.int .u32)) then
              bif (decide ((0 : Int) ≤ at_ ∧ (at_ : Int) ≤ ((List.length l : Int)) ∧ (((List.length l : Int)) : Int) ≤ ((List.length l : Int)))) then
                bif (lim ((List.length ((([] : List Int) ++ (List.take ((Int.toNat at_) - (Int.toNat 0)) (List.drop (Int.toNat 0) l))) ++ ([host] : List Int))) + (List.length (List.take ((Int.toNat ((List.length l : Int))) - (Int.toNat at_)) (List.drop (Int.toNat at_) l)))) (.int .u32)) then
                  some ((((([] : List Int) ++ (List.take ((Int.toNat at_) - (Int.toNat 0)) (List.drop (Int.toNat 0) l))) ++ ([host] : List Int)) ++ (List.take ((Int.toNat ((List.length l : Int))) - (Int.toNat at_)) (List.drop (Int.toNat at_) l))), 0, ())
                else none
              else none
            else none
          else none
        else none
    else none
  else
    bif (decide ((0 : Int) ≤ 0 ∧ (0 : Int) ≤ at_ ∧ (at_ : Int) ≤ ((List.length l : Int)))) then
      bif (lim ((List.length ([] : List Int)) + (List.length (List.take ((Int.toNat at_) - (Int.toNat 0)) (List.drop (Int.toNat 0) l)))) (.int .u32)) then
        bif (lim ((List.length (([] : List Int) ++ (List.take ((Int.toNat at_) - (Int.toNat 0)) (List.drop (Int.toNat 0) l)))) + (List.length ([host] : List Int))) (.int .u32)) then
          bif (decide ((0 : Int) ≤ at_ ∧ (at_ : Int) ≤ ((List.length l : Int)) ∧ (((List.length l : Int)) : Int) ≤ ((List.length l : Int)))) then
            bif (lim ((List.length ((([] : List Int) ++ (List.take ((Int.toNat at_) - (Int.toNat 0)) (List.drop (Int.toNat 0) l))) ++ ([host] : List Int))) + (List.length (List.take ((Int.toNat ((List.length l : Int))) - (Int.toNat at_)) (List.drop (Int.toNat at_) l)))) (.int .u32)) then
              some ((((([] : List Int) ++ (List.take ((Int.toNat at_) - (Int.toNat 0)) (List.drop (Int.toNat 0) l))) ++ ([host] : List Int)) ++ (List.take ((Int.toNat ((List.length l : Int))) - (Int.toNat at_)) (List.drop (Int.toNat at_) l))), 0, ())
            else none
          else none
        else none
      else none
    else none := res_eq (by kernel_rfl)
theorem spigotref41_Add.L5_eq (l : (List Int)) (host : Int) (at_ : Int) : spigotref41_Add.L5 l host at_ =
  spigotref41_Add.L4 l host (IntKind.wrap .i64 (at_ + 1)) := res_eq (by kernel_rfl)
theorem spigotref41_Add.F_eq (l : (List Int)) (host : Int) : spigotref41_Add.F l host =
  (spigotref41_Check.F l).bind fun r0 =>
  bif (r0.1 != 0) then
    some (([] : List Int), r0.1, ())
  else
    spigotref41_Add.L1 l host := by kernel_rfl
/-! ### spigot/spigotref41.Drop (28) -/
noncomputable def spigotref41_Drop.sg : Sig := ⟨[.val (.slice (.int .u32)), .val (.int .u32)], [((.slice (.int .u32)), true), ((.int .i64), true)]⟩
noncomputable def spigotref41_Drop.E : Env := ⟨tl, fun i => look i [(16, spigotref41_Check.Fn), (20, spigotref41_In.Fn), (23, spigotref41_Without.Fn)], [], eqs, globs, prims⟩
noncomputable def spigotref41_Drop.c := cxOf spigotref41_Drop.E spigotref41_Drop.sg Tryd.f28
noncomputable def spigotref41_Drop.b := body Tryd.f28
noncomputable def spigotref41_Drop.Fn : Fun := fnOf spigotref41_Drop.E spigotref41_Drop.sg Tryd.f28
noncomputable def spigotref41_Drop.F (l : (List Int)) (host : Int) : Option ((List Int) × Int × Unit) := spigotref41_Drop.Fn.F (l, host, ())
noncomputable def spigotref41_Drop.S1 (l : (List Int)) (host : Int) : St := ⟨[(0, (.v (.slice (.int .u32)) l)), (1, (.v (.int .u32) host))], [], 0, []⟩
noncomputable def spigotref41_Drop.L1 (l : (List Int)) (host : Int) : Option ((List Int) × Int × Unit) := res spigotref41_Drop.c (atJoin spigotref41_Drop.b [1, 0, 1, 1]) (spigotref41_Drop.S1 l host)
noncomputable def spigotref41_Drop.S2 (l : (List Int)) (host : Int) : St := ⟨[(0, (.v (.slice (.int .u32)) l)), (1, (.v (.int .u32) host))], [], 0, []⟩
noncomputable def spigotref41_Drop.L2 (l : (List Int)) (host : Int) : Option ((List Int) × Int × Unit) := res spigotref41_Drop.c (atJoin spigotref41_Drop.b [1, 1, 0, 1]) (spigotref41_Drop.S2 l host)
theorem spigotref41_Drop.spec : FnSpec Tryd.prog globs 28 spigotref41_Drop.Fn := spec_of (E := spigotref41_Drop.E) (envOk_at tabOk eqOk primsOk (.cons spigotref41_Check.spec <| .cons spigotref41_In.spec <| .cons spigotref41_Without.spec <| .nil)) mixOk Tryd.func28 (by kernel_rfl)
theorem spigotref41_Drop.L1_eq (l : (List Int)) (host : Int) : spigotref41_Drop.L1 l host =
  (spigotref41_In.F l host).bind fun r0 =>
  bif (!r0.1) then
    some (([] : List Int), 6, ())
  else
    spigotref41_Drop.L2 l host := res_eq (by kernel_rfl)
theorem spigotref41_Drop.L2_eq (l : (List Int)) (host : Int) : spigotref41_Drop.L2 l host =
  (spigotref41_Without.F l host).bind fun r0 =>
  some (r0.1, 0, ()) := res_eq (by kernel_rfl)
theorem spigotref41_Drop.F_eq (l : (List Int)) (host : Int) : spigotref41_Drop.F l host =
  (spigotref41_Check.F l).bind fun r0 =>
  bif (r0.1 != 0) then
    some (([] : List Int), r0.1, ())
  else
    spigotref41_Drop.L1 l host := by kernel_rfl
/-! ### spigot/spigotref41.listed (45) -/
noncomputable def spigotref41_listed.sg : Sig := ⟨[.val (.slice (.int .u32)), .val (.slice (.int .u32))], [((.int .i64), true)]⟩
noncomputable def spigotref41_listed.E : Env := ⟨tl, fun i => look i [], [], eqs, globs, prims⟩
noncomputable def spigotref41_listed.c := cxOf spigotref41_listed.E spigotref41_listed.sg Tryd.f45
noncomputable def spigotref41_listed.b := body Tryd.f45
noncomputable def spigotref41_listed.Fn : Fun := fnOf spigotref41_listed.E spigotref41_listed.sg Tryd.f45
noncomputable def spigotref41_listed.F (l : (List Int)) (tenants : (List Int)) : Option (Int × Unit) := spigotref41_listed.Fn.F (l, tenants, ())
noncomputable def spigotref41_listed.S1 (l : (List Int)) (tenants : (List Int)) : St := ⟨[(0, (.v (.slice (.int .u32)) l)), (1, (.v (.slice (.int .u32)) tenants))], [], 0, []⟩
noncomputable def spigotref41_listed.L1 (l : (List Int)) (tenants : (List Int)) : Option (Int × Unit) := res spigotref41_listed.c (atJoin spigotref41_listed.b [1, 0, 1]) (spigotref41_listed.S1 l tenants)
noncomputable def spigotref41_listed.S2 : St := ⟨[], [], 0, []⟩
noncomputable def spigotref41_listed.L2 : Option (Int × Unit) := res spigotref41_listed.c (atJoin spigotref41_listed.b [1, 1, 0, 1]) (spigotref41_listed.S2)
theorem spigotref41_listed.spec : FnSpec Tryd.prog globs 45 spigotref41_listed.Fn := spec_of (E := spigotref41_listed.E) (envOk_at tabOk eqOk primsOk (.nil)) mixOk Tryd.func45 (by kernel_rfl)
theorem spigotref41_listed.L1_eq (l : (List Int)) (tenants : (List Int)) : spigotref41_listed.L1 l tenants =
  bif (decide ((((List.length tenants : Int)) : Int) > 0)) then
    bif (((List.length l : Int)) == 0) then
      some (6, ())
    else
      spigotref41_listed.L2
  else
    spigotref41_listed.L2 := res_eq (by kernel_rfl)
theorem spigotref41_listed.L2_eq : spigotref41_listed.L2 =
  some (0, ()) := res_eq (by kernel_rfl)
theorem spigotref41_listed.F_eq (l : (List Int)) (tenants : (List Int)) : spigotref41_listed.F l tenants =
  bif (decide ((((List.length tenants : Int)) : Int) > 100)) then
    some (4, ())
  else
    spigotref41_listed.L1 l tenants := by kernel_rfl
/-! ### spigot/spigotref41.Moved (29) -/
noncomputable def spigotref41_Moved.sg : Sig := ⟨[.val (.slice (.int .u32)), .val (.slice (.int .u32)), .val (.slice (.int .u32))], [((.slice (.int .u32)), true), ((.int .i64), true)]⟩
noncomputable def spigotref41_Moved.E : Env := ⟨tl, fun i => look i [(16, spigotref41_Check.Fn), (36, spigotref41_rank.Fn), (45, spigotref41_listed.Fn)], [], eqs, globs, prims⟩
noncomputable def spigotref41_Moved.c := cxOf spigotref41_Moved.E spigotref41_Moved.sg Tryd.f29
noncomputable def spigotref41_Moved.b := body Tryd.f29
noncomputable def spigotref41_Moved.Fn : Fun := fnOf spigotref41_Moved.E spigotref41_Moved.sg Tryd.f29
noncomputable def spigotref41_Moved.F (a : (List Int)) (b : (List Int)) (tenants : (List Int)) : Option ((List Int) × Int × Unit) := spigotref41_Moved.Fn.F (a, b, tenants, ())
noncomputable def spigotref41_Moved.S1 (a : (List Int)) (b : (List Int)) (tenants : (List Int)) : St := ⟨[(0, (.v (.slice (.int .u32)) a)), (1, (.v (.slice (.int .u32)) b)), (2, (.v (.slice (.int .u32)) tenants))], [], 0, []⟩
noncomputable def spigotref41_Moved.L1 (a : (List Int)) (b : (List Int)) (tenants : (List Int)) : Option ((List Int) × Int × Unit) := res spigotref41_Moved.c (atJoin spigotref41_Moved.b [1, 0, 1, 1]) (spigotref41_Moved.S1 a b tenants)
noncomputable def spigotref41_Moved.S2 (a : (List Int)) (b : (List Int)) (tenants : (List Int)) : St := ⟨[(0, (.v (.slice (.int .u32)) a)), (1, (.v (.slice (.int .u32)) b)), (2, (.v (.slice (.int .u32)) tenants))], [], 0, []⟩
noncomputable def spigotref41_Moved.L2 (a : (List Int)) (b : (List Int)) (tenants : (List Int)) : Option ((List Int) × Int × Unit) := res spigotref41_Moved.c (atJoin spigotref41_Moved.b [1, 1, 0, 1, 1]) (spigotref41_Moved.S2 a b tenants)
noncomputable def spigotref41_Moved.S3 (a : (List Int)) (b : (List Int)) (tenants : (List Int)) : St := ⟨[(0, (.v (.slice (.int .u32)) a)), (1, (.v (.slice (.int .u32)) b)), (2, (.v (.slice (.int .u32)) tenants))], [], 0, []⟩
noncomputable def spigotref41_Moved.L3 (a : (List Int)) (b : (List Int)) (tenants : (List Int)) : Option ((List Int) × Int × Unit) := res spigotref41_Moved.c (atJoin spigotref41_Moved.b [1, 1, 1, 0, 1, 1]) (spigotref41_Moved.S3 a b tenants)
noncomputable def spigotref41_Moved.S4 (a : (List Int)) (b : (List Int)) (tenants : (List Int)) : St := ⟨[(0, (.v (.slice (.int .u32)) a)), (1, (.v (.slice (.int .u32)) b)), (2, (.v (.slice (.int .u32)) tenants))], [], 0, []⟩
noncomputable def spigotref41_Moved.L4 (a : (List Int)) (b : (List Int)) (tenants : (List Int)) : Option ((List Int) × Int × Unit) := res spigotref41_Moved.c (atJoin spigotref41_Moved.b [1, 1, 1, 1, 0, 1, 1]) (spigotref41_Moved.S4 a b tenants)
noncomputable def spigotref41_Moved.S5 (a : (List Int)) (b : (List Int)) (tenants : (List Int)) (i : Int) (l0 : (List Int)) : St := ⟨[(0, (.v (.slice (.int .u32)) a)), (1, (.v (.slice (.int .u32)) b)), (2, (.v (.slice (.int .u32)) tenants)), (12, (.sl 0)), (13, (.v (.int .i64) i))], [(0, some (.row (.int .u32) l0 false))], 1, []⟩
noncomputable def spigotref41_Moved.L5 (a : (List Int)) (b : (List Int)) (tenants : (List Int)) (i : Int) (l0 : (List Int)) : Option ((List Int) × Int × Unit) := res spigotref41_Moved.c (atLoop spigotref41_Moved.b [1, 1, 1, 1, 1, 1, 0, 1, 0]) (spigotref41_Moved.S5 a b tenants i l0)
noncomputable def spigotref41_Moved.S6 (a : (List Int)) (b : (List Int)) (tenants : (List Int)) (i : Int) (l0 : (List Int)) : St := ⟨[(0, (.v (.slice (.int .u32)) a)), (1, (.v (.slice (.int .u32)) b)), (2, (.v (.slice (.int .u32)) tenants)), (12, (.sl 0)), (13, (.v (.int .i64) i))], [(0, some (.row (.int .u32) l0 false))], 1, []⟩
noncomputable def spigotref41_Moved.L6 (a : (List Int)) (b : (List Int)) (tenants : (List Int)) (i : Int) (l0 : (List Int)) : Option ((List Int) × Int × Unit) := res spigotref41_Moved.c (atJoin spigotref41_Moved.b [1, 1, 1, 1, 1, 1, 0, 1, 0, 0, 0, 1]) (spigotref41_Moved.S6 a b tenants i l0)
noncomputable def spigotref41_Moved.S7 (a : (List Int)) (b : (List Int)) (tenants : (List Int)) (i : Int) (l0 : (List Int)) : St := ⟨[(0, (.v (.slice (.int .u32)) a)), (1, (.v (.slice (.int .u32)) b)), (2, (.v (.slice (.int .u32)) tenants)), (12, (.sl 0)), (13, (.v (.int .i64) i))], [(0, some (.row (.int .u32) l0 false))], 1, []⟩
noncomputable def spigotref41_Moved.L7 (a : (List Int)) (b : (List Int)) (tenants : (List Int)) (i : Int) (l0 : (List Int)) : Option ((List Int) × Int × Unit) := res spigotref41_Moved.c (atJoin spigotref41_Moved.b [1, 1, 1, 1, 1, 1, 0, 1, 0, 0, 1, 0, 0, 1]) (spigotref41_Moved.S7 a b tenants i l0)
theorem spigotref41_Moved.spec : FnSpec Tryd.prog globs 29 spigotref41_Moved.Fn := spec_of (E := spigotref41_Moved.E) (envOk_at tabOk eqOk primsOk (.cons spigotref41_Check.spec <| .cons spigotref41_rank.spec <| .cons spigotref41_listed.spec <| .nil)) mixOk Tryd.func29 (by kernel_rfl)
theorem spigotref41_Moved.L1_eq (a : (List Int)) (b : (List Int)) (tenants : (List Int)) : spigotref41_Moved.L1 a b tenants =
  (spigotref41_Check.F b).bind fun r0 =>
  bif (r0.1 != 0) then
    some (([] : List Int), r0.1, ())
  else
    spigotref41_Moved.L2 a b tenants := res_eq (by kernel_rfl)
theorem spigotref41_Moved.L2_eq (a : (List Int)) (b : (List Int)) (tenants : (List Int)) : spigotref41_Moved.L2 a b tenants =
  (spigotref41_listed.F a tenants).bind fun r0 =>
  bif (r0.1 != 0) then
    some (([] : List Int), r0.1, ())
  else
    spigotref41_Moved.L3 a b tenants := res_eq (by kernel_rfl)
theorem spigotref41_Moved.L3_eq (a : (List Int)) (b : (List Int)) (tenants : (List Int)) : spigotref41_Moved.L3 a b tenants =
  (spigotref41_listed.F b tenants).bind fun r0 =>
  bif (r0.1 != 0) then
    some (([] : List Int), r0.1, ())
  else
    spigotref41_Moved.L4 a b tenants := res_eq (by kernel_rfl)
theorem spigotref41_Moved.L4_eq (a : (List Int)) (b : (List Int)) (tenants : (List Int)) : spigotref41_Moved.L4 a b tenants =
  spigotref41_Moved.L5 a b tenants 0 ([] : List Int) := res_eq (by kernel_rfl)
theorem spigotref41_Moved.L5_eq (a : (List Int)) (b : (List Int)) (tenants : (List Int)) (i : Int) (l0 : (List Int)) : spigotref41_Moved.L5 a b tenants i l0 =
  bif (decide ((i : Int) < ((List.length tenants : Int)))) then
    spigotref41_Moved.L6 a b tenants i l0
  else
    some (l0, 0, ()) := res_eq (by kernel_rfl)
theorem spigotref41_Moved.L6_eq (a : (List Int)) (b : (List Int)) (tenants : (List Int)) (i : Int) (l0 : (List Int)) : spigotref41_Moved.L6 a b tenants i l0 =
  bif (decide ((0 : Int) ≤ i ∧ (i : Int) < ((List.length tenants : Int)))) then
    (spigotref41_rank.F a (List.getD tenants (Int.toNat i) 0)).bind fun r0 =>
    bif (decide ((0 : Int) ≤ 0 ∧ (0 : Int) < ((List.length r0.1 : Int)))) then
      bif (decide ((0 : Int) ≤ i ∧ (i : Int) < ((List.length tenants : Int)))) then
        (spigotref41_rank.F b (List.getD tenants (Int.toNat i) 0)).bind fun r1 =>
        bif (decide ((0 : Int) ≤ 0 ∧ (0 : Int) < ((List.length r1.1 : Int)))) then
          bif ((List.getD r0.1 (Int.toNat 0) 0) != (List.getD r1.1 (Int.toNat 0) 0)) then
            bif (decide ((0 : Int) ≤ i ∧ (i : Int) < ((List.length tenants : Int)))) then
              bif (lim ((List.length l0) + (List.length ([(List.getD tenants (Int.toNat i) 0)] : List Int))) (.int .u32)) then
                spigotref41_Moved.L7 a b tenants i (l0 ++ ([(List.getD tenants (Int.toNat i) 0)] : List Int))
              else none
            else none
          else
            spigotref41_Moved.L7 a b tenants i l0
        else none
      else none
    else none
  else none := res_eq (by kernel_rfl)
theorem spigotref41_Moved.L7_eq (a : (List Int)) (b : (List Int)) (tenants : (List Int)) (i : Int) (l0 : (List Int)) : spigotref41_Moved.L7 a b tenants i l0 =
  spigotref41_Moved.L5 a b tenants (IntKind.wrap .i64 (i + 1)) l0 := res_eq (by kernel_rfl)
theorem spigotref41_Moved.F_eq (a : (List Int)) (b : (List Int)) (tenants : (List Int)) : spigotref41_Moved.F a b tenants =
  (spigotref41_Check.F a).bind fun r0 =>
  bif (r0.1 != 0) then
    some (([] : List Int), r0.1, ())
  else
    spigotref41_Moved.L1 a b tenants := by kernel_rfl
/-! ### spigot/spigotref41.Loads (30) -/
noncomputable def spigotref41_Loads.sg : Sig := ⟨[.val (.slice (.int .u32)), .val (.slice (.int .u32))], [((.slice (.int .i64)), true), ((.int .i64), true)]⟩
noncomputable def spigotref41_Loads.E : Env := ⟨tl, fun i => look i [(16, spigotref41_Check.Fn), (36, spigotref41_rank.Fn), (45, spigotref41_listed.Fn)], [], eqs, globs, prims⟩
noncomputable def spigotref41_Loads.c := cxOf spigotref41_Loads.E spigotref41_Loads.sg Tryd.f30
noncomputable def spigotref41_Loads.b := body Tryd.f30
noncomputable def spigotref41_Loads.Fn : Fun := fnOf spigotref41_Loads.E spigotref41_Loads.sg Tryd.f30
noncomputable def spigotref41_Loads.F (l : (List Int)) (tenants : (List Int)) : Option ((List Int) × Int × Unit) := spigotref41_Loads.Fn.F (l, tenants, ())
noncomputable def spigotref41_Loads.S1 (l : (List Int)) (tenants : (List Int)) : St := ⟨[(0, (.v (.slice (.int .u32)) l)), (1, (.v (.slice (.int .u32)) tenants))], [], 0, []⟩
noncomputable def spigotref41_Loads.L1 (l : (List Int)) (tenants : (List Int)) : Option ((List Int) × Int × Unit) := res spigotref41_Loads.c (atJoin spigotref41_Loads.b [1, 0, 1, 1]) (spigotref41_Loads.S1 l tenants)
noncomputable def spigotref41_Loads.S2 (l : (List Int)) (tenants : (List Int)) : St := ⟨[(0, (.v (.slice (.int .u32)) l)), (1, (.v (.slice (.int .u32)) tenants))], [], 0, []⟩
noncomputable def spigotref41_Loads.L2 (l : (List Int)) (tenants : (List Int)) : Option ((List Int) × Int × Unit) := res spigotref41_Loads.c (atJoin spigotref41_Loads.b [1, 1, 0, 1, 1]) (spigotref41_Loads.S2 l tenants)
noncomputable def spigotref41_Loads.S3 (l : (List Int)) (tenants : (List Int)) (i : Int) (l0 : (List Int)) : St := ⟨[(0, (.v (.slice (.int .u32)) l)), (1, (.v (.slice (.int .u32)) tenants)), (8, (.sl 0)), (9, (.v (.int .i64) i))], [(0, some (.row (.int .i64) l0 false))], 1, []⟩
noncomputable def spigotref41_Loads.L3 (l : (List Int)) (tenants : (List Int)) (i : Int) (l0 : (List Int)) : Option ((List Int) × Int × Unit) := res spigotref41_Loads.c (atLoop spigotref41_Loads.b [1, 1, 1, 1, 0, 1, 0]) (spigotref41_Loads.S3 l tenants i l0)
noncomputable def spigotref41_Loads.S4 (l : (List Int)) (tenants : (List Int)) (i : Int) (l0 : (List Int)) : St := ⟨[(0, (.v (.slice (.int .u32)) l)), (1, (.v (.slice (.int .u32)) tenants)), (8, (.sl 0)), (9, (.v (.int .i64) i))], [(0, some (.row (.int .i64) l0 false))], 1, []⟩
noncomputable def spigotref41_Loads.L4 (l : (List Int)) (tenants : (List Int)) (i : Int) (l0 : (List Int)) : Option ((List Int) × Int × Unit) := res spigotref41_Loads.c (atJoin spigotref41_Loads.b [1, 1, 1, 1, 0, 1, 0, 0, 0, 1]) (spigotref41_Loads.S4 l tenants i l0)
noncomputable def spigotref41_Loads.S5 (l : (List Int)) (tenants : (List Int)) (i : Int) (first : Int) (k : Int) (l0 : (List Int)) : St := ⟨[(0, (.v (.slice (.int .u32)) l)), (1, (.v (.slice (.int .u32)) tenants)), (8, (.sl 0)), (9, (.v (.int .i64) i)), (10, (.v (.int .u32) first)), (11, (.v (.int .i64) k))], [(0, some (.row (.int .i64) l0 false))], 1, []⟩
noncomputable def spigotref41_Loads.L5 (l : (List Int)) (tenants : (List Int)) (i : Int) (first : Int) (k : Int) (l0 : (List Int)) : Option ((List Int) × Int × Unit) := res spigotref41_Loads.c (atLoop spigotref41_Loads.b [1, 1, 1, 1, 0, 1, 0, 0, 1, 0, 0, 1, 1, 0]) (spigotref41_Loads.S5 l tenants i first k l0)
noncomputable def spigotref41_Loads.S6 (l : (List Int)) (tenants : (List Int)) (i : Int) (first : Int) (k : Int) (l0 : (List Int)) : St := ⟨[(0, (.v (.slice (.int .u32)) l)), (1, (.v (.slice (.int .u32)) tenants)), (8, (.sl 0)), (9, (.v (.int .i64) i)), (10, (.v (.int .u32) first)), (11, (.v (.int .i64) k))], [(0, some (.row (.int .i64) l0 false))], 1, []⟩
noncomputable def spigotref41_Loads.L6 (l : (List Int)) (tenants : (List Int)) (i : Int) (first : Int) (k : Int) (l0 : (List Int)) : Option ((List Int) × Int × Unit) := res spigotref41_Loads.c (atJoin spigotref41_Loads.b [1, 1, 1, 1, 0, 1, 0, 0, 1, 0, 0, 1, 1, 0, 0, 0, 1]) (spigotref41_Loads.S6 l tenants i first k l0)
noncomputable def spigotref41_Loads.S7 (l : (List Int)) (tenants : (List Int)) (i : Int) (first : Int) (k : Int) (l0 : (List Int)) : St := ⟨[(0, (.v (.slice (.int .u32)) l)), (1, (.v (.slice (.int .u32)) tenants)), (8, (.sl 0)), (9, (.v (.int .i64) i)), (10, (.v (.int .u32) first)), (11, (.v (.int .i64) k))], [(0, some (.row (.int .i64) l0 false))], 1, []⟩
noncomputable def spigotref41_Loads.L7 (l : (List Int)) (tenants : (List Int)) (i : Int) (first : Int) (k : Int) (l0 : (List Int)) : Option ((List Int) × Int × Unit) := res spigotref41_Loads.c (atJoin spigotref41_Loads.b [1, 1, 1, 1, 0, 1, 0, 0, 1, 0, 0, 1, 1, 0, 0, 1, 0, 0, 1]) (spigotref41_Loads.S7 l tenants i first k l0)
theorem spigotref41_Loads.spec : FnSpec Tryd.prog globs 30 spigotref41_Loads.Fn := spec_of (E := spigotref41_Loads.E) (envOk_at tabOk eqOk primsOk (.cons spigotref41_Check.spec <| .cons spigotref41_rank.spec <| .cons spigotref41_listed.spec <| .nil)) mixOk Tryd.func30 (by kernel_rfl)
theorem spigotref41_Loads.L1_eq (l : (List Int)) (tenants : (List Int)) : spigotref41_Loads.L1 l tenants =
  (spigotref41_listed.F l tenants).bind fun r0 =>
  bif (r0.1 != 0) then
    some (([] : List Int), r0.1, ())
  else
    spigotref41_Loads.L2 l tenants := res_eq (by kernel_rfl)
theorem spigotref41_Loads.L2_eq (l : (List Int)) (tenants : (List Int)) : spigotref41_Loads.L2 l tenants =
  bif (decide ((0 : Int) ≤ ((List.length l : Int)) ∧ (((List.length l : Int)) : Int) ≤ ((List.length l : Int))) && (lim (Int.toNat ((List.length l : Int))) (.int .i64))) then
    spigotref41_Loads.L3 l tenants 0 (List.replicate (Int.toNat ((List.length l : Int))) (0 : Int))
  else none := res_eq (by kernel_rfl)
theorem spigotref41_Loads.L3_eq (l : (List Int)) (tenants : (List Int)) (i : Int) (l0 : (List Int)) : spigotref41_Loads.L3 l tenants i l0 =
  bif (decide ((i : Int) < ((List.length tenants : Int)))) then
    spigotref41_Loads.L4 l tenants i l0
  else
    some (l0, 0, ()) := res_eq (by kernel_rfl)
theorem spigotref41_Loads.L4_eq (l : (List Int)) (tenants : (List Int)) (i : Int) (l0 : (List Int)) : spigotref41_Loads.L4 l tenants i l0 =
  bif (decide ((0 : Int) ≤ i ∧ (i : Int) < ((List.length tenants : Int)))) then
    (spigotref41_rank.F l (List.getD tenants (Int.toNat i) 0)).bind fun r0 =>
    bif (decide ((0 : Int) ≤ 0 ∧ (0 : Int) < ((List.length r0.1 : Int)))) then
      spigotref41_Loads.L5 l tenants i (List.getD r0.1 (Int.toNat 0) 0) 0 l0
    else none
  else none := res_eq (by kernel_rfl)
theorem spigotref41_Loads.L5_eq (l : (List Int)) (tenants : (List Int)) (i : Int) (first : Int) (k : Int) (l0 : (List Int)) : spigotref41_Loads.L5 l tenants i first k l0 =
  bif (decide ((k : Int) < ((List.length l : Int)))) then
    spigotref41_Loads.L6 l tenants i first k l0
  else
    spigotref41_Loads.L3 l tenants (IntKind.wrap .i64 (i + 1)) l0 := res_eq (by kernel_rfl)
theorem spigotref41_Loads.L6_eq (l : (List Int)) (tenants : (List Int)) (i : Int) (first : Int) (k : Int) (l0 : (List Int)) : spigotref41_Loads.L6 l tenants i first k l0 =
  bif (decide ((0 : Int) ≤ k ∧ (k : Int) < ((List.length l : Int)))) then
    bif ((List.getD l (Int.toNat k) 0) == first) then
      bif (decide ((0 : Int) ≤ k ∧ (k : Int) < ((List.length l0 : Int)))) then
        bif (decide ((0 : Int) ≤ k ∧ (k : Int) < ((List.length l0 : Int)))) then
          spigotref41_Loads.L7 l tenants i first k (List.set l0 (Int.toNat k) (IntKind.wrap .i64 ((List.getD l0 (Int.toNat k) 0) + 1)))
        else none
      else none
    else
      spigotref41_Loads.L7 l tenants i first k l0
  else none := res_eq (by kernel_rfl)
theorem spigotref41_Loads.L7_eq (l : (List Int)) (tenants : (List Int)) (i : Int) (first : Int) (k : Int) (l0 : (List Int)) : spigotref41_Loads.L7 l tenants i first k l0 =
  spigotref41_Loads.L5 l tenants i first (IntKind.wrap .i64 (k + 1)) l0 := res_eq (by kernel_rfl)
theorem spigotref41_Loads.F_eq (l : (List Int)) (tenants : (List Int)) : spigotref41_Loads.F l tenants =
  (spigotref41_Check.F l).bind fun r0 =>
  bif (r0.1 != 0) then
    some (([] : List Int), r0.1, ())
  else
    spigotref41_Loads.L1 l tenants := by kernel_rfl
/-! ### spigot/spigotlaw41.RingLists (6) -/
noncomputable def spigotlaw41_RingLists.sg : Sig := ⟨[.val (.slice (.int .u32)), .val (.slice (.int .u32)), .val (.slice (.int .u32)), .val (.int .u32)], [(.bool, true)]⟩
noncomputable def spigotlaw41_RingLists.E : Env := ⟨tl, fun i => look i [(9, spigotref41_Great.Fn), (18, spigotref41_Same.Fn), (22, ring_Drop.Fn), (24, ring_Loads.Fn), (25, ring_Moved.Fn), (26, ring_Add.Fn), (27, spigotref41_Add.Fn), (28, spigotref41_Drop.Fn), (29, spigotref41_Moved.Fn), (30, spigotref41_Loads.Fn), (31, spigotref41_SameInts.Fn)], [], eqs, globs, prims⟩
noncomputable def spigotlaw41_RingLists.c := cxOf spigotlaw41_RingLists.E spigotlaw41_RingLists.sg Tryd.f6
noncomputable def spigotlaw41_RingLists.b := body Tryd.f6
noncomputable def spigotlaw41_RingLists.Fn : Fun := fnOf spigotlaw41_RingLists.E spigotlaw41_RingLists.sg Tryd.f6
noncomputable def spigotlaw41_RingLists.F (a : (List Int)) (b : (List Int)) (tenants : (List Int)) (host : Int) : Option (Bool × Unit) := spigotlaw41_RingLists.Fn.F (a, b, tenants, host, ())
noncomputable def spigotlaw41_RingLists.S1 (a : (List Int)) (b : (List Int)) (tenants : (List Int)) (host : Int) : St := ⟨[(0, (.v (.slice (.int .u32)) a)), (1, (.v (.slice (.int .u32)) b)), (2, (.v (.slice (.int .u32)) tenants)), (3, (.v (.int .u32) host))], [], 0, []⟩
noncomputable def spigotlaw41_RingLists.L1 (a : (List Int)) (b : (List Int)) (tenants : (List Int)) (host : Int) : Option (Bool × Unit) := res spigotlaw41_RingLists.c (atJoin spigotlaw41_RingLists.b [1, 0, 1]) (spigotlaw41_RingLists.S1 a b tenants host)
theorem spigotlaw41_RingLists.spec : FnSpec Tryd.prog globs 6 spigotlaw41_RingLists.Fn := spec_of (E := spigotlaw41_RingLists.E) (envOk_at tabOk eqOk primsOk (.cons spigotref41_Great.spec <| .cons spigotref41_Same.spec <| .cons ring_Drop.spec <| .cons ring_Loads.spec <| .cons ring_Moved.spec <| .cons ring_Add.spec <| .cons spigotref41_Add.spec <| .cons spigotref41_Drop.spec <| .cons spigotref41_Moved.spec <| .cons spigotref41_Loads.spec <| .cons spigotref41_SameInts.spec <| .nil)) mixOk Tryd.func6 (by kernel_rfl)
theorem spigotlaw41_RingLists.L1_eq (a : (List Int)) (b : (List Int)) (tenants : (List Int)) (host : Int) : spigotlaw41_RingLists.L1 a b tenants host =
  (ring_Add.F a host).bind fun r0 =>
  (spigotref41_Add.F a host).bind fun r1 =>
  (ring_Drop.F a host).bind fun r2 =>
  (spigotref41_Drop.F a host).bind fun r3 =>
  (ring_Moved.F a b tenants).bind fun r4 =>
  (spigotref41_Moved.F a b tenants).bind fun r5 =>
  (ring_Loads.F a tenants).bind fun r6 =>
  (spigotref41_Loads.F a tenants).bind fun r7 =>
  (spigotref41_Same.F r0.1 r1.1).bind fun r8 =>
  bif r8.1 then
    bif (r0.2.1 == r1.2.1) then
      (spigotref41_Same.F r2.1 r3.1).bind fun r9 =>
      bif r9.1 then
        bif (r2.2.1 == r3.2.1) then
          (spigotref41_Same.F r4.1 r5.1).bind fun r10 =>
          bif r10.1 then
            bif (r4.2.1 == r5.2.1) then
              (spigotref41_SameInts.F r6.1 r7.1).bind fun r11 =>
              bif r11.1 then
                some ((r6.2.1 == r7.2.1), ())
              else
                some (false, ())
            else
              some (false, ())
          else
            some (false, ())
        else
          some (false, ())
      else
        some (false, ())
    else
      some (false, ())
  else
    some (false, ()) := res_eq (by kernel_rfl)
theorem spigotlaw41_RingLists.F_eq (a : (List Int)) (b : (List Int)) (tenants : (List Int)) (host : Int) : spigotlaw41_RingLists.F a b tenants host =
  (spigotref41_Great.F a tenants).bind fun r0 =>
  bif r0.1 then
    some (true, ())
  else
    (spigotref41_Great.F b ([] : List Int)).bind fun r1 =>
    bif r1.1 then
      some (true, ())
    else
      spigotlaw41_RingLists.L1 a b tenants host := by kernel_rfl
end Go.Proofs.YteiekaboepdaeaaDoor.PM
