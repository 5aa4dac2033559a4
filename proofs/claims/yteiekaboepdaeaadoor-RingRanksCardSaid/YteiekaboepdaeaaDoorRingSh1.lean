/- Bits and turns of 32-bit words; one block of a digest: the program's take is the reference's Taken. -/
import Derived.Test.YteiekaboepdaeaaDoorRingP2
namespace Go.Proofs.YteiekaboepdaeaaDoor.RP
set_option linter.unusedSimpArgs false
set_option linter.unusedVariables false
open Go Go.Proofs Go.Proofs.YteiekaboepdaeaaDoor.PM
def U32 (x : Int) : Prop := 0 ≤ x ∧ x < 4294967296
theorem w32 (n : Int) : IntKind.u32.wrap n = n % 4294967296 := by simp [IntKind.wrap, IntKind.bits, IntKind.signed]
theorem w8 (n : Int) : IntKind.u8.wrap n = n % 256 := by simp [IntKind.wrap, IntKind.bits, IntKind.signed]
theorem w32_u32 (n : Int) : U32 (IntKind.u32.wrap n) := by rw [w32]; unfold U32; omega
theorem w32_id {x : Int} (h : U32 x) : IntKind.u32.wrap x = x := by rw [w32]; unfold U32 at h; omega
theorem ofInt32 {x : Int} (h : U32 x) : (BitVec.ofInt 32 x).toNat = x.toNat := by
  rw [BitVec.toNat_ofInt]; unfold U32 at h; omega
theorem bits_u32 (op : BinOp) (x y : Int) : U32 (PM.bits op .u32 x y) := by
  unfold PM.bits; cases op <;> exact w32_u32 _
theorem xor_zero {x : Int} (h : U32 x) : PM.bits .xor .u32 0 x = x := by
  have e : PM.bits .xor .u32 0 x = IntKind.u32.wrap ((BitVec.ofInt 32 0 ^^^ BitVec.ofInt 32 x : BitVec 32).toNat) := rfl
  have z : BitVec.ofInt 32 0 = 0#32 := rfl
  rw [e, z, BitVec.zero_xor, ofInt32 h, w32]
  unfold U32 at h; omega
theorem or_comm32 (x y : Int) : PM.bits .or .u32 x y = PM.bits .or .u32 y x := by
  have e : ∀ x y : Int, PM.bits .or .u32 x y = IntKind.u32.wrap ((BitVec.ofInt 32 x ||| BitVec.ofInt 32 y : BitVec 32).toNat) := fun _ _ => rfl
  rw [e, e, BitVec.or_comm]
theorem or_byte {w b : Int} (hw : 0 ≤ w) (hw2 : w < 16777216) (hb : 0 ≤ b) (hb2 : b < 256) : PM.bits .or .u32 (IntKind.u32.wrap (w * 2 ^ min (Int.toNat 8) (IntKind.bits .u32))) (IntKind.u32.wrap b) = w * 256 + b := by
  have p : (2 : Int) ^ min (Int.toNat 8) (IntKind.bits .u32) = 256 := rfl
  rw [p]
  have e : ∀ x y : Int, PM.bits .or .u32 x y = IntKind.u32.wrap ((BitVec.ofInt 32 x ||| BitVec.ofInt 32 y : BitVec 32).toNat) := fun _ _ => rfl
  have h1 : U32 (w * 256) := ⟨by omega, by omega⟩
  have h2 : U32 b := ⟨hb, by omega⟩
  rw [w32_id h1, w32_id h2, e, BitVec.toNat_or, ofInt32 h1, ofInt32 h2]
  have e2 : (w * 256).toNat = 2 ^ 8 * w.toNat := by omega
  rw [e2, ← Nat.two_pow_add_eq_or_of_lt (by omega : b.toNat < 2 ^ 8), w32]
  omega
/-- A word turned right. -/
def R (n x : Int) : Int := PM.bits .or .u32 (Int.fdiv x (2 ^ min (Int.toNat n) (IntKind.bits .u32))) (IntKind.wrap .u32 (x * 2 ^ min (Int.toNat (IntKind.wrap .i64 (32 - n))) (IntKind.bits .u32)))
theorem turn_F {n : Int} (h0 : 0 ≤ n) (h1 : n ≤ 32) (x : Int) : spigotref05_turn.F x n = some (R n x, ()) := by
  rw [spigotref05_turn.F_eq, bd_pos h0, bd_pos (by rw [W_eq (by omega) (by omega)]; omega)]; rfl
theorem rot_F {k n s : Int} (e1 : PM.bits .and .u64 (IntKind.wrap .u64 k) 31 = s) (e2 : IntKind.wrap .u64 (32 - s) = n) (e3 : IntKind.wrap .i64 (32 - n) = s) (h0 : 0 ≤ s) (h1 : 0 ≤ n) (x : Int) : bits_RotateLeft32.F x k = some (R n x, ()) := by
  rw [bits_RotateLeft32.F_eq, e1, e2, bd_pos h0, bd_pos h1]
  unfold R
  rw [e3, or_comm32]
theorem rot2 (x : Int) : bits_RotateLeft32.F x (IntKind.wrap .i64 (0 - 2)) = some (R 2 x, ()) := rot_F (s := 30) (by decide +kernel) (by decide +kernel) (by decide +kernel) (by decide) (by decide) x
theorem rot6 (x : Int) : bits_RotateLeft32.F x (IntKind.wrap .i64 (0 - 6)) = some (R 6 x, ()) := rot_F (s := 26) (by decide +kernel) (by decide +kernel) (by decide +kernel) (by decide) (by decide) x
theorem rot7 (x : Int) : bits_RotateLeft32.F x (IntKind.wrap .i64 (0 - 7)) = some (R 7 x, ()) := rot_F (s := 25) (by decide +kernel) (by decide +kernel) (by decide +kernel) (by decide) (by decide) x
theorem rot11 (x : Int) : bits_RotateLeft32.F x (IntKind.wrap .i64 (0 - 11)) = some (R 11 x, ()) := rot_F (s := 21) (by decide +kernel) (by decide +kernel) (by decide +kernel) (by decide) (by decide) x
theorem rot13 (x : Int) : bits_RotateLeft32.F x (IntKind.wrap .i64 (0 - 13)) = some (R 13 x, ()) := rot_F (s := 19) (by decide +kernel) (by decide +kernel) (by decide +kernel) (by decide) (by decide) x
theorem rot17 (x : Int) : bits_RotateLeft32.F x (IntKind.wrap .i64 (0 - 17)) = some (R 17 x, ()) := rot_F (s := 15) (by decide +kernel) (by decide +kernel) (by decide +kernel) (by decide) (by decide) x
theorem rot18 (x : Int) : bits_RotateLeft32.F x (IntKind.wrap .i64 (0 - 18)) = some (R 18 x, ()) := rot_F (s := 14) (by decide +kernel) (by decide +kernel) (by decide +kernel) (by decide) (by decide) x
theorem rot19 (x : Int) : bits_RotateLeft32.F x (IntKind.wrap .i64 (0 - 19)) = some (R 19 x, ()) := rot_F (s := 13) (by decide +kernel) (by decide +kernel) (by decide +kernel) (by decide) (by decide) x
theorem rot22 (x : Int) : bits_RotateLeft32.F x (IntKind.wrap .i64 (0 - 22)) = some (R 22 x, ()) := rot_F (s := 10) (by decide +kernel) (by decide +kernel) (by decide +kernel) (by decide) (by decide) x
theorem rot25 (x : Int) : bits_RotateLeft32.F x (IntKind.wrap .i64 (0 - 25)) = some (R 25 x, ()) := rot_F (s := 7) (by decide +kernel) (by decide +kernel) (by decide +kernel) (by decide) (by decide) x
theorem R_u32 (n x : Int) : U32 (R n x) := bits_u32 _ _ _
theorem wi (k : Nat) (h : k ≤ 1000000) : IntKind.wrap .i64 ((k : Int) + 1) = ((k + 1 : Nat) : Int) := by rw [W_eq (by omega) (by omega), cast_add1]
theorem turns2 {x a b : Int} {p q : Int} (h1 : bits_RotateLeft32.F x (IntKind.wrap .i64 (0 - p)) = some (a, ())) (h2 : bits_RotateLeft32.F x (IntKind.wrap .i64 (0 - q)) = some (b, ())) (ha : U32 a) :
    sha_turns.F x [p, q] = some (PM.bits .xor .u32 a b, ()) := by
  have e2 : ((List.length ([p, q] : List Int) : Nat) : Int) = 2 := rfl
  have w1 : IntKind.wrap .i64 ((0 : Int) + 1) = 1 := by rw [W_eq (by omega) (by omega)]; rfl
  have w2 : IntKind.wrap .i64 ((1 : Int) + 1) = 2 := by rw [W_eq (by omega) (by omega)]; rfl
  rw [sha_turns.F_eq, e2, sha_turns.L1_eq, bd_pos (by omega), sha_turns.L2_eq, e2, bd_pos (by omega)]
  show (bits_RotateLeft32.F x (IntKind.wrap .i64 (0 - p))).bind _ = _
  rw [h1, ob, w1]
  show sha_turns.L1 x (PM.bits .xor .u32 0 a) _ _ _ = _
  rw [xor_zero ha, sha_turns.L1_eq, bd_pos (by omega), sha_turns.L2_eq, e2, bd_pos (by omega)]
  show (bits_RotateLeft32.F x (IntKind.wrap .i64 (0 - q))).bind _ = _
  rw [h2, ob, w2, sha_turns.L1_eq, bd_neg (by omega)]
theorem turns3 {x a b c : Int} {p q r : Int} (h1 : bits_RotateLeft32.F x (IntKind.wrap .i64 (0 - p)) = some (a, ())) (h2 : bits_RotateLeft32.F x (IntKind.wrap .i64 (0 - q)) = some (b, ())) (h3 : bits_RotateLeft32.F x (IntKind.wrap .i64 (0 - r)) = some (c, ())) (ha : U32 a) :
    sha_turns.F x [p, q, r] = some (PM.bits .xor .u32 (PM.bits .xor .u32 a b) c, ()) := by
  have e2 : ((List.length ([p, q, r] : List Int) : Nat) : Int) = 3 := rfl
  have w1 : IntKind.wrap .i64 ((0 : Int) + 1) = 1 := by rw [W_eq (by omega) (by omega)]; rfl
  have w2 : IntKind.wrap .i64 ((1 : Int) + 1) = 2 := by rw [W_eq (by omega) (by omega)]; rfl
  have w3 : IntKind.wrap .i64 ((2 : Int) + 1) = 3 := by rw [W_eq (by omega) (by omega)]; rfl
  rw [sha_turns.F_eq, e2, sha_turns.L1_eq, bd_pos (by omega), sha_turns.L2_eq, e2, bd_pos (by omega)]
  show (bits_RotateLeft32.F x (IntKind.wrap .i64 (0 - p))).bind _ = _
  rw [h1, ob, w1]
  show sha_turns.L1 x (PM.bits .xor .u32 0 a) _ _ _ = _
  rw [xor_zero ha, sha_turns.L1_eq, bd_pos (by omega), sha_turns.L2_eq, e2, bd_pos (by omega)]
  show (bits_RotateLeft32.F x (IntKind.wrap .i64 (0 - q))).bind _ = _
  rw [h2, ob, w2, sha_turns.L1_eq, bd_pos (by omega), sha_turns.L2_eq, e2, bd_pos (by omega)]
  show (bits_RotateLeft32.F x (IntKind.wrap .i64 (0 - r))).bind _ = _
  rw [h3, ob, w3, sha_turns.L1_eq, bd_neg (by omega)]
/-- A list with room behind it takes the next. -/
theorem fill_set {P : List Int} {n k : Nat} {x z : Int} (hP : P.length = k) (hk : k < n) : (P ++ List.replicate (n - k) z).set k x = (P ++ [x]) ++ List.replicate (n - (k + 1)) z := by
  subst hP
  rw [List.set_append_right _ _ (Nat.le_refl _), Nat.sub_self, show n - P.length = (n - (P.length + 1)) + 1 by omega, List.replicate_succ, List.set_cons_zero, List.append_assoc]; rfl
theorem fill_get {P : List Int} {n k i : Nat} {z : Int} (hP : P.length = k) (hi : i < k) : (P ++ List.replicate n z).getD i 0 = P.getD i 0 := by
  rw [List.getD, List.getElem?_append_left (by omega)]; rfl
theorem fill_next {P : List Int} {n k : Nat} (hP : P.length = k) (hk : k < n) : (P ++ List.replicate (n - k) (0 : Int)).getD k 0 = 0 := by
  subst hP
  rw [List.getD, List.getElem?_append_right (Nat.le_refl _), Nat.sub_self, show n - P.length = (n - (P.length + 1)) + 1 by omega, List.replicate_succ]; rfl
/-- Word t of a block. -/
def word (b : List Int) (t : Nat) : Int := b.getD (4 * t) 0 * 16777216 + b.getD (4 * t + 1) 0 * 65536 + b.getD (4 * t + 2) 0 * 256 + b.getD (4 * t + 3) 0
theorem word_u32 {b : List Int} (hb : Bytes b) (hl : b.length = 64) {t : Nat} (ht : t < 16) : U32 (word b t) := by
  have g : ∀ i, i < 64 → 0 ≤ b.getD i 0 ∧ b.getD i 0 < 256 := fun i hi => by
    rw [getD_get (by omega)]; exact hb _ (List.getElem_mem _)
  have h0 := g (4 * t) (by omega)
  have h1 := g (4 * t + 1) (by omega)
  have h2 := g (4 * t + 2) (by omega)
  have h3 := g (4 * t + 3) (by omega)
  unfold U32 word; omega
theorem take_word {b h c P : List Int} (hb : Bytes b) (hl : b.length = 64) {t : Nat} (ht : t < 16) (hP : P.length = t) :
    sha_take.L1 b (t : Int) h c (P ++ List.replicate (64 - t) (0 : Int)) = sha_take.L1 b ((t + 1 : Nat) : Int) h c ((P ++ [word b t]) ++ List.replicate (64 - (t + 1)) (0 : Int)) := by
  have g : ∀ i, i < 64 → 0 ≤ b.getD i 0 ∧ b.getD i 0 < 256 := fun i hi => by
    rw [getD_get (by omega)]; exact hb _ (List.getElem_mem _)
  have g0 := g (4 * t) (by omega)
  have g1 := g (4 * t + 1) (by omega)
  have g2 := g (4 * t + 2) (by omega)
  have g3 := g (4 * t + 3) (by omega)
  have ew1 : IntKind.wrap .i64 (4 * (t : Int)) = ((4 * t : Nat) : Int) := by rw [W_eq (by omega) (by omega)]; omega
  have ew2 : IntKind.wrap .i64 (((4 * t : Nat) : Int) + 4) = ((4 * t + 4 : Nat) : Int) := by rw [W_eq (by omega) (by omega)]; omega
  have sl : List.take (4 * t + 4 - 4 * t) (List.drop (4 * t) b) = [b.getD (4 * t) 0, b.getD (4 * t + 1) 0, b.getD (4 * t + 2) 0, b.getD (4 * t + 3) 0] := by
    rw [show 4 * t + 4 - 4 * t = 4 by omega]
    rw [List.drop_eq_getElem_cons (by omega), List.drop_eq_getElem_cons (by omega), List.drop_eq_getElem_cons (by omega), List.drop_eq_getElem_cons (by omega)]
    rw [getD_get (by omega), getD_get (by omega), getD_get (by omega), getD_get (by omega)]; rfl
  have w1 : IntKind.wrap .i64 ((0 : Int) + 1) = 1 := by rw [W_eq (by omega) (by omega)]; rfl
  have w2 : IntKind.wrap .i64 ((1 : Int) + 1) = 2 := by rw [W_eq (by omega) (by omega)]; rfl
  have w3 : IntKind.wrap .i64 ((2 : Int) + 1) = 3 := by rw [W_eq (by omega) (by omega)]; rfl
  have w4 : IntKind.wrap .i64 ((3 : Int) + 1) = 4 := by rw [W_eq (by omega) (by omega)]; rfl
  rw [sha_take.L1_eq, bd_pos (by omega), sha_take.L2_eq, ew1, ew2, bd_pos (by omega), toNat_cast, toNat_cast, sl]
  generalize hx0 : b.getD (4 * t) 0 = x0 at *
  generalize hx1 : b.getD (4 * t + 1) 0 = x1 at *
  generalize hx2 : b.getD (4 * t + 2) 0 = x2 at *
  generalize hx3 : b.getD (4 * t + 3) 0 = x3 at *
  have e4 : ((List.length ([x0, x1, x2, x3] : List Int) : Nat) : Int) = 4 := rfl
  have nx : ∀ y : Int, ((P ++ [y]) ++ List.replicate (64 - (t + 1)) (0 : Int)).getD t 0 = y := fun y => by
    subst hP
    rw [List.append_assoc, List.getD, List.getElem?_append_right (Nat.le_refl _), Nat.sub_self]; rfl
  have st : ∀ y z : Int, ((P ++ [y]) ++ List.replicate (64 - (t + 1)) (0 : Int)).set t z = (P ++ [z]) ++ List.replicate (64 - (t + 1)) (0 : Int) := fun y z => by
    subst hP
    rw [List.append_assoc, List.set_append_right _ _ (Nat.le_refl _), Nat.sub_self, List.append_assoc]; rfl
  rw [e4, sha_take.L9_eq, bd_pos (by omega), sha_take.L10_eq, e4, bd_pos (by omega), bd_pos (by omega), bd_pos (by omega), bd_pos (by omega), w1, toNat_cast, fill_next hP (by omega), fill_set hP (by omega)]
  show sha_take.L9 b t [x0, x1, x2, x3] 4 1 h c ((P ++ [PM.bits .or .u32 (IntKind.u32.wrap (0 * 2 ^ min (Int.toNat 8) (IntKind.bits .u32))) (IntKind.u32.wrap x0)]) ++ List.replicate (64 - (t + 1)) 0) = _
  rw [or_byte (by omega) (by omega) g0.1 g0.2, sha_take.L9_eq, bd_pos (by omega), sha_take.L10_eq, e4, bd_pos (by omega), bd_pos (by omega), bd_pos (by omega), bd_pos (by omega), w2, toNat_cast, nx, st]
  show sha_take.L9 b t [x0, x1, x2, x3] 4 2 h c ((P ++ [PM.bits .or .u32 (IntKind.u32.wrap ((0 * 256 + x0) * 2 ^ min (Int.toNat 8) (IntKind.bits .u32))) (IntKind.u32.wrap x1)]) ++ List.replicate (64 - (t + 1)) 0) = _
  rw [or_byte (by omega) (by omega) g1.1 g1.2, sha_take.L9_eq, bd_pos (by omega), sha_take.L10_eq, e4, bd_pos (by omega), bd_pos (by omega), bd_pos (by omega), bd_pos (by omega), w3, toNat_cast, nx, st]
  show sha_take.L9 b t [x0, x1, x2, x3] 4 3 h c ((P ++ [PM.bits .or .u32 (IntKind.u32.wrap (((0 * 256 + x0) * 256 + x1) * 2 ^ min (Int.toNat 8) (IntKind.bits .u32))) (IntKind.u32.wrap x2)]) ++ List.replicate (64 - (t + 1)) 0) = _
  rw [or_byte (by omega) (by omega) g2.1 g2.2, sha_take.L9_eq, bd_pos (by omega), sha_take.L10_eq, e4, bd_pos (by omega), bd_pos (by omega), bd_pos (by omega), bd_pos (by omega), w4, toNat_cast, nx, st]
  show sha_take.L9 b t [x0, x1, x2, x3] 4 4 h c ((P ++ [PM.bits .or .u32 (IntKind.u32.wrap ((((0 * 256 + x0) * 256 + x1) * 256 + x2) * 2 ^ min (Int.toNat 8) (IntKind.bits .u32))) (IntKind.u32.wrap x3)]) ++ List.replicate (64 - (t + 1)) 0) = _
  rw [or_byte (by omega) (by omega) g3.1 g3.2, sha_take.L9_eq, bd_neg (by omega), wi t (by omega)]
  have : (((0 * 256 + x0) * 256 + x1) * 256 + x2) * 256 + x3 = word b t := by unfold word; rw [hx0, hx1, hx2, hx3]; omega
  rw [this]
/-- The words of a block, the first t. -/
def words (b : List Int) (t : Nat) : List Int := (List.range t).map (word b)
theorem words_len (b : List Int) (t : Nat) : (words b t).length = t := by unfold words; simp
theorem words_succ (b : List Int) (t : Nat) : words b (t + 1) = words b t ++ [word b t] := by unfold words; rw [List.range_succ, List.map_append]; rfl
theorem take_words {b h c : List Int} (hb : Bytes b) (hl : b.length = 64) : ∀ m t : Nat, t + m = 16 → sha_take.L1 b (t : Int) h c (words b t ++ List.replicate (64 - t) (0 : Int)) = sha_take.L3 16 h c (words b 16 ++ List.replicate 48 (0 : Int))
  | 0, t, ht => by
    obtain rfl : t = 16 := by omega
    rw [sha_take.L1_eq, bd_neg (by omega)]
  | m + 1, t, ht => by
    rw [take_word hb hl (by omega) (words_len b t), ← words_succ]
    exact take_words hb hl m (t + 1) (by omega)
theorem taken_words {b h c : List Int} (hb : Bytes b) (hl : b.length = 64) : ∀ m t : Nat, t + m = 16 → spigotref05_Taken.L1 b (t : Int) h c (words b t) = spigotref05_Taken.L3 16 h c (words b 16)
  | 0, t, ht => by
    obtain rfl : t = 16 := by omega
    rw [spigotref05_Taken.L1_eq, bd_neg (by omega)]
  | m + 1, t, ht => by
    have g : ∀ i, i < 64 → 0 ≤ b.getD i 0 ∧ b.getD i 0 < 256 := fun i hi => by
      rw [getD_get (by omega)]; exact hb _ (List.getElem_mem _)
    have g0 := g (4 * t) (by omega)
    have g1 := g (4 * t + 1) (by omega)
    have g2 := g (4 * t + 2) (by omega)
    have g3 := g (4 * t + 3) (by omega)
    have ew1 : IntKind.wrap .i64 (4 * (t : Int)) = ((4 * t : Nat) : Int) := by rw [W_eq (by omega) (by omega)]; omega
    have ew2 : IntKind.wrap .i64 (((4 * t : Nat) : Int) + 1) = ((4 * t + 1 : Nat) : Int) := by rw [W_eq (by omega) (by omega)]; omega
    have ew3 : IntKind.wrap .i64 (((4 * t : Nat) : Int) + 2) = ((4 * t + 2 : Nat) : Int) := by rw [W_eq (by omega) (by omega)]; omega
    have ew4 : IntKind.wrap .i64 (((4 * t : Nat) : Int) + 3) = ((4 * t + 3 : Nat) : Int) := by rw [W_eq (by omega) (by omega)]; omega
    rw [spigotref05_Taken.L1_eq, bd_pos (by omega), spigotref05_Taken.L2_eq, ew1, ew2, ew3, ew4, bd_pos (by omega), bd_pos (by omega), bd_pos (by omega), bd_pos (by omega),
      lim_ok_small (by decide) (by rw [words_len]; simp only [List.length_cons, List.length_nil]; omega), wi t (by omega), toNat_cast, toNat_cast, toNat_cast, toNat_cast]
    have e : IntKind.wrap .u32 ((IntKind.wrap .u32 ((IntKind.wrap .u32 ((IntKind.wrap .u32 ((IntKind.wrap .u32 (b.getD (4 * t) 0)) * 16777216)) + (IntKind.wrap .u32 ((IntKind.wrap .u32 (b.getD (4 * t + 1) 0)) * 65536)))) + (IntKind.wrap .u32 ((IntKind.wrap .u32 (b.getD (4 * t + 2) 0)) * 256)))) + (IntKind.wrap .u32 (b.getD (4 * t + 3) 0))) = word b t := by
      simp only [w32]
      unfold word
      generalize b.getD (4 * t) 0 = x0 at *
      generalize b.getD (4 * t + 1) 0 = x1 at *
      generalize b.getD (4 * t + 2) 0 = x2 at *
      generalize b.getD (4 * t + 3) 0 = x3 at *
      omega
    rw [e, ← words_succ]
    exact taken_words hb hl m (t + 1) (by omega)
/-- The next word of the schedule. -/
def next (l : List Int) (t : Nat) : Int :=
  IntKind.wrap .u32 ((IntKind.wrap .u32 ((IntKind.wrap .u32 (l.getD (t - 16) 0 + l.getD (t - 7) 0)) + (PM.bits .xor .u32 (PM.bits .xor .u32 (R 7 (l.getD (t - 15) 0)) (R 18 (l.getD (t - 15) 0))) (Int.fdiv (l.getD (t - 15) 0) (2 ^ min (Int.toNat 3) (IntKind.bits .u32)))))) + (PM.bits .xor .u32 (PM.bits .xor .u32 (R 17 (l.getD (t - 2) 0)) (R 19 (l.getD (t - 2) 0))) (Int.fdiv (l.getD (t - 2) 0) (2 ^ min (Int.toNat 10) (IntKind.bits .u32)))))
def sched (l : List Int) : Nat → List Int
  | 0 => l
  | m + 1 => sched (l ++ [next l l.length]) m
theorem sched_len : ∀ (m : Nat) (l : List Int), (sched l m).length = l.length + m
  | 0, l => rfl
  | m + 1, l => by
    show (sched (l ++ [next l l.length]) m).length = _
    rw [sched_len m]; simp; omega
theorem take_sched {h c : List Int} : ∀ (m : Nat) (l : List Int), l.length + m = 64 → 16 ≤ l.length → sha_take.L3 (l.length : Int) h c (l ++ List.replicate (64 - l.length) (0 : Int)) = sha_take.L5 0 h c (sched l m) h
  | 0, l, hl, h16 => by
    have e : 64 - l.length = 0 := by omega
    rw [sha_take.L3_eq, bd_neg (by omega), e, List.replicate_zero, List.append_nil]; rfl
  | m + 1, l, hl, h16 => by
    have ew1 : IntKind.wrap .i64 ((l.length : Int) - 15) = ((l.length - 15 : Nat) : Int) := by rw [W_eq (by omega) (by omega)]; omega
    have ew2 : IntKind.wrap .i64 ((l.length : Int) - 2) = ((l.length - 2 : Nat) : Int) := by rw [W_eq (by omega) (by omega)]; omega
    have ew3 : IntKind.wrap .i64 ((l.length : Int) - 16) = ((l.length - 16 : Nat) : Int) := by rw [W_eq (by omega) (by omega)]; omega
    have ew4 : IntKind.wrap .i64 ((l.length : Int) - 7) = ((l.length - 7 : Nat) : Int) := by rw [W_eq (by omega) (by omega)]; omega
    rw [sha_take.L3_eq, bd_pos (by omega), sha_take.L4_eq, ew1, ew2, ew3, ew4, bd_pos (by omega), bd_pos (by omega), bd_pos (by omega), bd_pos (by omega), toNat_cast, toNat_cast, toNat_cast, toNat_cast,
      fill_get (k := l.length) rfl (by omega), fill_get (k := l.length) rfl (by omega), fill_get (k := l.length) rfl (by omega), fill_get (k := l.length) rfl (by omega),
      turns2 (rot7 _) (rot18 _) (R_u32 _ _), ob, bd_pos (by omega), turns2 (rot17 _) (rot19 _) (R_u32 _ _), ob, bd_pos (by omega), bd_pos (by omega), wi l.length (by omega), toNat_cast, fill_set rfl (by omega)]
    have ih := take_sched (h := h) (c := c) m (l ++ [next l l.length]) (by rw [List.length_append, List.length_singleton]; omega) (by rw [List.length_append]; omega)
    rw [List.length_append, List.length_singleton] at ih
    exact ih
theorem taken_sched {h c : List Int} : ∀ (m : Nat) (l : List Int), l.length + m = 64 → 16 ≤ l.length → spigotref05_Taken.L3 (l.length : Int) h c l = spigotref05_Taken.L3 64 h c (sched l m)
  | 0, l, hl, h16 => by
    have e : l.length = 64 := by omega
    rw [e]; rfl
  | m + 1, l, hl, h16 => by
    have ew1 : IntKind.wrap .i64 ((l.length : Int) - 15) = ((l.length - 15 : Nat) : Int) := by rw [W_eq (by omega) (by omega)]; omega
    have ew2 : IntKind.wrap .i64 ((l.length : Int) - 2) = ((l.length - 2 : Nat) : Int) := by rw [W_eq (by omega) (by omega)]; omega
    have ew3 : IntKind.wrap .i64 ((l.length : Int) - 16) = ((l.length - 16 : Nat) : Int) := by rw [W_eq (by omega) (by omega)]; omega
    have ew4 : IntKind.wrap .i64 ((l.length : Int) - 7) = ((l.length - 7 : Nat) : Int) := by rw [W_eq (by omega) (by omega)]; omega
    rw [spigotref05_Taken.L3_eq, bd_pos (by omega), spigotref05_Taken.L4_eq, ew1, ew2, ew3, ew4, bd_pos (by omega), bd_pos (by omega), toNat_cast, toNat_cast, toNat_cast, toNat_cast, turn_F (by omega) (by omega), ob, turn_F (by omega) (by omega), ob, bd_pos (by omega),
      turn_F (by omega) (by omega), ob, turn_F (by omega) (by omega), ob, bd_pos (by omega), bd_pos (by omega), bd_pos (by omega), lim_ok_small (by decide) (by simp only [List.length_cons, List.length_nil]; omega), wi l.length (by omega)]
    have ih := taken_sched (h := h) (c := c) m (l ++ [next l l.length]) (by rw [List.length_append, List.length_singleton]; omega) (by rw [List.length_append]; omega)
    rw [List.length_append, List.length_singleton] at ih
    exact ih
end Go.Proofs.YteiekaboepdaeaaDoor.RP
