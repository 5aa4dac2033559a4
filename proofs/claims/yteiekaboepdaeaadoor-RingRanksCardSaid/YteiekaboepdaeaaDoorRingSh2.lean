/- The digest of nine bytes: the program's Sum is the reference's Of. -/
import Derived.Test.YteiekaboepdaeaaDoorRingSh1
namespace Go.Proofs.YteiekaboepdaeaaDoor.RP
set_option linter.unusedSimpArgs false
set_option linter.unusedVariables false
open Go Go.Proofs Go.Proofs.YteiekaboepdaeaaDoor.PM
def T1 (e f g z k w : Int) : Int := IntKind.wrap .u32 ((IntKind.wrap .u32 ((IntKind.wrap .u32 ((IntKind.wrap .u32 (z + (PM.bits .xor .u32 (PM.bits .xor .u32 (R 6 e) (R 11 e)) (R 25 e)))) + (PM.bits .xor .u32 (PM.bits .and .u32 e f) (PM.bits .and .u32 (PM.bits .xor .u32 (IntKind.max .u32) e) g)))) + k)) + w)
def T2 (a b c : Int) : Int := IntKind.wrap .u32 ((PM.bits .xor .u32 (PM.bits .xor .u32 (R 2 a) (R 13 a)) (R 22 a)) + (PM.bits .xor .u32 (PM.bits .xor .u32 (PM.bits .and .u32 a b) (PM.bits .and .u32 a c)) (PM.bits .and .u32 b c)))
theorem sha_round {h q ws : List Int} {a b c d e f g z : Int} {k : Nat} (hk : k < 64) :
    sha_take.L5 (k : Int) h q ws [a, b, c, d, e, f, g, z] = sha_take.L5 ((k + 1 : Nat) : Int) h q ws [IntKind.wrap .u32 (T1 e f g z (glob2.getD k 0) (ws.getD k 0) + T2 a b c), a, b, c, IntKind.wrap .u32 (d + T1 e f g z (glob2.getD k 0) (ws.getD k 0)), e, f, g] := by
  rw [sha_take.L5_eq, bd_pos (by omega), sha_take.L6_eq, bd_pos (by omega), bd_pos (by omega), bd_pos (by omega), turns3 (rot6 _) (rot11 _) (rot25 _) (R_u32 _ _), ob, bd_pos (by omega), bd_pos (by omega), bd_pos (by omega), bd_pos (by omega),
    turns3 (rot2 _) (rot13 _) (rot22 _) (R_u32 _ _), ob, bd_pos (by omega), bd_pos (by omega), bd_pos (by omega), bd_pos (by omega), bd_pos (by omega), bd_pos (by omega), bd_pos (by omega), bd_pos (by omega), bd_pos (by omega), wi k (by omega), toNat_cast]
  rfl
theorem ref_round {h q ws : List Int} {a b c d e f g z : Int} {k : Nat} (hk : k < 64) (hw : ws.length = 64) :
    spigotref05_Taken.L5 a b c d e f g z (k : Int) h q ws glob2 = spigotref05_Taken.L5 (IntKind.wrap .u32 (T1 e f g z (glob2.getD k 0) (ws.getD k 0) + T2 a b c)) a b c (IntKind.wrap .u32 (d + T1 e f g z (glob2.getD k 0) (ws.getD k 0))) e f g ((k + 1 : Nat) : Int) h q ws glob2 := by
  have hg : (glob2.length : Int) = 64 := rfl
  rw [spigotref05_Taken.L5_eq, bd_pos (by omega), spigotref05_Taken.L6_eq, turn_F (by omega) (by omega), ob, turn_F (by omega) (by omega), ob, turn_F (by omega) (by omega), ob, bd_pos (by omega), bd_pos (by omega),
    turn_F (by omega) (by omega), ob, turn_F (by omega) (by omega), ob, turn_F (by omega) (by omega), ob, wi k (by omega), toNat_cast]
  rfl
theorem rounds {h q q2 ws : List Int} (hw : ws.length = 64) : ∀ (m k : Nat) (a b c d e f g z : Int), k + m = 64 → ∃ a' b' c' d' e' f' g' z' : Int,
    sha_take.L5 (k : Int) h q ws [a, b, c, d, e, f, g, z] = sha_take.L7 0 h q [a', b', c', d', e', f', g', z'] ∧ spigotref05_Taken.L5 a b c d e f g z (k : Int) h q2 ws glob2 = spigotref05_Taken.L5 a' b' c' d' e' f' g' z' 64 h q2 ws glob2
  | 0, k, a, b, c, d, e, f, g, z, hk => by
    obtain rfl : k = 64 := by omega
    refine ⟨a, b, c, d, e, f, g, z, ?_, rfl⟩
    rw [sha_take.L5_eq, bd_neg (by omega)]
  | m + 1, k, a, b, c, d, e, f, g, z, hk => by
    rw [sha_round (by omega), ref_round (by omega) hw]
    exact rounds hw m (k + 1) _ _ _ _ _ _ _ _ (by omega)
theorem nx (k : Nat) (h : k ≤ 100) : IntKind.wrap .i64 ((k : Int) + 1) = ((k + 1 : Nat) : Int) := wi k (by omega)
theorem take_last {q : List Int} {k : Nat} (hk : k < 8) (h v : List Int) : sha_take.L7 (k : Int) h q v = sha_take.L7 ((k + 1 : Nat) : Int) (h.set k (IntKind.wrap .u32 (h.getD k 0 + v.getD k 0))) q v := by
  rw [sha_take.L7_eq, bd_pos (by omega), sha_take.L8_eq, bd_pos (by omega), bd_pos (by omega), bd_pos (by omega), wi k (by omega), toNat_cast]
theorem take_done {q : List Int} {h0 h1 h2 h3 h4 h5 h6 h7 a b c d e f g z : Int} : sha_take.L7 0 [h0, h1, h2, h3, h4, h5, h6, h7] q [a, b, c, d, e, f, g, z] =
    some ([IntKind.wrap .u32 (h0 + a), IntKind.wrap .u32 (h1 + b), IntKind.wrap .u32 (h2 + c), IntKind.wrap .u32 (h3 + d), IntKind.wrap .u32 (h4 + e), IntKind.wrap .u32 (h5 + f), IntKind.wrap .u32 (h6 + g), IntKind.wrap .u32 (h7 + z)], ()) := by
  refine (take_last (k := 0) (by omega) _ _).trans ?_
  refine (take_last (k := 1) (by omega) _ _).trans ?_
  refine (take_last (k := 2) (by omega) _ _).trans ?_
  refine (take_last (k := 3) (by omega) _ _).trans ?_
  refine (take_last (k := 4) (by omega) _ _).trans ?_
  refine (take_last (k := 5) (by omega) _ _).trans ?_
  refine (take_last (k := 6) (by omega) _ _).trans ?_
  refine (take_last (k := 7) (by omega) _ _).trans ?_
  rw [sha_take.L7_eq, bd_neg (by omega)]; rfl
theorem take_eq {b : List Int} {h0 h1 h2 h3 h4 h5 h6 h7 : Int} (hb : Bytes b) (hl : b.length = 64) : ∃ r : List Int, r.length = 8 ∧ sha_take.F [h0, h1, h2, h3, h4, h5, h6, h7] b = some (r, ()) ∧ spigotref05_Taken.F [h0, h1, h2, h3, h4, h5, h6, h7] b = some (r, ()) := by
  have hs : (sched (words b 16) 48).length = 64 := by rw [sched_len, words_len]
  have c0 : spigotref05_constants.F = some (glob2, ()) := by rw [spigotref05_constants.F_eq]; rfl
  obtain ⟨a, b', c, d, e, f, g, z, r1, r2⟩ := rounds (h := [h0, h1, h2, h3, h4, h5, h6, h7]) (q := List.replicate 8 0) (q2 := List.replicate 8 0) hs 64 0 h0 h1 h2 h3 h4 h5 h6 h7 (by omega)
  refine ⟨[IntKind.wrap .u32 (h0 + a), IntKind.wrap .u32 (h1 + b'), IntKind.wrap .u32 (h2 + c), IntKind.wrap .u32 (h3 + d), IntKind.wrap .u32 (h4 + e), IntKind.wrap .u32 (h5 + f), IntKind.wrap .u32 (h6 + g), IntKind.wrap .u32 (h7 + z)], rfl, ?_, ?_⟩
  rotate_left
  · rw [spigotref05_Taken.F_eq]
    have t1 := taken_words (h := [h0, h1, h2, h3, h4, h5, h6, h7]) (c := List.replicate 8 0) hb hl 16 0 (by omega)
    refine t1.trans ?_
    have t2 := taken_sched (h := [h0, h1, h2, h3, h4, h5, h6, h7]) (c := List.replicate 8 0) 48 (words b 16) (by rw [words_len]) (by rw [words_len]; omega)
    rw [words_len] at t2
    refine t2.trans ?_
    rw [spigotref05_Taken.L3_eq, bd_neg (by omega), c0, ob, bd_pos (by omega), bd_pos (by omega), bd_pos (by omega), bd_pos (by omega), bd_pos (by omega), bd_pos (by omega), bd_pos (by omega), bd_pos (by omega)]
    refine r2.trans ?_
    rw [spigotref05_Taken.L5_eq, bd_neg (by omega), bd_pos (by omega), bd_pos (by omega), bd_pos (by omega), bd_pos (by omega), bd_pos (by omega), bd_pos (by omega), bd_pos (by omega), bd_pos (by omega)]
    rfl
  · rw [sha_take.F_eq]
    have t1 := take_words (h := [h0, h1, h2, h3, h4, h5, h6, h7]) (c := List.replicate 8 0) hb hl 16 0 (by omega)
    refine t1.trans ?_
    have t2 := take_sched (h := [h0, h1, h2, h3, h4, h5, h6, h7]) (c := List.replicate 8 0) 48 (words b 16) (by rw [words_len]) (by rw [words_len]; omega)
    rw [words_len] at t2
    refine t2.trans ?_
    refine r1.trans ?_
    exact take_done
/- padding -/
def pb (t : Nat) : Int := IntKind.wrap .u8 (Int.fdiv (IntKind.wrap .u64 ((IntKind.wrap .u64 9) * 2 ^ min (Int.toNat 3) (IntKind.bits .u64))) (2 ^ min (56 - 8 * t) (IntKind.bits .u64)))
theorem pad_loop {P : List Int} (hP : P.length ≤ 100) : ∀ m t : Nat, t + m = 8 → sha_pad.L1 9 (t : Int) (P ++ (List.range t).map pb) = some (P ++ (List.range 8).map pb, ())
  | 0, t, ht => by
    obtain rfl : t = 8 := by omega
    rw [sha_pad.L1_eq, bd_neg (by omega)]
  | m + 1, t, ht => by
    have ew : IntKind.wrap .i64 (8 * (t : Int)) = ((8 * t : Nat) : Int) := by rw [W_eq (by omega) (by omega)]; omega
    have ew2 : IntKind.wrap .i64 (56 - ((8 * t : Nat) : Int)) = ((56 - 8 * t : Nat) : Int) := by rw [W_eq (by omega) (by omega)]; omega
    rw [sha_pad.L1_eq, bd_pos (by omega), sha_pad.L2_eq, ew, ew2, bd_pos (by omega), bd_pos (by omega), lim_ok_small (by decide) (by simp only [List.length_append, List.length_map, List.length_range, List.length_cons, List.length_nil]; omega), wi t (by omega), toNat_cast]
    have e : (P ++ (List.range t).map pb) ++ [pb t] = P ++ (List.range (t + 1)).map pb := by rw [List.range_succ, List.map_append, List.append_assoc]; rfl
    refine Eq.trans (congrArg (sha_pad.L1 9 ((t + 1 : Nat) : Int)) e) ?_
    exact pad_loop hP m (t + 1) (by omega)
def padded : List Int := ([128] ++ List.replicate 46 (0 : Int)) ++ [0, 0, 0, 0, 0, 0, 0, 72]
theorem pad_F : sha_pad.F 9 = some (padded, ()) := by
  have e1 : Int.tmod (IntKind.wrap .i64 (119 - Int.tmod 9 64)) 64 = 46 := by decide +kernel
  rw [sha_pad.F_eq, bd_pos (by omega), bd_pos (by omega), e1, lim_ok (by decide), Bool.and_true, bd_pos (by omega), lim_ok_small (by decide) (by decide)]
  refine (pad_loop (P := [128] ++ List.replicate (Int.toNat 46) (0 : Int)) (by decide) 8 0 (by omega)).trans ?_
  have e2 : (List.range 8).map pb = [0, 0, 0, 0, 0, 0, 0, 72] := by decide +kernel
  rw [e2]; rfl
theorem Padding_zeros : ∀ m j : Nat, j + m = 46 → spigotref05_Padding.L1 9 ([128] ++ List.replicate j (0 : Int)) = spigotref05_Padding.L3 9 7 ([128] ++ List.replicate 46 (0 : Int))
  | m, j, hj => by
    have hl : ((([128] ++ List.replicate j (0 : Int)).length : Nat) : Int) = ((1 + j : Nat) : Int) := by simp; omega
    have ew : IntKind.wrap .i64 (9 + ((1 + j : Nat) : Int)) = ((10 + j : Nat) : Int) := by rw [W_eq (by omega) (by omega)]; omega
    have ew2 : IntKind.wrap .i64 (((10 + j : Nat) : Int) + 8) = ((18 + j : Nat) : Int) := by rw [W_eq (by omega) (by omega)]; omega
    have et : Int.tmod ((18 + j : Nat) : Int) 64 = (((18 + j) % 64 : Nat) : Int) := rfl
    rw [spigotref05_Padding.L1_eq, hl, ew, ew2, et, bd_pos (by omega)]
    cases m with
    | zero =>
      obtain rfl : j = 46 := by omega
      rw [bne_neg (by omega)]
    | succ m =>
      rw [bne_pos (by omega), spigotref05_Padding.L2_eq, lim_ok_small (by decide) (by simp only [List.length_append, List.length_replicate, List.length_cons, List.length_nil]; omega), List.append_assoc, show List.replicate j (0 : Int) ++ [0] = List.replicate (j + 1) 0 from List.replicate_succ'.symm]
      exact Padding_zeros m (j + 1) (by omega)
def qb (t : Nat) : Int := IntKind.wrap .u8 (Int.fdiv (IntKind.wrap .u64 (8 * (IntKind.wrap .u64 9))) (2 ^ min (8 * (7 - t)) (IntKind.bits .u64)))
theorem Padding_loop {P : List Int} (hP : P.length ≤ 100) : ∀ m t : Nat, t + m = 8 → spigotref05_Padding.L3 9 (7 - (t : Int)) (P ++ (List.range t).map qb) = some (P ++ (List.range 8).map qb, ())
  | 0, t, ht => by
    obtain rfl : t = 8 := by omega
    rw [spigotref05_Padding.L3_eq, bd_neg (by omega)]
  | m + 1, t, ht => by
    have ew : IntKind.wrap .i64 (8 * (7 - (t : Int))) = ((8 * (7 - t) : Nat) : Int) := by rw [W_eq (by omega) (by omega)]; omega
    have ew2 : IntKind.wrap .i64 ((7 - (t : Int)) - 1) = 7 - ((t + 1 : Nat) : Int) := by rw [W_eq (by omega) (by omega)]; omega
    rw [spigotref05_Padding.L3_eq, bd_pos (by omega), spigotref05_Padding.L4_eq, ew, ew2, bd_pos (by omega), lim_ok_small (by decide) (by simp only [List.length_append, List.length_map, List.length_range, List.length_cons, List.length_nil]; omega), toNat_cast]
    have e : (P ++ (List.range t).map qb) ++ [qb t] = P ++ (List.range (t + 1)).map qb := by rw [List.range_succ, List.map_append, List.append_assoc]; rfl
    refine Eq.trans (congrArg (spigotref05_Padding.L3 9 (7 - ((t + 1 : Nat) : Int))) e) ?_
    exact Padding_loop hP m (t + 1) (by omega)
theorem Padding_F : spigotref05_Padding.F 9 = some (padded, ()) := by
  rw [spigotref05_Padding.F_eq]
  refine (Padding_zeros 46 0 (by omega)).trans ?_
  refine (Padding_loop (P := [128] ++ List.replicate 46 (0 : Int)) (by decide) 8 0 (by omega)).trans ?_
  have e2 : (List.range 8).map qb = [0, 0, 0, 0, 0, 0, 0, 72] := by decide +kernel
  rw [e2]; rfl
/- digests -/
def db (h : List Int) (p : Nat) : Int := IntKind.wrap .u8 (Int.fdiv (h.getD (p / 4) 0) (2 ^ min (24 - 8 * (p % 4)) (IntKind.bits .u32)))
def fill (h : List Int) (p : Nat) : List Int := (List.range p).map (db h) ++ List.replicate (32 - p) (0 : Int)
theorem fill_succ {h : List Int} {p : Nat} (hp : p < 32) : (fill h p).set p (db h p) = fill h (p + 1) := by
  unfold fill
  rw [fill_set (by simp) hp, List.range_succ, List.map_append]; rfl
theorem fin_in {h : List Int} {i : Nat} (hi : i < 8) : ∀ m j : Nat, j + m = 4 → sha_finish.L3 (i : Int) (h.getD i 0) h (j : Int) (fill h (4 * i + j)) = sha_finish.L1 h ((i + 1 : Nat) : Int) (fill h (4 * i + 4))
  | 0, j, hj => by
    obtain rfl : j = 4 := by omega
    rw [sha_finish.L3_eq, bd_neg (by omega), wi i (by omega)]
  | m + 1, j, hj => by
    have ew : IntKind.wrap .i64 (8 * (j : Int)) = ((8 * j : Nat) : Int) := by rw [W_eq (by omega) (by omega)]; omega
    have ew2 : IntKind.wrap .i64 (24 - ((8 * j : Nat) : Int)) = ((24 - 8 * j : Nat) : Int) := by rw [W_eq (by omega) (by omega)]; omega
    have ew3 : IntKind.wrap .i64 (4 * (i : Int)) = ((4 * i : Nat) : Int) := by rw [W_eq (by omega) (by omega)]; omega
    have ew4 : IntKind.wrap .i64 (((4 * i : Nat) : Int) + (j : Int)) = ((4 * i + j : Nat) : Int) := by rw [W_eq (by omega) (by omega)]; omega
    have e : IntKind.wrap .u8 (Int.fdiv (h.getD i 0) (2 ^ min (24 - 8 * j) (IntKind.bits .u32))) = db h (4 * i + j) := by
      unfold db
      rw [show (4 * i + j) / 4 = i by omega, show (4 * i + j) % 4 = j by omega]
    rw [sha_finish.L3_eq, bd_pos (by omega), sha_finish.L4_eq, ew, ew2, ew3, ew4, bd_pos (by omega), bd_pos (by omega), toNat_cast, toNat_cast, wi j (by omega), e, fill_succ (by omega)]
    exact fin_in hi m (j + 1) (by omega)
theorem fin_out {h : List Int} (hl : h.length = 8) : ∀ m i : Nat, i + m = 8 → sha_finish.L1 h (i : Int) (fill h (4 * i)) = some (fill h 32, ())
  | 0, i, hi => by
    obtain rfl : i = 8 := by omega
    rw [sha_finish.L1_eq, bd_neg (by omega)]
  | m + 1, i, hi => by
    rw [sha_finish.L1_eq, bd_pos (by omega), sha_finish.L2_eq, bd_pos (by omega), toNat_cast]
    refine (fin_in (h := h) (i := i) (by omega) 4 0 (by omega)).trans ?_
    exact fin_out hl m (i + 1) (by omega)
theorem dig_loop {h q : List Int} : ∀ m i : Nat, i + m = 32 → spigotref05_digest.L1 (i : Int) h q (fill h i) = some (fill h 32, ())
  | 0, i, hi => by
    obtain rfl : i = 32 := by omega
    rw [spigotref05_digest.L1_eq, bd_neg (by omega)]
  | m + 1, i, hi => by
    have et : Int.tdiv (i : Int) 4 = ((i / 4 : Nat) : Int) := rfl
    have em : Int.tmod (i : Int) 4 = ((i % 4 : Nat) : Int) := rfl
    have ew : IntKind.wrap .i64 ((i / 4 : Nat) : Int) = ((i / 4 : Nat) : Int) := W_eq (by omega) (by omega)
    have ew1 : IntKind.wrap .i64 (8 * ((i % 4 : Nat) : Int)) = ((8 * (i % 4) : Nat) : Int) := by rw [W_eq (by omega) (by omega)]; omega
    have ew2 : IntKind.wrap .i64 (24 - ((8 * (i % 4) : Nat) : Int)) = ((24 - 8 * (i % 4) : Nat) : Int) := by rw [W_eq (by omega) (by omega)]; omega
    rw [spigotref05_digest.L1_eq, bd_pos (by omega), spigotref05_digest.L2_eq, et, em, ew, ew1, ew2, bd_pos (by omega), bd_pos (by omega), bd_pos (by omega), bd_pos (by omega), bd_pos (by omega), toNat_cast, toNat_cast, toNat_cast, wi i (by omega)]
    refine Eq.trans (congrArg (spigotref05_digest.L1 ((i + 1 : Nat) : Int) h q) (fill_succ (h := h) (p := i) (by omega))) ?_
    exact dig_loop m (i + 1) (by omega)
theorem fill_all (h : List Int) : (fill h 32).length = 32 ∧ Bytes (fill h 32) := by
  unfold fill
  rw [show 32 - 32 = 0 from rfl, List.replicate_zero, List.append_nil]
  refine ⟨by simp, fun x hx => ?_⟩
  obtain ⟨p, _, rfl⟩ := List.mem_map.1 hx
  unfold db; rw [w8]; omega
theorem Concat_F {x y : List Int} (hx : x.length ≤ 1000) (hy : y.length ≤ 1000) : slices_Concat.F [x, y] = some (x ++ y, ()) := by
  have e2 : ((List.length ([x, y] : List (List Int)) : Nat) : Int) = 2 := rfl
  have w1 : IntKind.wrap .i64 ((0 : Int) + 1) = 1 := by rw [W_eq (by omega) (by omega)]; rfl
  have w2 : IntKind.wrap .i64 ((1 : Int) + 1) = 2 := by rw [W_eq (by omega) (by omega)]; rfl
  have g0 : List.getD [x, y] (Int.toNat 0) [] = x := rfl
  have g1 : List.getD [x, y] (Int.toNat 1) [] = y := rfl
  have s0 : IntKind.wrap .i64 (0 + (x.length : Int)) = (x.length : Int) := by rw [W_eq (by omega) (by omega)]; omega
  have s1 : IntKind.wrap .i64 ((x.length : Int) + (y.length : Int)) = ((x.length + y.length : Nat) : Int) := by rw [W_eq (by omega) (by omega)]; omega
  rw [slices_Concat.F_eq, e2, slices_Concat.L1_eq, bd_pos (by omega), slices_Concat.L2_eq, e2, g0, s0, bd_pos (by omega), bd_neg (by omega), slices_Concat.L5_eq, w1, slices_Concat.L1_eq, bd_pos (by omega), slices_Concat.L2_eq, e2, g1, s1, bd_pos (by omega), bd_neg (by omega), slices_Concat.L5_eq, w2,
    slices_Concat.L1_eq, bd_neg (by omega), toNat_cast, lim_ok (by simp [Ty.bytes]; omega), Bool.and_true, bd_pos (by omega), e2, slices_Concat.L3_eq, bd_pos (by omega), slices_Concat.L4_eq, e2, g0, bd_pos (by omega), lim_ok_small (by decide) (by simp only [List.length_nil]; omega), w1, List.nil_append,
    slices_Concat.L3_eq, bd_pos (by omega), slices_Concat.L4_eq, e2, g1, bd_pos (by omega), lim_ok_small (by decide) (by omega), w2, slices_Concat.L3_eq, bd_neg (by omega)]
theorem write_few {h rest b : List Int} {n : Int} (hr : rest.length + b.length < 64) : sha_write.F (h, rest, n, ()) b = some ((h, rest ++ b, IntKind.wrap .i64 (n + (b.length : Int)), ()), ()) := by
  rw [sha_write.F_eq]
  show (slices_Concat.F [rest, b]).bind _ = _
  rw [Concat_F (by omega) (by omega), ob]
  show sha_write.L1 h rest (IntKind.wrap .i64 (n + (b.length : Int))) (List.replicate 8 0) (rest ++ b) [] = _
  rw [sha_write.L1_eq, bd_neg (by rw [List.length_append]; omega), lim_ok_small (by decide) (by rw [List.length_append]; omega)]
theorem write_one {h rest b r : List Int} {n : Int} (hr : rest.length + b.length = 64) (ht : sha_take.F h (rest ++ b) = some (r, ())) : ∃ x, sha_write.F (h, rest, n, ()) b = some ((r, x), ()) := by
  rw [sha_write.F_eq]
  show ∃ x, (slices_Concat.F [rest, b]).bind _ = _
  rw [Concat_F (by omega) (by omega), ob]
  show ∃ x, sha_write.L1 h rest (IntKind.wrap .i64 (n + (b.length : Int))) (List.replicate 8 0) (rest ++ b) [] = _
  have hl : (((rest ++ b).length : Nat) : Int) = 64 := by rw [List.length_append]; omega
  have hs : List.take (Int.toNat 64 - Int.toNat 0) (List.drop (Int.toNat 0) (rest ++ b)) = rest ++ b := by
    show List.take 64 (List.drop 0 (rest ++ b)) = _
    rw [List.drop_zero, List.take_of_length_le (by omega)]
  refine ⟨(List.take 0 (List.drop 64 (rest ++ b)), IntKind.wrap .i64 (n + (b.length : Int)), ()), ?_⟩
  rw [sha_write.L1_eq, hl, bd_pos (by omega), sha_write.L2_eq, hl, bd_pos (by omega), hs, ht, ob, bd_pos (by omega)]
  show sha_write.L3 64 0 r _ _ _ _ _ = _
  rw [sha_write.L3_eq, bd_neg (by omega), lim_ok_small (by decide) (by rw [List.take_zero]; simp)]
theorem sum_eq {b : List Int} (hb : Bytes b) (hl : b.length = 9) : ∃ d : List Int, d.length = 32 ∧ Bytes d ∧ sha_Sum.F b = some (d, 0, ()) ∧ spigotref05_Of.F b = some (d, ()) := by
  have pl : padded.length = 55 := rfl
  have pB : Bytes padded := by
    have : padded.all (fun x => decide (0 ≤ x ∧ x < 256)) = true := by decide +kernel
    exact fun x hx => of_decide_eq_true (p := 0 ≤ x ∧ x < 256) (List.all_eq_true.1 this x hx)
  have hB : Bytes (b ++ padded) := fun x hx => (List.mem_append.1 hx).elim (hb x) (pB x)
  have hL : (b ++ padded).length = 64 := by rw [List.length_append]; omega
  obtain ⟨r, rl, r1, r2⟩ := take_eq (h0 := 1779033703) (h1 := 3144134277) (h2 := 1013904242) (h3 := 2773480762) (h4 := 1359893119) (h5 := 2600822924) (h6 := 528734635) (h7 := 1541459225) hB hL
  refine ⟨fill r 32, (fill_all r).1, (fill_all r).2, ?_, ?_⟩
  · obtain ⟨x, hw⟩ := write_one (n := 9) (h := glob0) (rest := b) (b := padded) (r := r) (by omega) r1
    have w9 : IntKind.wrap .i64 (0 + (b.length : Int)) = 9 := by rw [W_eq (by omega) (by omega)]; omega
    rw [sha_Sum.F_eq, bd_neg (by omega), sha_Sum.L1_eq, sha_Start.F_eq, ob]
    show (sha_write.F (glob0, [], 0, ()) b).bind _ = _
    rw [write_few (by simp; omega), ob, w9, List.nil_append]
    show (sha_finish.F (glob0, b, 9, ())).bind _ = _
    rw [sha_finish.F_eq]
    show ((sha_pad.F 9).bind _).bind _ = _
    rw [pad_F, ob]
    show ((sha_write.F (glob0, b, 9, ()) padded).bind _).bind _ = _
    rw [hw, ob]
    show (sha_finish.L1 r 0 (List.replicate 32 0)).bind _ = _
    have hf := fin_out rl 8 0 (by omega)
    have hf : sha_finish.L1 r 0 (List.replicate 32 0) = _ := hf
    rw [hf, ob]
  · have hp : spigotref05_Padding.F (b.length : Int) = some (padded, ()) := by rw [hl]; exact Padding_F
    have ew : IntKind.wrap .i64 ((0 : Int) + 64) = 64 := by rw [W_eq (by omega) (by omega)]; rfl
    have ew2 : IntKind.wrap .i64 ((64 : Int) + 64) = 128 := by rw [W_eq (by omega) (by omega)]; rfl
    have hs : List.take (Int.toNat 64 - Int.toNat 0) (List.drop (Int.toNat 0) (b ++ padded)) = b ++ padded := by
      show List.take 64 (List.drop 0 (b ++ padded)) = _
      rw [List.drop_zero, List.take_of_length_le (by omega)]
    rw [spigotref05_Of.F_eq, spigotref05_First.F_eq, ob, List.nil_append, lim_ok_small (by decide) (by simp only [List.length_nil]; omega), hp, ob]
    show (bif lim (b.length + padded.length) (.int .u8) then _ else _) = _
    rw [lim_ok_small (by decide) (by omega)]
    show (spigotref05_after.F _ (b ++ padded)).bind _ = _
    rw [spigotref05_after.F_eq, spigotref05_after.L1_eq, ew, bd_pos (by omega), spigotref05_after.L2_eq, ew, bd_pos (by omega), hs]
    show ((spigotref05_Taken.F [1779033703, 3144134277, 1013904242, 2773480762, 1359893119, 2600822924, 528734635, 1541459225] (b ++ padded)).bind _).bind _ = _
    rw [r2, ob]
    show (spigotref05_after.L1 (b ++ padded) 64 r _).bind _ = _
    rw [spigotref05_after.L1_eq, ew2, bd_neg (by omega), ob]
    show (spigotref05_digest.F r).bind _ = _
    rw [spigotref05_digest.F_eq]
    have hd := dig_loop (h := r) (q := List.replicate 32 0) 32 0 (by omega)
    have hd : spigotref05_digest.L1 0 r (List.replicate 32 0) (List.replicate 32 0) = _ := hd
    rw [hd, ob]
/- scores -/
def four (n : Int) : List Int := [(IntKind.wrap .u8 (Int.fdiv n (2 ^ min (Int.toNat 24) (IntKind.bits .u32)))), (IntKind.wrap .u8 (Int.fdiv n (2 ^ min (Int.toNat 16) (IntKind.bits .u32)))), (IntKind.wrap .u8 (Int.fdiv n (2 ^ min (Int.toNat 8) (IntKind.bits .u32)))), (IntKind.wrap .u8 n)]
theorem four_bytes (n : Int) : Bytes (four n) := fun x hx => by
  unfold four at hx
  simp only [List.mem_cons, List.not_mem_nil, or_false] at hx
  rcases hx with rfl | rfl | rfl | rfl <;> (rw [w8]; omega)
/-- What is digested for a host and a tenant. -/
def text (h t : Int) : List Int := ([114] ++ four h) ++ four t
theorem text_ok (h t : Int) : Bytes (text h t) ∧ (text h t).length = 9 := by
  refine ⟨fun x hx => ?_, rfl⟩
  unfold text at hx
  rcases List.mem_append.1 hx with hx | hx
  · rcases List.mem_append.1 hx with hx | hx
    · rw [List.mem_singleton] at hx; omega
    · exact four_bytes h x hx
  · exact four_bytes t x hx
theorem score_all (h t : Int) : ∃ s : List Int, ring_Score.F h t = some (s, 0, ()) ∧ s.length = 32 ∧ Bytes s ∧ spigotref41_Score.F h t = some (s, ()) ∧ sha_Sum.F (text h t) = some (s, 0, ()) := by
  obtain ⟨d, dl, dB, d1, d2⟩ := sum_eq (text_ok h t).1 (text_ok h t).2
  have ff : ∀ n, spigotref41_four.F n = some (four n, ()) := fun n => by rw [spigotref41_four.F_eq, bd_pos (by omega), bd_pos (by omega), bd_pos (by omega)]; rfl
  refine ⟨d, ?_, dl, dB, ?_, d1⟩
  · have e2 : ((List.length ([h, t] : List Int) : Nat) : Int) = 2 := rfl
    have w1 : IntKind.wrap .i64 ((0 : Int) + 1) = 1 := by rw [W_eq (by omega) (by omega)]; rfl
    have w2 : IntKind.wrap .i64 ((1 : Int) + 1) = 2 := by rw [W_eq (by omega) (by omega)]; rfl
    have g0 : List.getD [h, t] (Int.toNat 0) 0 = h := rfl
    have g1 : List.getD [h, t] (Int.toNat 1) 0 = t := rfl
    rw [ring_Score.F_eq, e2, ring_Score.L1_eq, bd_pos (by omega), ring_Score.L2_eq, e2, g0, bd_pos (by omega), bd_pos (by omega), bd_pos (by omega), bd_pos (by omega), lim_ok_small (by decide) (by simp), w1,
      ring_Score.L1_eq, bd_pos (by omega), ring_Score.L2_eq, e2, g1, bd_pos (by omega), bd_pos (by omega), bd_pos (by omega), bd_pos (by omega), lim_ok_small (by decide) (by simp), w2, ring_Score.L1_eq, bd_neg (by omega)]
    show (sha_Sum.F (text h t)).bind _ = _
    rw [d1, ob]
  · rw [spigotref41_Score.F_eq, ff, ob]
    show (bif lim (1 + 4) (.int .u8) then _ else _) = _
    rw [lim_ok_small (by decide) (by decide), ff, ob]
    show (bif lim (5 + 4) (.int .u8) then _ else _) = _
    rw [lim_ok_small (by decide) (by decide)]
    show (spigotref05_Of.F (text h t)).bind _ = _
    rw [d2, ob]
end Go.Proofs.YteiekaboepdaeaaDoor.RP
