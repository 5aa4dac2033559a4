/- One operation of the pure machine, and that the real one does the same: addresses, numbers, new memory. -/
import Derived.Test.YtkihjakbbcajbaaGreatPM7
import Derived.Laws.MakeOwn
import Derived.Laws.StructEq
namespace Go.Proofs.YtkihjakbbcajbaaGreat.PM
set_option linter.unusedSimpArgs false
set_option linter.unusedVariables false
open Go

section
variable {P : Program} {E : Env} {t : TypeId} {g : Gh} {A W : Nat → Prop} {w : World} {h : Hp}
theorem store_ok {τ : TI} (hT : tiB P τ t = true) (hE : E.tab t = some τ) (H : HR g A W w h) {a y : PV} {va vy : Value} (ha : VRel g A w a va) (hy : VRel g A w y vy) {x : PV} {nw : Nat} {h' : Hp} (e : (storeQ E t a y nw).Ok h x h') :
    x = .undef ∧ ∃ g' A' w', (Instr.storeAt t va vy).run P w = .ok () w' ∧ Step g A W w g' A' w' h' := by
  simp only [storeQ, Ok_bind, Ok_get] at e
  obtain ⟨τ', h1, ⟨e1, rfl⟩, y', h2, e2, e3⟩ := e
  rw [hE] at e1; injection e1 with e1; subst e1
  rw [Ok_cond] at e3
  rcases e3 with ⟨hf, e3⟩ | ⟨_, e3⟩
  · obtain ⟨g', S1, hy', _⟩ := seat_ok H hy e2
    obtain ⟨r1, A', w', r2, S2⟩ := put_ok hT S1.hr (ha.mono S1.le (fun _ h => h) (fun _ _ => rfl)) hy' hf e3
    exact ⟨r1, g', A', w', r2, S1.trans S2⟩
  · simp [Q.Ok] at e3
theorem data_out {τ : Ty} {h' : Hp} (e : (E.data t).Ok h τ h') : E.tab t = some (.data τ) ∧ h' = h := by
  unfold Env.data at e
  split at e
  · rename_i τ' he; rw [Ok_ret] at e; exact ⟨by rw [he, e.1], e.2⟩
  · simp [Q.Ok] at e
theorem elem_out {u : Ty} {h' : Hp} (e : (E.elem t).Ok h u h') : E.tab t = some (.data (.slice u)) ∧ h' = h := by
  unfold Env.elem at e
  split at e
  · rename_i τ' he; rw [Ok_ret] at e; exact ⟨by rw [he, e.1], e.2⟩
  · simp [Q.Ok] at e
theorem fld_out : ∀ (τ : Ty) (fs : List Field) (o i : Nat) (u : Ty) (k : Nat), fldB P τ fs o = true → fldTy τ i = some u → fldOff τ i = some k → ∃ f, fs[i]? = some f ∧ f.offset = o + k ∧ tyB P u f.type = true
  | .pair a b, fs, o, 0, u, k, h, e, e' => by
    cases fs with
    | nil => simp [fldB_pair1, fldB_pair0, fldB_unit1, fldB_unit0, fldB_int, fldB_bool, fldB_str, fldB_arr, fldB_slice] at h
    | cons f fs =>
      simp only [fldB_pair1, fldB_pair0, fldB_unit1, fldB_unit0, fldB_int, fldB_bool, fldB_str, fldB_arr, fldB_slice, Bool.and_eq_true] at h
      simp only [fldTy, Option.some.injEq] at e
      simp only [fldOff, Option.some.injEq] at e'
      subst e e'
      exact ⟨f, rfl, Nat.eq_of_beq_eq_true h.1, h.2.1⟩
  | .pair a b, fs, o, i + 1, u, k, h, e, e' => by
    cases fs with
    | nil => simp [fldB_pair1, fldB_pair0, fldB_unit1, fldB_unit0, fldB_int, fldB_bool, fldB_str, fldB_arr, fldB_slice] at h
    | cons f fs =>
      simp only [fldB_pair1, fldB_pair0, fldB_unit1, fldB_unit0, fldB_int, fldB_bool, fldB_str, fldB_arr, fldB_slice, Bool.and_eq_true] at h
      simp only [fldTy] at e
      simp only [fldOff, Option.map_eq_some_iff] at e'
      obtain ⟨k', e1, e2⟩ := e'
      obtain ⟨f', h1, h2, h3⟩ := fld_out b fs (o + a.size) i u k' h.2.2 e e1
      exact ⟨f', by simpa using h1, by omega, h3⟩
  | .int _, _, _, _, _, _, _, e, _ => by simp [fldTy] at e
  | .bool, _, _, _, _, _, _, e, _ => by simp [fldTy] at e
  | .str, _, _, _, _, _, _, e, _ => by simp [fldTy] at e
  | .unit, _, _, _, _, _, _, e, _ => by simp [fldTy] at e
  | .arr _ _, _, _, _, _, _, _, e, _ => by simp [fldTy] at e
  | .slice _, _, _, _, _, _, _, e, _ => by simp [fldTy] at e
theorem struct_out {τ : Ty} {i : Nat} {u : Ty} {k : Nat} (h : tyB P τ t = true) (e : fldTy τ i = some u) (e' : fldOff τ i = some k) : ∃ fs f, P.underlying t = some (.struct fs) ∧ fs[i]? = some f ∧ f.offset = k ∧ tyB P u f.type = true := by
  cases τ with
  | pair a b =>
    simp only [tyB_int, tyB_bool, tyB_str, tyB_unit, tyB_pair, tyB_arr, tyB_slice, Bool.and_eq_true] at h
    obtain ⟨_, h⟩ := h
    split at h
    · rename_i fs hu
      obtain ⟨f, h1, h2, h3⟩ := fld_out _ _ 0 i u k h e e'
      exact ⟨fs, f, hu, by simpa using h1, by omega, h3⟩
    · cases h
  | _ => simp [fldTy] at e
theorem fldGet_rel : ∀ (τ : Ty) (y : τ.den) (i : Nat) (z : (u : Ty) × u.den) (k : Nat) (u : Ty) (c : List Value), fldGet τ y i = some z → fldOff τ i = some k → fldTy τ i = some u → TRel A w τ c y → z.1 = u ∧ ∃ pre ys post, c = pre ++ ys ++ post ∧ pre.length = k ∧ TRel A w z.1 ys z.2
  | .pair a b, y, 0, z, k, u, c, e, e', e'', ⟨c1, d, hc, h1, h2⟩ => by
    simp only [fldGet, Option.some.injEq] at e
    simp only [fldOff, Option.some.injEq] at e'
    simp only [fldTy, Option.some.injEq] at e''
    subst e e' e''
    exact ⟨rfl, [], c1, d, by simpa using hc, rfl, h1⟩
  | .pair a b, y, i + 1, z, k, u, c, e, e', e'', ⟨c1, d, hc, h1, h2⟩ => by
    simp only [fldGet] at e
    simp only [fldTy] at e''
    simp only [fldOff, Option.map_eq_some_iff] at e'
    obtain ⟨k', e1, e2⟩ := e'
    obtain ⟨hz, pre, ys, post, q1, q2, q3⟩ := fldGet_rel b y.2 i z k' u d e e1 e'' h2
    exact ⟨hz, c1 ++ pre, ys, post, by rw [hc, q1]; simp [List.append_assoc], by rw [List.length_append, TRel.len a c1 y.1 h1]; omega, q3⟩
  | .int _, _, _, _, _, _, _, e, _, _, _ => by simp [fldGet] at e
  | .bool, _, _, _, _, _, _, e, _, _, _ => by simp [fldGet] at e
  | .str, _, _, _, _, _, _, e, _, _, _ => by simp [fldGet] at e
  | .unit, _, _, _, _, _, _, e, _, _, _ => by simp [fldGet] at e
  | .arr _ _, _, _, _, _, _, _, e, _, _, _ => by simp [fldGet] at e
  | .slice _, _, _, _, _, _, _, e, _, _, _ => by simp [fldGet] at e
theorem add_add (a : Addr) (m n : Nat) : (a.add m).add n = a.add (m + n) := by
  unfold Addr.add
  by_cases hm : m = 0 <;> by_cases hn : n = 0 <;> simp_all [Nat.add_assoc]
theorem At_sub {a : Addr} {c pre ys post : List Value} {k : Nat} (h : At w a c) (e : c = pre ++ ys ++ post) (hk : pre.length = k) : At w (a.add k) ys := fun j v hj => by
  have hlt : j < ys.length := (List.getElem?_eq_some_iff.1 hj).1
  subst hk
  rw [add_add]
  exact h _ v (by rw [e, List.append_assoc, List.getElem?_append_right (by omega), List.getElem?_append_left (by omega), ← hj]; congr 1; omega)
theorem add_block (a : Addr) (n : Nat) : (a.add n).block = a.block := by unfold Addr.add; split <;> rfl
theorem add_spot (a : Addr) (n : Nat) (h : a.spot = none) : (a.add n).spot = none := by unfold Addr.add; split <;> simp_all
theorem add_at (b o n : Nat) : (Addr.add ⟨b, o, none⟩ n) = ⟨b, o + n, none⟩ := by unfold Addr.add; split <;> simp_all
theorem rel_ptr {id : Nat} {p : List Stp} {v : Value} (h : VRel g A w (.ptr id p) v) : ∃ s b, g id = some s ∧ s.blk = some b ∧ v = .pointer (some ⟨b, poff p, none⟩) ∧ pok s.len p := by
  unfold VRel at h
  simp only [aggP] at h
  unfold PV.rel at h
  obtain ⟨s, b, h1, h2, h3, h4⟩ := h
  injection h3 with h3
  exact ⟨s, b, h1, h2, h3, h4⟩
theorem rel_iptr {u : Ty} {y : u.den} {v : Value} (h : VRel g A w (.iptr u y) v) : ∃ a c, v = .pointer (some a) ∧ a.spot = none ∧ A a.block ∧ At w a c ∧ TRel A w u c y := by
  unfold VRel at h
  simp only [aggP] at h
  unfold PV.rel at h
  obtain ⟨a, c, h1, h2⟩ := h
  injection h1 with h1
  exact ⟨a, c, h1, h2⟩
theorem mk_ptr {id : Nat} {p : List Stp} {s : Slot} {b : Nat} (h1 : g id = some s) (h2 : s.blk = some b) (h3 : pok s.len p) : VRel g A w (.ptr id p) (.pointer (some ⟨b, poff p, none⟩)) := by
  unfold VRel; simp only [aggP]; unfold PV.rel; exact ⟨s, b, h1, h2, rfl, h3⟩
theorem mk_iptr {u : Ty} {y : u.den} {a : Addr} {c : List Value} (h1 : a.spot = none) (h2 : A a.block) (h3 : At w a c) (h4 : TRel A w u c y) : VRel g A w (.iptr u y) (.pointer (some a)) := by
  unfold VRel; simp only [aggP]; unfold PV.rel; exact ⟨a, c, rfl, h1, h2, h3, h4⟩
theorem fieldAddr_ok (hT : tabB P E.tl = true) {x y : PV} {v : Value} {i : Nat} {h' : Hp} (hx : VRel g A w x v) (e : (fieldAddrQ E t x i).Ok h y h') : h' = h ∧ ∃ u, (Instr.fieldAt t v i).run P w = .ok u w ∧ VRel g A w y u := by
  simp only [fieldAddrQ, Ok_bind] at e
  obtain ⟨τ, h1, e1, e⟩ := e
  obtain ⟨hE, rfl⟩ := data_out e1
  have hty : tyB P τ t = true := tabB_look hT hE
  split at e
  · rename_i u o hu ho
    obtain ⟨fs, f, hund, hf, hoff, hft⟩ := struct_out hty hu ho
    simp only [Ok_cond, Ok_fail, and_false, or_false] at e
    obtain ⟨hsz, e⟩ := e
    have hsz := Nat.le_of_ble_eq_true hsz
    have run : ∀ a : Addr, (Instr.fieldAt t (.pointer (some a)) i).run P w = .ok (.pointer (some (a.add o))) w := fun a => by
      have : ¬ u.size = 0 := by omega
      simp [Instr.fieldAt, Instr.sureAddr, run_underlying hund, hf, fieldPlace, run_sizeT w hft, this, hoff]
    cases x with
    | ptr id p =>
      rw [Ok_ret] at e
      obtain ⟨rfl, rfl⟩ := e
      obtain ⟨s, b, r1, r2, rfl, r4⟩ := rel_ptr hx
      refine ⟨rfl, _, run _, ?_⟩
      rw [add_at]
      have := mk_ptr (A := A) (w := w) r1 r2 (pok_append p [.fld i o] r4 trivial)
      rw [poff_append] at this
      simpa [poff, Stp.off] using this
    | iptr v' y' =>
      simp only [Ok_bind, Ok_get] at e
      obtain ⟨y2, h2, ⟨ec, rfl⟩, e⟩ := e
      obtain ⟨rfl, rfl⟩ := cast_some ec
      split at e
      · rename_i z hz
        rw [Ok_ret] at e
        obtain ⟨rfl, rfl⟩ := e
        obtain ⟨a, c, rfl, r2, r3, r4, r5⟩ := rel_iptr hx
        obtain ⟨_, pre, ys, post, q1, q2, q3⟩ := fldGet_rel _ _ i z o u c hz ho hu r5
        refine ⟨rfl, _, run _, ?_⟩
        exact mk_iptr (add_spot a _ r2) (by rw [add_block]; exact r3) (At_sub r4 q1 q2) q3
      · simp [Q.Ok] at e
    | _ => simp [Q.Ok] at e
  · simp [Q.Ok] at e
theorem intOf_out {x : PV} {n : Int} {v : Value} {h' : Hp} (hx : VRel g A w x v) (e : (intOf x).Ok h n h') : h' = h ∧ ∃ k, v = .int k n := by
  unfold intOf at e
  split at e
  · rename_i k m
    rw [Ok_ret] at e
    obtain ⟨rfl, rfl⟩ := e
    unfold VRel at hx; simp only [aggP, Ty.agg] at hx; unfold PV.rel at hx
    injection hx with hx
    exact ⟨rfl, k, hx⟩
  · simp [Q.Ok] at e
theorem slice_und {u : Ty} (h : tyB P (.slice u) t = true) : ∃ e, P.underlying t = some (.slice e) ∧ tyB P u e = true := by
  simp only [tyB_int, tyB_bool, tyB_str, tyB_unit, tyB_pair, tyB_arr, tyB_slice, Bool.and_eq_true] at h
  obtain ⟨_, h⟩ := h
  split at h
  · rename_i e hu; exact ⟨e, hu, h⟩
  · cases h
theorem arr_und {n : Nat} {u : Ty} (h : tyB P (.arr n u) t = true) : ∃ e, P.underlying t = some (.array n e) ∧ tyB P u e = true := by
  simp only [tyB_int, tyB_bool, tyB_str, tyB_unit, tyB_pair, tyB_arr, tyB_slice, Bool.and_eq_true] at h
  obtain ⟨_, h⟩ := h
  split at h
  · rename_i m e hu
    rw [Bool.and_eq_true] at h
    have := Nat.eq_of_beq_eq_true h.1; subst this
    exact ⟨e, hu, h.2⟩
  · cases h
theorem run_idx_slice {u : Ty} (hty : tyB P (.slice u) t = true) {a : Addr} {len cap : Nat} {k : IntKind} {i : Int} (hi : 0 ≤ i ∧ i < len) : (Instr.indexAt t (.slice (some a) len cap) (.int k i)).run P w = .ok (.pointer (some (a.add (i.toNat * u.size)))) w := by
  obtain ⟨e, hu, he⟩ := slice_und hty
  simp [Instr.indexAt, asIntOf, run_underlying hu, hi, run_sizeT w he]
theorem run_idx_arr {n : Nat} {u : Ty} (hty : tyB P (.arr n u) t = true) {a : Addr} {k : IntKind} {i : Int} (hi : 0 ≤ i ∧ i < n) : (Instr.indexAt t (.pointer (some a)) (.int k i)).run P w = .ok (.pointer (some (a.add (i.toNat * u.size)))) w := by
  obtain ⟨e, hu, he⟩ := arr_und hty
  simp [Instr.indexAt, asIntOf, run_underlying hu, Instr.sureAddr, hi, run_sizeT w he]
theorem rel_v {τ : Ty} {y : τ.den} {v : Value} (h : VRel g A w (.v τ y) v) : TRel A w τ v.cells.toList y := by
  have := (VRel.cells h).1; unfold PV.rel at this; exact this
theorem single_of {x : PV} {v : Value} (ha : aggP x = false) (h : VRel g A w x v) : x.rel g A w [v] := by
  unfold VRel at h; rw [ha] at h; exact h
theorem sliceElt_ok (H : HR g A W w h) {u : Ty} (hty : tyB P (.slice u) t = true) {x y : PV} {v : Value} {k : IntKind} {i : Int} {h' : Hp} (hx : VRel g A w x v) (e : (sliceElt u x i).Ok h y h') : h' = h ∧ ∃ z, (Instr.indexAt t v (.int k i)).run P w = .ok z w ∧ VRel g A w y z := by
  cases x with
  | sl id =>
    simp only [sliceElt, Q.Ok] at e
    obtain ⟨B, hb, e⟩ := e
    cases B with
    | box x => simp [Q.Ok] at e
    | row v' xs fz =>
      simp only [Ok_cond, Ok_fail, and_false, or_false, Ok_ask, Ok_ret, decide_eq_true_eq] at e
      obtain ⟨rfl, hi, rfl, rfl⟩ := e
      have hr := single_of rfl hx
      unfold PV.rel at hr
      obtain ⟨s, v0, hg, e0, hv⟩ := hr
      injection e0 with e0; subst e0
      obtain ⟨s', hg', ⟨hlen, hrow⟩, _⟩ := H.blk id _ hb
      rw [hg] at hg'; injection hg' with hg'; subst hg'
      unfold SlV at hv
      cases hs : s.blk with
      | none => rw [hs] at hrow; omega
      | some b =>
        rw [hs] at hv
        subst hv
        refine ⟨rfl, _, run_idx_slice hty (by rw [hlen]; exact hi), ?_⟩
        rw [add_at]
        have hlt : i.toNat < s.len := by omega
        have := mk_ptr (A := A) (w := w) hg hs (show pok s.len [Stp.elt i.toNat u.size] from ⟨hlt, trivial⟩)
        simpa [poff, Stp.off] using this
  | sv id p off len sz n =>
    simp only [sliceElt, Ok_cond, Ok_fail, and_false, or_false, Ok_ask, Ok_ret, decide_eq_true_eq] at e
    obtain ⟨hsz, hi, e⟩ := e
    have hsz := Nat.eq_of_beq_eq_true hsz
    subst hsz
    have hr := single_of rfl hx
    unfold PV.rel at hr
    obtain ⟨s, v0, hg, e0, hpk, hle, hnp, hnb, a, cap, hv, hcap, hz, ha⟩ := hr
    injection e0 with e0; subst e0
    subst hv
    have ha := ha (.inl (by omega))
    cases hs : s.blk with
    | none =>
      obtain ⟨h1, h2, h3⟩ := hnb hs
      subst h3
      rw [if_pos rfl] at hle
      omega
    | some b =>
      rw [hs] at ha
      simp only [Option.map_some] at ha
      subst ha
      rcases e with ⟨hn, rfl, rfl⟩ | ⟨hn, rfl, rfl⟩
      · have hn := Nat.eq_of_beq_eq_true hn
        subst hn
        have := hnp rfl
        subst this
        rw [if_pos rfl] at hle
        refine ⟨rfl, _, run_idx_slice hty hi, ?_⟩
        rw [add_at]
        have hlt : off + i.toNat < s.len := by omega
        have := mk_ptr (A := A) (w := w) hg hs (show pok s.len [Stp.elt (off + i.toNat) u.size] from ⟨hlt, trivial⟩)
        simpa [poff, Stp.off, Nat.add_mul] using this
      · have hn0 : n ≠ 0 := by rintro rfl; simp at hn
        rw [if_neg hn0] at hle
        refine ⟨rfl, _, run_idx_slice hty hi, ?_⟩
        rw [add_at]
        have hlt : off + i.toNat < n := by omega
        have := mk_ptr (A := A) (w := w) (p := p ++ [.idx (off + i.toNat) u.size n]) hg hs (pok_append p [.idx (off + i.toNat) u.size n] hpk ⟨hlt, trivial⟩)
        rw [poff_append] at this
        simpa [poff, Stp.off, Nat.add_mul, Nat.add_assoc] using this
  | v v' xs =>
    simp only [sliceElt, Ok_bind, Ok_get, Ok_ask, Ok_ret, decide_eq_true_eq] at e
    obtain ⟨xs', h1, ⟨ec, rfl⟩, hi, rfl, rfl⟩ := e
    obtain ⟨rfl, _⟩ := cast_some ec
    obtain rfl := cast_self ec
    have hr := single_of rfl hx
    unfold PV.rel at hr
    obtain ⟨a, cap, e0, hcap, hc⟩ := hr
    injection e0 with e0
    subst e0
    have hlt : i.toNat < List.length (α := u.den) xs := by omega
    obtain ⟨ad, rfl, r1, r2, c, r3, r4⟩ := hc (by omega)
    refine ⟨rfl, _, run_idx_slice hty hi, ?_⟩
    have hn := Cat.nth (TRel.len u) r4 hlt
    have h3 := cut3 c (i.toNat * u.size) u.size
    have hl : (c.take (i.toNat * u.size)).length = i.toNat * u.size := by
      rw [List.length_take, Cat.len (TRel.len u) r4]
      exact Nat.min_eq_left (Nat.mul_le_mul_right _ (by omega))
    have := mk_iptr (g := g) (add_spot ad (i.toNat * u.size) r1) (by rw [add_block]; exact r2) (At_sub r3 h3 hl) hn
    rw [← getD_eq (α := u.den) xs i.toNat u.zero hlt] at this
    exact this
  | _ => simp [sliceElt, Q.Ok] at e
theorem arrElt_ok {n : Nat} {u : Ty} (hty : tyB P (.arr n u) t = true) {x y : PV} {v : Value} {k : IntKind} {i : Int} {h' : Hp} (hx : VRel g A w x v) (e : (arrElt n u x i).Ok h y h') : h' = h ∧ ∃ z, (Instr.indexAt t v (.int k i)).run P w = .ok z w ∧ VRel g A w y z := by
  cases x with
  | ptr id p =>
    simp only [arrElt, Ok_ask, Ok_ret, decide_eq_true_eq] at e
    obtain ⟨hi, rfl, rfl⟩ := e
    obtain ⟨s, b, r1, r2, rfl, r4⟩ := rel_ptr hx
    refine ⟨rfl, _, run_idx_arr hty hi, ?_⟩
    rw [add_at]
    have hlt : i.toNat < n := by omega
    have := mk_ptr (A := A) (w := w) r1 r2 (pok_append p [.idx i.toNat u.size n] r4 ⟨hlt, trivial⟩)
    rw [poff_append] at this
    simpa [poff, Stp.off] using this
  | iptr v' xs =>
    simp only [arrElt, Ok_bind, Ok_get, Ok_ask, Ok_ret, decide_eq_true_eq] at e
    obtain ⟨xs', h1, ⟨ec, rfl⟩, hi, rfl, rfl⟩ := e
    obtain ⟨rfl, _⟩ := cast_some ec
    obtain rfl := cast_self ec
    obtain ⟨a, c, rfl, r2, r3, r4, hl, r5⟩ := rel_iptr hx
    refine ⟨rfl, _, run_idx_arr hty hi, ?_⟩
    have hlt : i.toNat < List.length (α := u.den) xs := by rw [hl]; omega
    have hn := Cat.nth (TRel.len u) r5 hlt
    have h3 := cut3 c (i.toNat * u.size) u.size
    have hl' : (c.take (i.toNat * u.size)).length = i.toNat * u.size := by
      rw [List.length_take, Cat.len (TRel.len u) r5]
      exact Nat.min_eq_left (Nat.mul_le_mul_right _ (by omega))
    have := mk_iptr (g := g) (add_spot a (i.toNat * u.size) r2) (by rw [add_block]; exact r3) (At_sub r4 h3 hl') hn
    rw [← getD_eq (α := u.den) xs i.toNat u.zero hlt] at this
    exact this
  | _ => simp [arrElt, Q.Ok] at e
theorem indexAddr_ok (hT : tabB P E.tl = true) (H : HR g A W w h) {x i y : PV} {v vi : Value} {h' : Hp} (hx : VRel g A w x v) (hi : VRel g A w i vi) (e : (indexAddrQ E t x i).Ok h y h') : h' = h ∧ ∃ z, (Instr.indexAt t v vi).run P w = .ok z w ∧ VRel g A w y z := by
  simp only [indexAddrQ, Ok_bind] at e
  obtain ⟨τ, h1, e1, n, h2, e2, e⟩ := e
  obtain ⟨hE, rfl⟩ := data_out e1
  obtain ⟨rfl, k, rfl⟩ := intOf_out hi e2
  have hty : tyB P τ t = true := tabB_look hT hE
  cases τ with
  | slice u => exact sliceElt_ok H hty hx e
  | arr n u => exact arrElt_ok hty hx e
  | _ => simp [Q.Ok] at e
theorem sub_arr {n : Nat} {u : Ty} {cs : List Value} {xs : (Ty.arr n u).den} (h : TRel A w (.arr n u) cs xs) {i : Nat} (hi : i < n) : TRel A w u ((cs.drop (i * u.size)).take u.size) (List.getD (α := u.den) xs i u.zero) := by
  obtain ⟨hl, r⟩ := h
  have hlt : i < List.length (α := u.den) xs := by rw [hl]; exact hi
  rw [getD_eq (α := u.den) xs i u.zero hlt]
  exact Cat.nth (TRel.len u) r hlt
theorem index_ok (hT : tabB P E.tl = true) {x i y : PV} {v vi : Value} {h' : Hp} (hx : VRel g A w x v) (hi : VRel g A w i vi) (e : (indexQ E t x i).Ok h y h') : h' = h ∧ ∃ z, (Instr.index t v vi).run P w = .ok z w ∧ VRel g A w y z := by
  simp only [indexQ, Ok_bind] at e
  obtain ⟨τ, h1, e1, n, h2, e2, e⟩ := e
  obtain ⟨hE, rfl⟩ := data_out e1
  obtain ⟨rfl, k, rfl⟩ := intOf_out hi e2
  have hty : tyB P τ t = true := tabB_look hT hE
  cases τ with
  | arr m u =>
    cases x with
    | v v' xs =>
      simp only [Ok_bind, Ok_get, Ok_ask, Ok_ret, decide_eq_true_eq] at e
      obtain ⟨xs', h3, ⟨ec, rfl⟩, hi', rfl, rfl⟩ := e
      obtain ⟨rfl, _⟩ := cast_some ec
      obtain rfl := cast_self ec
      obtain ⟨e0, hu, he⟩ := arr_und hty
      obtain ⟨cs, rfl, hr⟩ : ∃ cs, v = .agg cs ∧ TRel A w (.arr m u) cs.toList xs := by
        unfold VRel at hx; simp only [aggP, Ty.agg] at hx; unfold PV.rel at hx; exact hx
      have hlt : n.toNat < m := by omega
      have hs := sub_arr hr hlt
      have hlen := TRel.len u _ _ hs
      refine ⟨rfl, ofCells u.agg ((cs.toList.drop (n.toNat * u.size)).take u.size), ?_, ?_⟩
      · cases ha : u.agg with
        | true =>
          have h5 : (Instr.index t (.agg cs) (.int k n)).run P w = .ok (.agg (cs.extract (n.toNat * u.size) (n.toNat * u.size + u.size))) w := by
            simp [Instr.index, asIntOf, run_underlying hu, hi', run_sizeT w he, part, run_isAgg w he, ha]
          rw [h5]
          unfold ofCells
          have hext : cs.extract (n.toNat * u.size) (n.toNat * u.size + u.size) = ((cs.toList.drop (n.toNat * u.size)).take u.size).toArray := by
            apply Array.toList_inj.1
            rw [Array.toList_extract, List.extract_eq_take_drop]
            simp
          rw [hext]; rfl
        | false =>
          have h1 : u.size = 1 := by cases u <;> simp_all [Ty.agg, Ty.size]
          rw [h1] at hlen ⊢
          have hin : n.toNat < cs.size := by
            rw [List.length_take, List.length_drop] at hlen
            simp only [Nat.mul_one, Array.length_toList] at hlen; omega
          have h5 : (Instr.index t (.agg cs) (.int k n)).run P w = .ok cs[n.toNat] w := by
            simp [Instr.index, asIntOf, run_underlying hu, hi', run_sizeT w he, part, run_isAgg w he, ha, h1, hin]
          rw [h5]
          unfold ofCells
          have h6 : (cs.toList.drop (n.toNat * 1)).take 1 = [cs[n.toNat]] := by
            rw [Nat.mul_one, List.drop_eq_getElem_cons (by simpa using hin)]; simp
          rw [h6]; rfl
      · have := VRel.of_cells (g := g) (A := A) (w := w) (mk_rel u _ _ hs)
        rw [isAgg_mk] at this
        exact this
    | _ => simp [Q.Ok] at e
  | _ => simp [Q.Ok] at e
theorem v_int {k : IntKind} {n : Int} {v : Value} (h : VRel g A w (.v (.int k) n) v) : v = .int k n := by
  unfold VRel at h; simp only [aggP, Ty.agg] at h; unfold PV.rel at h; injection h
theorem v_bool {b : Bool} {v : Value} (h : VRel g A w (.v .bool b) v) : v = .bool b := by
  unfold VRel at h; simp only [aggP, Ty.agg] at h; unfold PV.rel at h; injection h
theorem of_int (k : IntKind) (n : Int) : VRel g A w (.v (.int k) n) (.int k n) := by
  unfold VRel; simp only [aggP, Ty.agg]; unfold PV.rel; rfl
theorem of_bool (b : Bool) : VRel g A w (.v .bool b) (.bool b) := by
  unfold VRel; simp only [aggP, Ty.agg]; unfold PV.rel; rfl
theorem binI_ok {op : BinOp} {k : IntKind} {a b : Int} {y : PV} {h' : Hp} (h1 : op ≠ .shl) (h2 : op ≠ .shr) (e : (binI op k a b).Ok h y h') : h' = h ∧ ∃ z, (binOp op t (.int k a) (.int k b)).run P w = .ok z w ∧ VRel g A w y z := by
  cases op with
  | shl => exact absurd rfl h1
  | shr => exact absurd rfl h2
  | quo =>
    simp only [binI, Ok_ask, Ok_ret, decide_eq_true_eq] at e
    obtain ⟨hb, rfl, rfl⟩ := e
    exact ⟨rfl, _, by simp [binOp, Op.intDiv, hb], of_int k _⟩
  | rem =>
    simp only [binI, Ok_ask, Ok_ret, decide_eq_true_eq] at e
    obtain ⟨hb, rfl, rfl⟩ := e
    exact ⟨rfl, _, by simp [binOp, Op.intDiv, hb], of_int k _⟩
  | add => simp only [binI, Ok_ret] at e; obtain ⟨rfl, rfl⟩ := e; exact ⟨rfl, _, by simp [binOp, Op.intArith], of_int k _⟩
  | sub => simp only [binI, Ok_ret] at e; obtain ⟨rfl, rfl⟩ := e; exact ⟨rfl, _, by simp [binOp, Op.intArith], of_int k _⟩
  | mul => simp only [binI, Ok_ret] at e; obtain ⟨rfl, rfl⟩ := e; exact ⟨rfl, _, by simp [binOp, Op.intArith], of_int k _⟩
  | eql => simp only [binI, Ok_ret] at e; obtain ⟨rfl, rfl⟩ := e; exact ⟨rfl, _, by simp [binOp, Op.intCmp], of_bool _⟩
  | neq => simp only [binI, Ok_ret] at e; obtain ⟨rfl, rfl⟩ := e; exact ⟨rfl, _, by simp [binOp, Op.intCmp], of_bool _⟩
  | lss => simp only [binI, Ok_ret] at e; obtain ⟨rfl, rfl⟩ := e; exact ⟨rfl, _, by simp [binOp, Op.intCmp], of_bool _⟩
  | leq => simp only [binI, Ok_ret] at e; obtain ⟨rfl, rfl⟩ := e; exact ⟨rfl, _, by simp [binOp, Op.intCmp], of_bool _⟩
  | gtr => simp only [binI, Ok_ret] at e; obtain ⟨rfl, rfl⟩ := e; exact ⟨rfl, _, by simp [binOp, Op.intCmp], of_bool _⟩
  | geq => simp only [binI, Ok_ret] at e; obtain ⟨rfl, rfl⟩ := e; exact ⟨rfl, _, by simp [binOp, Op.intCmp], of_bool _⟩
  | and => simp only [binI, Ok_ret] at e; obtain ⟨rfl, rfl⟩ := e; exact ⟨rfl, .int k (bits _ k a b), by simp [binOp]; rfl, of_int k _⟩
  | or => simp only [binI, Ok_ret] at e; obtain ⟨rfl, rfl⟩ := e; exact ⟨rfl, .int k (bits _ k a b), by simp [binOp]; rfl, of_int k _⟩
  | xor => simp only [binI, Ok_ret] at e; obtain ⟨rfl, rfl⟩ := e; exact ⟨rfl, .int k (bits _ k a b), by simp [binOp]; rfl, of_int k _⟩
  | andNot => simp only [binI, Ok_ret] at e; obtain ⟨rfl, rfl⟩ := e; exact ⟨rfl, .int k (bits _ k a b), by simp [binOp]; rfl, of_int k _⟩
theorem guard_int (op : BinOp) (t : TypeId) (x y : Operand) (k l : IntKind) (a b : Int) : (eqGuard op t x y (.int k a) (.int l b)).run P w = .ok () w := by
  unfold eqGuard; cases op <;> simp
theorem un_ok {op : UnOp} {x y : PV} {v : Value} {h' : Hp} (hx : VRel g A w x v) (e : (unQ op x).Ok h y h') : h' = h ∧ ∃ z, (Op.unary op v).run P w = .ok z w ∧ VRel g A w y z := by
  unfold unQ at e
  split at e
  · rw [Ok_ret] at e; obtain ⟨rfl, rfl⟩ := e
    rw [v_int hx]; exact ⟨rfl, _, by simp [Op.unary, Op.intArith], of_int _ _⟩
  · rw [Ok_ret] at e; obtain ⟨rfl, rfl⟩ := e
    rw [v_int hx]; exact ⟨rfl, .int _ (bits .xor _ _ _), by simp [Op.unary]; rfl, of_int _ _⟩
  · rw [Ok_ret] at e; obtain ⟨rfl, rfl⟩ := e
    rw [v_bool hx]; exact ⟨rfl, _, by simp [Op.unary], of_bool _⟩
  · simp [Q.Ok] at e
/-- A slice's list, and where its cells are: the elements as they lie in what stays. -/
def Shown (A : Nat → Prop) (w : World) (u : Ty) (v : Value) (ys : List u.den) : Prop :=
  ∃ a cap, v = .slice a ys.length cap ∧ ys.length ≤ cap ∧ (0 < ys.length → ∃ ad : Addr, a = some ad ∧ ad.spot = none ∧ ∃ c, At w ad c ∧ Cat (TRel A w u) c ys)
theorem At_take {a : Addr} {c : List Value} (h : At w a c) (k n : Nat) : At w (a.add k) ((c.drop k).take n) := fun j v hj => by
  rw [add_add]; exact h _ v (sub_getElem hj)
theorem dec_shown (H : HR g A W w h) {u : Ty} {x : PV} {v : Value} {ys : List u.den} {h' : Hp} (hx : VRel g A w x v) (e : (dec (.slice u) x).Ok h ys h') : h' = h ∧ Shown A w u v ys := by
  have hag : ∀ {x : PV}, (dec (.slice u) x).Ok h ys h' → aggP x = false := fun {x} e => by
    cases x with
    | v t z =>
      simp only [dec, Ok_get] at e
      obtain ⟨rfl, _⟩ := cast_some e.1
      rfl
    | agg xs => simp [dec, Q.Ok] at e
    | _ => rfl
  have hr := single_of (hag e) hx
  refine ⟨dec_same _ _ _ _ _ e, ?_⟩
  cases x with
  | v t z =>
    simp only [dec, Ok_get] at e
    obtain ⟨rfl, _⟩ := cast_some e.1
    obtain rfl := cast_self e.1
    unfold PV.rel at hr
    obtain ⟨a, cap, e0, hcap, hc⟩ := hr
    injection e0 with e0
    exact ⟨a, cap, e0, hcap, fun hl => by obtain ⟨ad, h1, h2, _, c, h3, h4⟩ := hc hl; exact ⟨ad, h1, h2, c, h3, h4⟩⟩
  | nils =>
    simp only [dec, Ok_ret] at e
    obtain ⟨rfl, _⟩ := e
    unfold PV.rel at hr
    injection hr with hr
    exact ⟨none, 0, hr, Nat.le_refl _, fun hl => absurd hl (Nat.lt_irrefl 0)⟩
  | sl id =>
    simp only [dec, Q.Ok] at e
    obtain ⟨B, hb, e⟩ := e
    cases B with
    | box x => simp [Q.Ok] at e
    | row t xs fz =>
      simp only [Ok_get] at e
      obtain ⟨ec, _⟩ := cast_some e.1
      injection ec with ec
      subst ec
      obtain rfl := cast_self e.1
      unfold PV.rel at hr
      obtain ⟨s, v0, hg, e0, hv⟩ := hr
      injection e0 with e0; subst e0
      obtain ⟨s', hg', ⟨hlen, hrow⟩, _⟩ := H.blk id _ hb
      rw [hg] at hg'; injection hg' with hg'; subst hg'
      unfold SlV at hv
      cases hs : s.blk with
      | none =>
        rw [hs] at hrow hv
        exact ⟨none, 0, by rw [hv.1, ← hlen, hv.2.1], by omega, fun hl => by omega⟩
      | some b =>
        rw [hs] at hrow hv
        subst hv
        obtain ⟨h3, c, e, h4, h5, h6⟩ := hrow
        refine ⟨_, s.cap, by rw [hlen], by omega, fun _ => ⟨_, rfl, rfl, _, At_block h4 (ys := c.toList.take (s.len * t.size)) (fun j v hj => ?_), h6⟩⟩
        rw [List.getElem?_take] at hj
        split at hj
        · simpa using hj
        · cases hj
  | sv id p off len sz n =>
    simp only [dec, Q.Ok] at e
    obtain ⟨B, hb, e⟩ := e
    unfold PV.rel at hr
    obtain ⟨s, v0, hg, e0, hpk, hle, hnp, hnb, a, cap, hv, hcap, hz, ha⟩ := hr
    injection e0 with e0; subst e0
    subst hv
    cases B with
    | row t xs fz =>
      simp only [Ok_bind, Ok_get] at e
      obtain ⟨zs, h1, ⟨ec0, rfl⟩, e'⟩ := e
      obtain ⟨ec, _⟩ := cast_some ec0
      injection ec with ec
      subst ec
      obtain rfl := cast_self ec0
      cases p with
      | cons q p => simp [Q.Ok] at e'
      | nil =>
        simp only [Ok_cond, Ok_ret, Ok_fail, and_false, or_false, Bool.and_eq_true] at e'
        obtain ⟨⟨e1, e2⟩, rfl, _⟩ := e'
        have e1 := Nat.eq_of_beq_eq_true e1
        have e2 := Nat.eq_of_beq_eq_true e2
        subst e1 e2
        rw [if_pos rfl] at hle
        obtain ⟨s', hg', ⟨hlen, hrow⟩, _⟩ := H.blk id _ hb
        rw [hg] at hg'; injection hg' with hg'; subst hg'
        have hll : ((xs.drop off).take len).length = len := by rw [List.length_take, List.length_drop]; omega
        refine ⟨a, cap, by rw [hll], by rw [hll]; exact hcap, fun hl => ?_⟩
        rw [hll] at hl
        have ha' := ha (.inl hl)
        cases hs : s.blk with
        | none => rw [hs] at hrow; omega
        | some b =>
          rw [hs] at hrow ha'
          obtain ⟨h3, c, e, h4, h5, h6⟩ := hrow
          refine ⟨_, ha', rfl, _, At_block h4 (ys := ((c.toList.take (s.len * t.size)).drop (off * t.size)).take (len * t.size)) (fun j v hj => ?_), arr_take h6 off len (by omega)⟩
          have hj' := sub_getElem hj
          rw [List.getElem?_take] at hj'
          split at hj'
          · simpa [poff] using hj'
          · cases hj'
    | box x =>
      simp only at e
      split at e
      · rename_i m t xs hp
        simp only [Ok_cond, Ok_bind, Ok_get, Ok_ret, Ok_fail, and_false, or_false, Bool.and_eq_true] at e
        obtain ⟨⟨⟨e1, e2⟩, e3⟩, zs, h1, ⟨ec0, rfl⟩, rfl, _⟩ := e
        obtain ⟨ec, _⟩ := cast_some ec0
        injection ec with ec
        subst ec
        obtain rfl := cast_self ec0
        have e1 := Nat.eq_of_beq_eq_true e1
        have e2 := Nat.eq_of_beq_eq_true e2
        subst e1 e2
        have hm : m ≠ 0 := by rintro rfl; simp at e3
        rw [if_neg hm] at hle
        obtain ⟨s', b, c, ty, hg', hs, hh, hx'⟩ := H.blk id _ hb
        rw [hg] at hg'; injection hg' with hg'; subst hg'
        obtain ⟨pre, zs, post, q1, q2, q3⟩ := getP_rel p x _ _ hx' hpk hp
        unfold PV.rel at q3
        obtain ⟨hl0, hcat⟩ := q3
        have hll : ((List.drop (α := t.den) off xs).take len).length = len := by rw [List.length_take, List.length_drop]; omega
        refine ⟨a, cap, by rw [hll], by rw [hll]; exact hcap, fun hl => ?_⟩
        rw [hll] at hl
        have ha' := ha (.inl hl)
        rw [hs] at ha'
        refine ⟨_, ha', rfl, _, At_block hh (ys := (zs.drop (off * t.size)).take (len * t.size)) (fun j v hj => ?_), arr_take hcat off len (by omega)⟩
        have hj' := sub_getElem hj
        have hlt : off * t.size + j < zs.length := (List.getElem?_eq_some_iff.1 hj').1
        have : c.toList[poff p + off * t.size + j]? = some v := by
          rw [q1, List.append_assoc, List.getElem?_append_right (by omega), List.getElem?_append_left (by omega), ← hj']
          congr 1; omega
        simpa using this
      · simp [Q.Ok] at e
  | _ => simp [dec, Q.Ok] at e
end
end Go.Proofs.YtkihjakbbcajbaaGreat.PM
