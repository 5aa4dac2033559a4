/- One operation of the pure machine: conversions, copy, clear, least and greatest. -/
import Derived.Test.YtjmgelpeonodgaaPM13
import Derived.Laws.BytesString
namespace Go.Proofs.Ytjmgelpeonodgaa.PM
set_option linter.unusedSimpArgs false
set_option linter.unusedVariables false
open Go

section
variable {P : Program} {E : Env} {t : TypeId} {g : Gh} {A W : Nat → Prop} {w : World} {h : Hp}
theorem tyB_und {τ : Ty} (h : tyB P τ t = true) : ∃ d, P.underlying t = some d := by
  cases hu : P.underlying t with
  | some d => exact ⟨d, rfl⟩
  | none => cases τ <;> simp [tyB_int, tyB_bool, tyB_str, tyB_unit, tyB_pair, tyB_arr, tyB_slice, hu] at h
theorem und_int {k : IntKind} (h : tyB P (.int k) t = true) : P.underlying t = some (.int k) := by
  simp only [tyB_int, tyB_bool, tyB_str, tyB_unit, tyB_pair, tyB_arr, tyB_slice, Bool.and_eq_true] at h
  have h2 := h.2
  split at h2
  · rename_i j hj; rw [hj, of_decide_eq_true h2]
  · cases h2
theorem und_str (h : tyB P .str t = true) : P.underlying t = some .string := by
  simp only [tyB_int, tyB_bool, tyB_str, tyB_unit, tyB_pair, tyB_arr, tyB_slice, Bool.and_eq_true] at h
  have h2 := h.2
  split at h2
  · assumption
  · cases h2
theorem cat_int {k : IntKind} : ∀ (ys : List Int) (c : List Value), Cat (TRel A w (.int k)) c ys → c = ys.map (.int k)
  | [], c, h => h
  | y :: ys, c, h => by
    obtain ⟨c1, c2, rfl, h1, h2⟩ := h
    have h1 : c1 = [.int k y] := h1
    rw [h1, cat_int ys c2 h2]; rfl
theorem push_all : ∀ (ns : List Int) (r : ByteArray), (ns.foldl (fun r n => r.push (UInt8.ofNat n.toNat)) r).data.toList = r.data.toList ++ ns.map fun n => UInt8.ofNat n.toNat
  | [], r => by simp
  | n :: ns, r => by
    rw [List.foldl_cons, push_all ns]
    simp [ByteArray.push]
theorem of_str (s : ByteArray) : VRel g A w (.v .str s.data.toList) (.string s) := by
  unfold VRel; simp only [aggP, Ty.agg]; unfold PV.rel TRel; exact ⟨s, rfl, rfl⟩
theorem conv_ok (hT : tabB P E.tl = true) (H : HR g A W w h) {src dst : TypeId} {x y : PV} {v : Value} {h' : Hp} (hx : VRel g A w x v) (e : (convQ E src dst x).Ok h y h') : h' = h ∧ ∃ z, (convert src dst v).run P w = .ok z w ∧ VRel g A w y z := by
  simp only [convQ, Ok_bind] at e
  obtain ⟨σ, h1, e1, τ, h2, e2, e⟩ := e
  obtain ⟨hE1, rfl⟩ := data_out e1
  obtain ⟨hE2, rfl⟩ := data_out e2
  have hts : tyB P σ src = true := tabB_look hT hE1
  have htd : tyB P τ dst = true := tabB_look hT hE2
  split at e
  · rename_i k
    split at e
    · rename_i n
      rw [Ok_ret] at e; obtain ⟨rfl, rfl⟩ := e
      obtain rfl := v_int hx
      obtain ⟨d, hd⟩ := tyB_und hts
      have hk := und_int htd
      exact ⟨rfl, _, by simp [convert, run_underlying hd, run_underlying hk, Conv.intToInt], of_int _ _⟩
    · exact e.elim
  · rw [Ok_cond, decide_eq_true_eq] at e
    rcases e with ⟨rfl, e⟩ | ⟨_, e⟩
    · rw [Ok_bind] at e
      obtain ⟨b, h3, e3, e⟩ := e
      rw [Ok_ret] at e; obtain ⟨rfl, rfl⟩ := e
      obtain ⟨rfl, a, cap, rfl, hcap, hc⟩ := dec_shown H hx e3
      obtain ⟨e0, hu, he⟩ := slice_und hts
      have hi := und_int he
      have hk := und_str htd
      refine ⟨rfl, ?_⟩
      by_cases h0 : 0 < b.length
      · obtain ⟨ad, rfl, r1, c, r2, r3⟩ := hc h0
        have hcm := cat_int b c r3
        subst hcm
        have hl := run_loadCells_list (P := P) w ad _ r2
        rw [List.length_map] at hl
        have hr := run_bytesToString w ad b.length cap b hl
        refine ⟨_, by simp only [convert, Sem.run_bind, run_underlying hu, run_underlying hk, Result.andThen_ok, run_underlying hi]; exact hr, ?_⟩
        have hp := push_all b ByteArray.empty
        have h2 : (b.map fun n => UInt8.ofNat n.toNat) = (b.foldl (fun r n => r.push (UInt8.ofNat n.toNat)) ByteArray.empty).data.toList := by rw [hp]; rfl
        show VRel g A w (.v .str (b.map fun n => UInt8.ofNat n.toNat)) _
        rw [h2]; exact of_str _
      · have hb : b = [] := by
          cases b with
          | nil => rfl
          | cons x b => simp at h0
        subst hb
        cases a with
        | none =>
          refine ⟨.string .empty, by simp [convert, run_underlying hu, run_underlying hk, run_underlying hi, Conv.bytesToString], ?_⟩
          exact of_str ByteArray.empty
        | some ad =>
          have hl := run_loadCells_list (P := P) w ad [] (fun j v hj => by simp at hj)
          have hr := run_bytesToString w ad 0 cap [] hl
          refine ⟨_, by simp only [convert, Sem.run_bind, run_underlying hu, run_underlying hk, Result.andThen_ok, run_underlying hi]; exact hr, ?_⟩
          exact of_str ByteArray.empty
    · exact e.elim
  · exact e.elim

/- rows written at a place -/
theorem Step.touch (H : HR g A W w h) {id : Nat} {B : Blk} (hb : h.at id = some B) : Step g A W w g A w ((id, some B) :: h) :=
  ⟨Gh.le_refl g, fun _ h => h, fun _ h => .inl h, H.congr (fun i => by
    rw [look_cons]; split
    · rename_i hi; rw [hi]; exact at_look hb
    · rfl), fun _ _ => rfl, .refl W w⟩
def putTo (a : Option Addr) (c : List Value) : Sem Unit := match a with
  | some a => storeCells a c
  | none => pure ()
theorem splice_nil {α : Type} (xs : List α) (o : Nat) : splice xs o [] = xs := by simp [splice]
theorem write_any {u : Ty} (H : HR g A W w h) {id : Nat} {xs ys : List u.den} {s : Slot} {c : List Value} {o : Nat} {a : Option Addr} (hb : h.at id = some (.row u xs false)) (hg : g id = some s) (hc : Cat (TRel A w u) c ys) (ho : o + ys.length ≤ xs.length) (ha : 0 < ys.length ∨ o = 0 → a = s.blk.map fun b => ⟨b, o * u.size, none⟩) :
    ∃ w', (putTo a c).run P w = .ok () w' ∧ Step g A W w g A w' ((id, some (.row u (splice xs o ys) false)) :: h) := by
  by_cases h0 : 0 < ys.length
  · have ha := ha (.inl h0)
    obtain ⟨s', hg', ⟨hl, hr⟩, _⟩ := H.blk id _ hb
    rw [hg] at hg'; injection hg' with hg'; subst hg'
    cases hs : s.blk with
    | none => rw [hs] at hr; omega
    | some b =>
      rw [hs] at ha
      subst ha
      exact write_row H hb hg hs hc ho
  · have hy : ys = [] := by
      cases ys with
      | nil => rfl
      | cons y ys => simp at h0
    subst hy
    have hc : c = [] := hc
    subst hc
    rw [splice_nil]
    refine ⟨w, ?_, Step.touch H hb⟩
    cases a with
    | none => simp [putTo]
    | some a => simp [putTo, storeCells]
theorem run_firstN {u : Ty} {v : Value} {ys : List u.den} (hs : Shown A w u v ys) (n : Nat) (hn : n ≤ ys.length) : ∃ c : List Value, Cat (TRel A w u) c (ys.take n) ∧ (Builtin.firstCells u.size n v).run P w = .ok c.toArray w ∧ ∃ a cap, v = .slice a ys.length cap := by
  obtain ⟨a, cap, rfl, hcap, hc⟩ := hs
  by_cases h0 : 0 < ys.length
  · obtain ⟨ad, rfl, r1, c, r2, r3⟩ := hc h0
    have hl := Cat.len (TRel.len u) r3
    have r4 := Cat.take (TRel.len u) r3 n hn
    have hl4 : (c.take (n * u.size)).length = n * u.size := by
      rw [List.length_take, hl]; exact Nat.min_eq_left (Nat.mul_le_mul_right _ hn)
    have hr := run_loadCells_list (P := P) w ad (c.take (n * u.size)) (fun j v hj => r2 j v (by
      rw [List.getElem?_take] at hj; split at hj
      · exact hj
      · cases hj))
    rw [hl4] at hr
    exact ⟨_, r4, by simp only [Builtin.firstCells]; exact hr, _, _, rfl⟩
  · have : ys = [] := by
      cases ys with
      | nil => rfl
      | cons y ys => simp at h0
    subst this
    obtain rfl : n = 0 := by simpa using hn
    refine ⟨[], rfl, ?_, _, _, rfl⟩
    cases a with
    | none => simp [Builtin.firstCells]
    | some a =>
      have hr := run_loadCells_list (P := P) w a [] (fun j v hj => by simp at hj)
      simp only [Builtin.firstCells, Nat.zero_mul]
      exact hr
theorem run_copy {u : Ty} (hty : tyB P (.slice u) t = true) (ts : List TypeId) (ty : TypeId) {a : Option Addr} {len cap m : Nat} {vs : Value} {c : List Value} {w' : World} (hv : ∃ a cap, vs = .slice a m cap) (hf : (Builtin.firstCells u.size (min m len) vs).run P w = .ok c.toArray w) (hp : (putTo a c).run P w = .ok () w') :
    (Builtin.copy_ (t :: ts).toArray ty #[.slice a len cap, vs]).run P w = .ok (.int .i64 (min m len : Nat)) w' := by
  obtain ⟨e0, hu, he⟩ := slice_und hty
  obtain ⟨b, cap', rfl⟩ := hv
  have hm : Nat.min m len = min m len := rfl
  cases a with
  | none =>
    simp only [putTo, Sem.run_pure] at hp
    injection hp with _ hp; subst hp
    simp [Builtin.copy_, run_underlying hu, Builtin.lenOf, run_sizeT w he, hm, hf, goInt]
  | some a =>
    simp only [putTo] at hp
    simp [Builtin.copy_, run_underlying hu, Builtin.lenOf, run_sizeT w he, hm, hf, hp, goInt]
theorem take_min {α : Type} (ys : List α) (n : Nat) : ys.take (min ys.length n) = ys.take n := by
  by_cases h : ys.length ≤ n
  · rw [Nat.min_eq_left h, List.take_length, List.take_of_length_le h]
  · rw [Nat.min_eq_right (by omega)]
theorem copy_row {u : Ty} (hty : tyB P (.slice u) t = true) (ts : List TypeId) (ty : TypeId) (H : HR g A W w h) {id off len cap : Nat} {xs ys : List u.den} {s : Slot} {a : Option Addr} {vs : Value} (hb : h.at id = some (.row u xs false)) (hg : g id = some s) (hs : Shown A w u vs ys) (hol : off + len ≤ xs.length) (ha : 0 < len ∨ off = 0 → a = s.blk.map fun b => ⟨b, off * u.size, none⟩) :
    ∃ w' v, (Builtin.copy_ (t :: ts).toArray ty #[.slice a len cap, vs]).run P w = .ok v w' ∧ Step g A W w g A w' ((id, some (.row u (splice xs off (ys.take len)) false)) :: h) ∧ VRel g A w' (.v (.int .i64) (min ys.length len : Nat)) v := by
  obtain ⟨c, c1, c2, c3⟩ := run_firstN (P := P) hs (min ys.length len) (Nat.min_le_left _ _)
  rw [take_min] at c1
  have hl : (ys.take len).length ≤ len := by rw [List.length_take]; exact Nat.min_le_left _ _
  obtain ⟨w', r, S⟩ := write_any (P := P) H hb hg c1 (by omega) (a := a) (fun h => ha (h.imp (fun h => by omega) (fun h => h)))
  exact ⟨w', _, run_copy hty ts ty c3 c2 r, S, of_int _ _⟩
theorem sv_off {s : Slot} {off len sz : Nat} {p : List Stp} {v : Value} (h : SvV s p off len sz 0 v) : p = [] ∧ off + len ≤ s.len ∧ ∃ a cap, v = .slice a len cap ∧ (0 < len ∨ off = 0 → a = s.blk.map fun b => ⟨b, off * sz, none⟩) := by
  obtain ⟨_, h2, h3, _, a, cap, h5, _, _, h6⟩ := h
  have hp := h3 rfl
  subst hp
  refine ⟨rfl, by simpa using h2, a, cap, h5, fun hh => ?_⟩
  have := h6 hh
  simpa [poff] using this
theorem copyTo_ok {u : Ty} (hty : tyB P (.slice u) t = true) (ts : List TypeId) (ty : TypeId) (H : HR g A W w h) {d y : PV} {vd vs : Value} {ys : List u.den} {h' : Hp} (hd : VRel g A w d vd) (hs : Shown A w u vs ys) (e : (copyTo u d ys).Ok h y h') :
    ∃ w' v, (Builtin.copy_ (t :: ts).toArray ty #[vd, vs]).run P w = .ok v w' ∧ Step g A W w g A w' h' ∧ VRel g A w' y v := by
  cases d with
  | sl id =>
    obtain ⟨s, hg, hv⟩ := to_sl hd
    simp only [copyTo, Q.Ok] at e
    obtain ⟨B, hb, e⟩ := e
    cases B with
    | box x => exact e.elim
    | row v xs fz =>
      cases fz with
      | true => exact e.elim
      | false =>
        simp only [Ok_bind, Ok_get, Q.Ok] at e
        obtain ⟨xs', h1, ⟨ec, rfl⟩, _, rfl, rfl⟩ := e
        obtain ⟨ev, _⟩ := cast_some ec
        injection ev with ev; subst ev
        obtain rfl := cast_self ec
        obtain ⟨s', hg', ⟨hl, hr⟩, _⟩ := H.blk id _ hb
        rw [hg] at hg'; injection hg' with hg'; subst hg'
        unfold SlV at hv
        cases hsb : s.blk with
        | none =>
          rw [hsb] at hv
          have h0 : xs.length = 0 := by omega
          have := copy_row (P := P) hty ts ty H (off := 0) (len := 0) (cap := 0) (a := none) hb hg hs (by omega) (fun _ => by rw [hsb]; rfl)
          rw [hv.1, h0]; exact this
        | some b =>
          rw [hsb] at hv
          have := copy_row (P := P) hty ts ty H (off := 0) (len := xs.length) (cap := s.cap) (a := some ⟨b, 0, none⟩) hb hg hs (by omega) (fun _ => by rw [hsb]; simp)
          have hv' : vd = .slice (some ⟨b, 0, none⟩) s.len s.cap := hv
          rw [hv', hl]; exact this
  | sv id p off len sz n =>
    obtain ⟨s, hg, hv⟩ := to_sv hd
    simp only [copyTo, Q.Ok] at e
    obtain ⟨B, hb, e⟩ := e
    cases B with
    | row v xs fz =>
      cases fz with
      | true => exact e.elim
      | false =>
        simp only [Ok_cond, Ok_fail, and_false, or_false, Bool.and_eq_true, Ok_bind, Ok_get, Q.Ok] at e
        obtain ⟨⟨hsz, hn⟩, xs', h1, ⟨ec, rfl⟩, _, rfl, rfl⟩ := e
        have hsz := Nat.eq_of_beq_eq_true hsz
        have hn := Nat.eq_of_beq_eq_true hn
        subst hsz hn
        obtain ⟨ev, _⟩ := cast_some ec
        injection ev with ev; subst ev
        obtain rfl := cast_self ec
        obtain ⟨s', hg', ⟨hl, hr⟩, _⟩ := H.blk id _ hb
        rw [hg] at hg'; injection hg' with hg'; subst hg'
        obtain ⟨rfl, ho, a, cap, rfl, ha⟩ := sv_off hv
        exact copy_row hty ts ty H hb hg hs (by omega) ha
    | box x =>
      simp only at e
      split at e
      · rename_i m v xs hgp
        simp only [Ok_cond, Ok_fail, and_false, or_false, Bool.and_eq_true, Ok_bind, Ok_get] at e
        obtain ⟨⟨⟨⟨hm, hsz⟩, hfl⟩, hn0⟩, xs', h1, ⟨ec, rfl⟩, e⟩ := e
        have hm := Nat.eq_of_beq_eq_true hm
        have hsz := Nat.eq_of_beq_eq_true hsz
        subst hm hsz
        obtain ⟨ev, _⟩ := cast_some ec
        injection ev with ev; subst ev
        obtain rfl := cast_self ec
        split at e
        · rename_i z hz
          simp only [Q.Ok] at e
          obtain ⟨_, rfl, rfl⟩ := e
          have hm0 : m ≠ 0 := by rintro rfl; simp at hn0
          obtain ⟨hpk, hol, _, hbn, a, cap, rfl, hcl, _, ha⟩ := hv
          rw [if_neg hm0] at hol
          obtain ⟨s', b, cells, ety, hg', hsb, hh, hx⟩ := H.blk id _ hb
          rw [hg] at hg'; injection hg' with hg'; subst hg'
          obtain ⟨c, c1, c2, c3⟩ := run_firstN (P := P) hs (min ys.length len) (Nat.min_le_left _ _)
          rw [take_min] at c1
          have hyl : (ys.take len).length ≤ len := by rw [List.length_take]; exact Nat.min_le_left _ _
          obtain ⟨pre, zs, post, q1, q2, q3⟩ := getP_rel p x (.v (.arr m v) xs) cells.toList hx hpk hgp
          unfold PV.rel TRel at q3
          obtain ⟨q3, q4⟩ := q3
          have hzl := Cat.len (TRel.len v) q4
          have hc := Cat.len (TRel.len v) c1
          have hxl : List.length (α := v.den) xs = m := q3
          have hns := Cat.splice (TRel.len v) q4 c1 off (by rw [hxl]; omega)
          have hoc : (off + (ys.take len).length) * v.size = off * v.size + c.length := by rw [Nat.add_mul, hc]
          rw [hoc] at hns
          have hle : off * v.size + c.length ≤ zs.length := by
            rw [hzl, ← hoc]; exact Nat.mul_le_mul_right _ (by rw [hxl]; omega)
          have hnr : (PV.v (.arr m v) (splice xs off (ys.take len))).rel g A w (zs.take (off * v.size) ++ c ++ zs.drop (off * v.size + c.length)) := by
            unfold PV.rel TRel
            exact ⟨by rw [splice_len (α := v.den) _ _ _ (by rw [hxl]; omega)]; exact hxl, hns⟩
          have hnl : (zs.take (off * v.size) ++ c ++ zs.drop (off * v.size + c.length)).length = (PV.v (.arr m v) xs).size := by
            rw [List.length_append, List.length_append, List.length_take, List.length_drop]
            show _ = m * v.size
            rw [hxl] at hzl
            omega
          obtain ⟨pre', zs', post', u1, u2, u3, u4⟩ := setP_rel p x _ _ z cells.toList _ hx hpk hgp hz hnr hnl
          have hzz : zs'.length = zs.length := by
            rw [u3, hnl, hzl]
            show m * v.size = _
            rw [hxl]
          have hpp : pre' = pre ∧ zs' = zs ∧ post' = post := by
            have he := q1.symm.trans u1
            rw [List.append_assoc, List.append_assoc] at he
            obtain ⟨w1, w2⟩ := List.append_inj he (by rw [q2, u2])
            obtain ⟨w3, w4⟩ := List.append_inj w2 hzz.symm
            exact ⟨w1.symm, w3.symm, w4.symm⟩
          obtain ⟨rfl, rfl, rfl⟩ := hpp
          by_cases hl0 : 0 < len ∨ off = 0
          · have ha' := ha hl0
            rw [hsb] at ha'
            subst ha'
            have hcl : cells.toList.length = cells.size := by simp
            have hcz : poff p + off * v.size + 0 + c.length ≤ cells.size := by
              rw [← hcl, q1, List.length_append, List.length_append, q2]; omega
            have hst := run_storeCells_at (P := P) b (poff p + off * v.size) ety c 0 cells w hh hcz (c1.all (TRel.one v))
            simp only [Nat.add_zero] at hst
            have hsp : cells.toList.take (poff p + off * v.size) ++ c ++ cells.toList.drop (poff p + off * v.size + c.length) = pre' ++ (zs'.take (off * v.size) ++ c ++ zs'.drop (off * v.size + c.length)) ++ post' := by
              have hcut : cells.toList = (pre' ++ zs'.take (off * v.size)) ++ (zs'.drop (off * v.size)).take c.length ++ (zs'.drop (off * v.size + c.length) ++ post') := by
                rw [q1]
                have := cut3 zs' (off * v.size) c.length
                conv => lhs; rw [this]
                simp only [List.append_assoc]
              have hpl : (pre' ++ zs'.take (off * v.size)).length = poff p + off * v.size := by
                rw [List.length_append, List.length_take, q2, Nat.min_eq_left (by omega)]
              have := take_pre (zs := c) hcut (by rw [List.length_take, List.length_drop]; omega)
              rw [hpl] at this
              rw [this]
              simp only [List.append_assoc]
            refine ⟨_, _, run_copy hty ts ty c3 c2 (a := some _) hst, Step.set H hb rfl hg hsb ⟨s, b, _, ety, hg, hsb, setRow_heap w b cells _ ety (0, 0) hh, ?_⟩, of_int _ _⟩
            refine PV.rel_mono (Gh.le_refl g) (fun _ h => h) (fun r hr => setRow_other w b r _ (fun e => (H.own id _ s b hb rfl hg hsb).1 (e ▸ hr))) z _ ?_
            simp only []
            rw [hsp]; exact u4
          · have hlen : len = 0 := by omega
            subst hlen
            have hc0 : c = [] := by
              apply List.eq_nil_of_length_eq_zero
              rw [hc]; simp
            subst hc0
            have hS := Step.set (c := cells) H hb rfl hg hsb (B' := .box z) ⟨s, b, _, ety, hg, hsb, setRow_heap w b cells _ ety (0, 0) hh, PV.rel_mono (Gh.le_refl g) (fun _ h => h) (fun r hr => setRow_other w b r _ (fun e => (H.own id _ s b hb rfl hg hsb).1 (e ▸ hr))) z _ (by
              have : pre' ++ (zs'.take (off * v.size) ++ [] ++ zs'.drop (off * v.size + 0)) ++ post' = cells.toList := by rw [q1]; simp
              rw [List.length_nil] at u4
              rw [this] at u4
              exact u4)⟩
            rw [setRow_self w b cells ety (0, 0) hh] at hS
            refine ⟨w, _, run_copy hty ts ty c3 c2 (a := a) ?_, hS, of_int _ _⟩
            cases a with
            | none => simp [putTo]
            | some a => simp [putTo, storeCells]
        · exact e.elim
      · exact e.elim
  | _ => exact e.elim
theorem copy_ok (hT : tabB P E.tl = true) (ts : List TypeId) (ty : TypeId) (H : HR g A W w h) {d s y : PV} {vd vs : Value} {h' : Hp} (hd : VRel g A w d vd) (hs : VRel g A w s vs) (e : (copyQ E t d s).Ok h y h') :
    ∃ w' v, (Builtin.copy_ (t :: ts).toArray ty #[vd, vs]).run P w = .ok v w' ∧ Step g A W w g A w' h' ∧ VRel g A w' y v := by
  simp only [copyQ, Ok_bind] at e
  obtain ⟨u, h1, e1, ys, h2, e2, e3⟩ := e
  obtain ⟨hE, rfl⟩ := elem_out e1
  have hty : tyB P (.slice u) t = true := tabB_look hT hE
  obtain ⟨rfl, hsh⟩ := dec_shown H hs e2
  exact copyTo_ok hty ts ty H hd hsh e3
theorem clear_ok (hT : tabB P E.tl = true) (ts : List TypeId) (ty : TypeId) (H : HR g A W w h) {d y : PV} {vd : Value} {h' : Hp} (hd : VRel g A w d vd) (e : (clearQ E t d).Ok h y h') :
    ∃ w' v, (Builtin.clear_ (t :: ts).toArray ty #[vd]).run P w = .ok v w' ∧ Step g A W w g A w' h' ∧ VRel g A w' y v := by
  simp only [clearQ, Ok_bind] at e
  obtain ⟨u, h1, e1, e⟩ := e
  obtain ⟨hE, rfl⟩ := elem_out e1
  have hty : tyB P (.slice u) t = true := tabB_look hT hE
  obtain ⟨e0, hu, he⟩ := slice_und hty
  obtain ⟨i, z, _, _, _, _, hz, hrun⟩ := run_zero he
  cases d with
  | sv id p off len sz n =>
    obtain ⟨s, hg, hv⟩ := to_sv hd
    simp only [Q.Ok] at e
    obtain ⟨B, hb, e⟩ := e
    cases B with
    | box x => exact e.elim
    | row v xs fz =>
      cases fz with
      | true => exact e.elim
      | false =>
        simp only [Ok_cond, Ok_fail, and_false, or_false, Bool.and_eq_true, Ok_bind, Ok_get, Q.Ok] at e
        obtain ⟨⟨hsz, hn⟩, xs', h2, ⟨ec, rfl⟩, _, rfl, rfl⟩ := e
        have hsz := Nat.eq_of_beq_eq_true hsz
        have hn := Nat.eq_of_beq_eq_true hn
        subst hsz hn
        obtain ⟨ev, _⟩ := cast_some ec
        injection ev with ev; subst ev
        obtain rfl := cast_self ec
        obtain ⟨s', hg', ⟨hl, hr⟩, _⟩ := H.blk id _ hb
        rw [hg] at hg'; injection hg' with hg'; subst hg'
        obtain ⟨rfl, ho, a, cap, rfl, ha⟩ := sv_off hv
        have hzs : z.cells.size = v.size := by
          have := TRel.len v _ _ (zcells_rel A w v)
          rw [← hz, Array.length_toList] at this; exact this
        have hzc : Cat (TRel A w v) (Builtin.zeroCells z.cells len).toList (List.replicate len v.zero) := by
          have : Builtin.zeroCells z.cells len = madeCells z.cells (len * v.size) := by unfold Builtin.zeroCells madeCells; rw [hzs]
          rw [this, madeCells_eq z.cells v.size hzs, hz]; exact Cat.replicate (zcells_rel A w v) len
        obtain ⟨w', r, S⟩ := write_any (P := P) H hb hg hzc (by rw [List.length_replicate]; omega) (a := a) (fun h => ha (h.imp (fun h => by rw [List.length_replicate] at h; exact h) (fun h => h)))
        refine ⟨w', .tuple #[], ?_, S, rfl⟩
        cases a with
        | none =>
          simp only [putTo, Sem.run_pure] at r
          injection r with _ r; subst r
          simp [Builtin.clear_, run_underlying hu]
        | some a =>
          simp only [putTo] at r
          cases len with
          | zero =>
            have : (Builtin.zeroCells z.cells 0).toList = [] := by simp [Builtin.zeroCells]
            rw [this] at r
            simp [storeCells] at r
            subst r
            simp [Builtin.clear_, run_underlying hu]
          | succ len => simp [Builtin.clear_, run_underlying hu, hrun, r]
  | _ => exact e.elim
theorem min_run {k : IntKind} (a b : Int) (ts : Array TypeId) (ty : TypeId) : (Builtin.min_ ts ty #[.int k a, .int k b]).run P w = .ok (.int k (min a b)) w := by
  have : (if b < a then b else a) = min a b := by omega
  simp [Builtin.min_, Builtin.min2, this]
theorem max_run {k : IntKind} (a b : Int) (ts : Array TypeId) (ty : TypeId) : (Builtin.max_ ts ty #[.int k a, .int k b]).run P w = .ok (.int k (max a b)) w := by
  have : (if b > a then b else a) = max a b := by omega
  simp [Builtin.max_, Builtin.max2, this]
end
end Go.Proofs.Ytjmgelpeonodgaa.PM
