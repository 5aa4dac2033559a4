/- What the iterator over a table's keys does, under any body that keeps what lay. -/
import Derived.RangeFuncNested
import Derived.RangeFuncBound
import Derived.RangeFuncBox
import Derived.RangeFuncCalls
import Derived.RangeFuncLeaves
import Derived.Shelf.Abstract
import Derived.Shelf.RegionOpen
import Derived.WalkKit
import Derived.OwnWalkIn
import Derived.TacticsInMore
import Derived.LoopNIn
import Derived.LoopIn
import Derived.Stop.RegionWithIn
import Derived.Test.YtkihjakbbcajbaaGreatChecked
import Derived.Test.YtkihjakbbcajbaaGreatKr
import Derived.Test.YtkihjakbbcajbaaGreatKr
namespace Go.Proofs.YtkihjakbbcajbaaGreat.Kd
set_option linter.unusedSimpArgs false
set_option linter.unusedVariables false
open Go Go.RowKit Go.Shelf Go.Proofs Go.Proofs.YtkihjakbbcajbaaGreat.PM
attribute [local go_sem] Oper.semAt_some
/-- What has come when k rounds are over. -/
def come (us : Nat → Bool) (ks : Nat → Int) (ls : Nat → Int × Int × Int) (k : Nat) : List (Int × Int × Int × Int) := ((List.range k).filter us).map fun j => (ks j, ls j)
theorem come_yes {us : Nat → Bool} {ks : Nat → Int} {ls : Nat → Int × Int × Int} {k : Nat} (h : us k = true) : come us ks ls (k + 1) = come us ks ls k ++ [(ks k, ls k)] := by
  unfold come; rw [List.range_succ, List.filter_append, List.map_append]; simp [h]
theorem come_no {us : Nat → Bool} {ks : Nat → Int} {ls : Nat → Int × Int × Int} {k : Nat} (h : us k = false) : come us ks ls (k + 1) = come us ks ls k := by
  unfold come; rw [List.range_succ, List.filter_append, List.map_append]; simp [h]
theorem come_len {us : Nat → Bool} {ks : Nat → Int} {ls : Nat → Int × Int × Int} (k : Nat) : (come us ks ls k).length ≤ k := by
  unfold come; rw [List.length_map]; exact Nat.le_trans (List.length_filter_le _ _) (by simp)
theorem come_mono {us : Nat → Bool} {ks : Nat → Int} {ls : Nat → Int × Int × Int} : ∀ m k : Nat, (come us ks ls k).length ≤ (come us ks ls (k + m)).length
  | 0, k => Nat.le_refl _
  | m + 1, k => by
    refine Nat.le_trans (come_mono m k) ?_
    show _ ≤ (come us ks ls (k + m + 1)).length
    cases h : us (k + m) with
    | true => rw [come_yes h]; simp
    | false => rw [come_no h]; exact Nat.le_refl _
def KeepB (Kb : Nat → Prop) (W W' : World) : Prop := ∀ r, Kb r → W'.heap[r]? = W.heap[r]?
theorem KeepB.refl (Kb : Nat → Prop) (W : World) : KeepB Kb W W := fun _ _ => rfl
theorem KeepB.trans {Kb : Nat → Prop} {a b c : World} (h : KeepB Kb a b) (k : KeepB Kb b c) : KeepB Kb a c := fun r hr => (k r hr).trans (h r hr)
theorem KeepB.drew {Kb : Nat → Prop} {a b : World} (h : KeepB Kb a b) : KeepB Kb a { b with drawn := b.drawn + 1 } := h
theorem KeepB.cell {Kb : Nat → Prop} {a b : World} (h : KeepB Kb a b) {p : Addr} (hp : Kb p.block) : b.cell? p = a.cell? p := World.cell?_of_block (h _ hp)
def encs (x : Int × Int × Int × Int) : Array Value := #[.int .u32 x.1, .agg #[.int .i64 x.2.1, .int .i64 x.2.2.1, .int .i64 x.2.2.2]]
set_option maxRecDepth 100000 in
set_option maxHeartbeats 4000000 in
theorem keyed1_in (n : Nat) (hn : 1 ≤ n) (l Bs ul uc kl kc bl bc : Nat) (Kb : Nat → Prop) (ua ka ba : Option Addr) (us : Nat → Bool) (ks : Nat → Int) (ls : Nat → Int × Int × Int)
    (hu47 : ul ≤ 140737488355328) (J Jx : List (Int × Int × Int × Int) → World → Prop)
    (hY : ∀ pre x W, J pre W → pre.length < (come us ks ls ul).length → YieldAt Fence.wide (n - 1) Tryz.prog l (encs x) W fun e W' =>
      (e = .returned (.bool true) ∧ J (pre ++ [x]) W' ∧ KeepB Kb W W') ∨ (e = .returned (.bool false) ∧ Jx (pre ++ [x]) W'))
    (W : World) (hBs : Kb Bs)
    (h1 : W.cell? ⟨Bs, 1, none⟩ = some (.slice ka kl kc)) (h2 : W.cell? ⟨Bs, 2, none⟩ = some (.slice ba bl bc)) (h4 : W.cell? ⟨Bs, 4, none⟩ = some (.slice ua ul uc))
    (hus : ∀ j, j < ul → ∃ ub uo, ua = some ⟨ub, uo, none⟩ ∧ Kb ub ∧ W.cell? ⟨ub, uo + j, none⟩ = some (.bool (us j)))
    (hks : ∀ j, j < ul → us j = true → j < kl ∧ ∃ kb ko, ka = some ⟨kb, ko, none⟩ ∧ Kb kb ∧ W.cell? ⟨kb, ko + j, none⟩ = some (.int .u32 (ks j)))
    (hls : ∀ j, j < ul → us j = true → j < bl ∧ ∃ bb bo, ba = some ⟨bb, bo, none⟩ ∧ Kb bb ∧ W.cell? ⟨bb, bo + j * 6, none⟩ = some (.int .i64 (ls j).1) ∧ W.cell? ⟨bb, bo + j * 6 + 1, none⟩ = some (.int .i64 (ls j).2.1) ∧ W.cell? ⟨bb, bo + j * 6 + 2, none⟩ = some (.int .i64 (ls j).2.2))
    (hdrew : ∀ pre W, J pre W → J pre { W with drawn := W.drawn + 1 }) (h0 : J [] W) :
    CallsIn Fence.wide n Tryz.prog 183 #[.func (.yield l) #[] #[], .pointer (some ⟨Bs, 0, none⟩)] W fun e W' => (∃ v, e = .returned v) ∧
      ((∃ ys, ys = come us ks ls ul ∧ J ys W') ∨ (∃ pre, (∃ k, k ≤ ul ∧ pre = come us ks ls k) ∧ Jx pre W')) := by
  refine callsIn_of_wp Tryz.func183 rfl trivial ?_ rfl
  simp only [Tryz.ntmps183, List.size_toArray, List.length_cons, List.length_nil, Nat.reduceAdd, Nat.reduceSub, Array.replicate_succ, Array.replicate_zero, List.push_toArray, List.append_toArray, List.nil_append, List.cons_append]
  gi_wp2
  gi_loopw [9] (fun i wr => ∃ k : Nat, k ≤ ul ∧ i = .int .i64 k ∧ J (come us ks ls k) wr ∧ KeepB Kb W wr)
    (fun i _ => ul - (RowKit.intOf i).toNat)
  case atStart => exact ⟨0, Nat.zero_le _, rfl, h0, KeepB.refl _ _⟩
  case round =>
    obtain ⟨k, hk, rfl, hJs, hnx⟩ := hrel
    by_cases hlt : k < ul
    · obtain ⟨ub, uo, rfl, hub, hcu0⟩ := hus k hlt
      have hcu := (hnx.cell (p := ⟨ub, uo + k, none⟩) hub).trans hcu0
      have g4 := (hnx.cell (p := ⟨Bs, 4, none⟩) hBs).trans h4
      cases hu : us k with
      | false =>
        rw [hu] at hcu
        gi_wp2
        refine wpIn_region_any (by kernel_rfl) ?_
        obtain ⟨wq, hwq⟩ : ∃ wq : World, ({ wr with drawn := wr.drawn + 1 } : World) = wq := ⟨_, rfl⟩
        have hJq : J (come us ks ls k) wq := hwq ▸ hdrew _ wr hJs
        have hBq : KeepB Kb W wq := hwq ▸ hnx.drew
        rw [hwq]
        refine any_reads (n0 := 14) (X := fun j => match j with | 0 => (.bool false) | 1 => (.bool false) | 2 => undef | 3 => undef | 4 => undef | 5 => undef | 6 => undef | 7 => undef | 8 => undef | 9 => undef | 10 => undef | 11 => undef | 12 => undef | 13 => undef | _ => undef) (by decide) (by kernel_rfl) (dst_inj [14, 15, 16, 17, 18, 19, 20, 21, 22, 23, 24, 25, 26, 27, 28, 29, 30] rfl (by decide)) ?sz ?late ?read ?fin 14 (fun _ => false) _ _ (by simp) (fun q hq => by simp) rfl (fun _ _ => rfl) (fun _ _ h => by cases h) ⟨rfl, rfl, fun t => (tv_off 14 t (fun j hj h => by cases h)).symm⟩
        case sz => exact fun j d hd => show d < 32 from dst_lt [14, 15, 16, 17, 18, 19, 20, 21, 22, 23, 24, 25, 26, 27, 28, 29, 30] rfl (by decide) hd
        case late => exact late_of (by kernel_rfl)
        case read =>
          intro j hj S a' hb hA hd K hK
          match j, hj with
          | 0, _ =>
            have h4 := off2 hA [14, 15, 16, 17, 18, 19, 20, 21, 22, 23, 24, 25, 26, 27, 28, 29, 30] rfl (n := 14) (by decide) 4 (by omega)
            try dsimp only at h4
            refine rd_val rfl rfl ?_ hK
            go_simp
            try simp [h4]
          | 1, _ =>
            have h14 := on' hd hA (i := 0) (t := 14) rfl (hb 0 (by kernel_rfl)) (by omega)
            try dsimp only at h14
            refine rd_val rfl rfl ?_ hK
            go_simp
            try simp [h14]
          | 2, _ =>
            have hy := yld' hd hA (i := 1) (d := 15) (b := false) rfl (hb 1 (by kernel_rfl)) (by omega) (show 15 < 32 by decide) rfl
            exact rd_skip rfl (by simp [Region.wanted, hy]) hK
          | 3, _ =>
            have hy := yld' hd hA (i := 1) (d := 15) (b := false) rfl (hb 1 (by kernel_rfl)) (by omega) (show 15 < 32 by decide) rfl
            exact rd_skip rfl (by simp [Region.wanted, hy]) hK
          | 4, _ =>
            have hy := yld' hd hA (i := 1) (d := 15) (b := false) rfl (hb 1 (by kernel_rfl)) (by omega) (show 15 < 32 by decide) rfl
            exact rd_skip rfl (by simp [Region.wanted, hy]) hK
          | 5, _ =>
            have hy := yld' hd hA (i := 1) (d := 15) (b := false) rfl (hb 1 (by kernel_rfl)) (by omega) (show 15 < 32 by decide) rfl
            exact rd_skip rfl (by simp [Region.wanted, hy]) hK
          | 6, _ =>
            have hy := yld' hd hA (i := 1) (d := 15) (b := false) rfl (hb 1 (by kernel_rfl)) (by omega) (show 15 < 32 by decide) rfl
            exact rd_skip rfl (by simp [Region.wanted, hy]) hK
          | 7, _ =>
            have hy := yld' hd hA (i := 1) (d := 15) (b := false) rfl (hb 1 (by kernel_rfl)) (by omega) (show 15 < 32 by decide) rfl
            exact rd_skip rfl (by simp [Region.wanted, hy]) hK
          | 8, _ =>
            have hy := yld' hd hA (i := 1) (d := 15) (b := false) rfl (hb 1 (by kernel_rfl)) (by omega) (show 15 < 32 by decide) rfl
            exact rd_skip rfl (by simp [Region.wanted, hy]) hK
          | 9, _ =>
            have hy := yld' hd hA (i := 1) (d := 15) (b := false) rfl (hb 1 (by kernel_rfl)) (by omega) (show 15 < 32 by decide) rfl
            exact rd_skip rfl (by simp [Region.wanted, hy]) hK
          | 10, _ =>
            have hy := yld' hd hA (i := 1) (d := 15) (b := false) rfl (hb 1 (by kernel_rfl)) (by omega) (show 15 < 32 by decide) rfl
            exact rd_skip rfl (by simp [Region.wanted, hy]) hK
          | 11, _ =>
            have hy := yld' hd hA (i := 1) (d := 15) (b := false) rfl (hb 1 (by kernel_rfl)) (by omega) (show 15 < 32 by decide) rfl
            exact rd_skip rfl (by simp [Region.wanted, hy]) hK
          | 12, _ =>
            have hy := yld' hd hA (i := 1) (d := 15) (b := false) rfl (hb 1 (by kernel_rfl)) (by omega) (show 15 < 32 by decide) rfl
            exact rd_skip rfl (by simp [Region.wanted, hy]) hK
          | 13, _ =>
            have hy := yld' hd hA (i := 1) (d := 15) (b := false) rfl (hb 1 (by kernel_rfl)) (by omega) (show 15 < 32 by decide) rfl
            exact rd_skip rfl (by simp [Region.wanted, hy]) hK
        case fin =>
          intro a' listed hA hl1 hl2
          obtain rfl : listed = #[true, true, true, true, true, true, true, true, true, true, true, true, true, true, false, false, false] := list_eq hl1 hl2 rfl
          obtain rfl := at_eq (m := 32) hA rfl (tm := #[(.func (.yield l) #[] #[]), (.pointer (some ⟨Bs, 0, none⟩)), undef, (.int .i64 (k : Int)), (.bool false), (.pointer (some ⟨Bs, 3, none⟩)), (.pointer (some ⟨Bs, 4, none⟩)), (.slice (some ⟨ub, uo, none⟩) ul uc), (.int .i64 (ul : Int)), (.int .i64 (k : Int)), (.bool true), (.int .i64 (k : Int)), (.pointer (some ⟨ub, uo + k, none⟩)), (.bool false), (.bool false), (.bool false), undef, undef, undef, undef, undef, undef, undef, undef, undef, undef, undef, undef, u28, u29, u30, u31]) (by kernel_rfl)
          refine wpAnyIn_all (rs := [14]) (by kernel_rfl) (by simp) (fun i hi => ?_)
          obtain rfl := List.mem_singleton.1 hi
          refine rd_skip rfl rfl ?_
          show wpAnyIn _ _ _ _ _ _ _ _ ({ tmps := #[(.func (.yield l) #[] #[]), (.pointer (some ⟨Bs, 0, none⟩)), undef, (.int .i64 (k : Int)), (.bool false), (.pointer (some ⟨Bs, 3, none⟩)), (.pointer (some ⟨Bs, 4, none⟩)), (.slice (some ⟨ub, uo, none⟩) ul uc), (.int .i64 (ul : Int)), (.int .i64 (k : Int)), (.bool true), (.int .i64 (k : Int)), (.pointer (some ⟨ub, uo + k, none⟩)), (.bool false), (.bool false), (.bool false), undef, undef, undef, undef, undef, undef, undef, undef, undef, undef, undef, undef, undef, u29, u30, u31], defers := [] } : Act) _
          refine wpAnyIn_all (rs := [15]) (by kernel_rfl) (by simp) (fun i hi => ?_)
          obtain rfl := List.mem_singleton.1 hi
          refine rd_skip rfl rfl ?_
          show wpAnyIn _ _ _ _ _ _ _ _ ({ tmps := #[(.func (.yield l) #[] #[]), (.pointer (some ⟨Bs, 0, none⟩)), undef, (.int .i64 (k : Int)), (.bool false), (.pointer (some ⟨Bs, 3, none⟩)), (.pointer (some ⟨Bs, 4, none⟩)), (.slice (some ⟨ub, uo, none⟩) ul uc), (.int .i64 (ul : Int)), (.int .i64 (k : Int)), (.bool true), (.int .i64 (k : Int)), (.pointer (some ⟨ub, uo + k, none⟩)), (.bool false), (.bool false), (.bool false), undef, undef, undef, undef, undef, undef, undef, undef, undef, undef, undef, undef, undef, undef, u30, u31], defers := [] } : Act) _
          refine wpAnyIn_all (rs := [16]) (by kernel_rfl) (by simp) (fun i hi => ?_)
          obtain rfl := List.mem_singleton.1 hi
          refine rd_val (v := .bool false) rfl rfl (by go_simp) ?_
          show wpAnyIn _ _ _ _ _ _ _ _ ({ tmps := #[(.func (.yield l) #[] #[]), (.pointer (some ⟨Bs, 0, none⟩)), undef, (.int .i64 (k : Int)), (.bool false), (.pointer (some ⟨Bs, 3, none⟩)), (.pointer (some ⟨Bs, 4, none⟩)), (.slice (some ⟨ub, uo, none⟩) ul uc), (.int .i64 (ul : Int)), (.int .i64 (k : Int)), (.bool true), (.int .i64 (k : Int)), (.pointer (some ⟨ub, uo + k, none⟩)), (.bool false), (.bool false), (.bool false), undef, undef, undef, undef, undef, undef, undef, undef, undef, undef, undef, undef, undef, undef, (.bool false), u31], defers := [] } : Act) _
          refine ⟨by kernel_rfl, ?_⟩
          gi_wp2
          go_roundw
          case rel => exact ⟨k + 1, by omega, by simp, by rw [come_no hu]; exact hJq, hBq⟩
          case measure => simp [RowKit.intOf]; omega
      | true =>
        obtain ⟨hkl, kb, ko, rfl, hkb, hck⟩ := hks k hlt hu
        obtain ⟨hbl, bb, bo, rfl, hbb, hc0, hc1, hc2⟩ := hls k hlt hu
        rw [hu] at hcu
        gi_wp2
        refine wpIn_region_any (by kernel_rfl) ?_
        obtain ⟨wq, hwq⟩ : ∃ wq : World, ({ wr with drawn := wr.drawn + 1 } : World) = wq := ⟨_, rfl⟩
        have hJq : J (come us ks ls k) wq := hwq ▸ hdrew _ wr hJs
        have hBq : KeepB Kb W wq := hwq ▸ hnx.drew
        rw [hwq]
        have e1 := (hBq.cell (p := ⟨Bs, 1, none⟩) hBs).trans h1
        have e2 := (hBq.cell (p := ⟨Bs, 2, none⟩) hBs).trans h2
        have e3 := (hBq.cell (p := ⟨kb, ko + k, none⟩) hkb).trans hck
        have c0 := (hBq.cell (p := ⟨bb, bo + k * 6, none⟩) hbb).trans hc0
        have c1 := (hBq.cell (p := ⟨bb, bo + k * 6 + 1, none⟩) hbb).trans hc1
        have c2 := (hBq.cell (p := ⟨bb, bo + k * 6 + 2, none⟩) hbb).trans hc2
        refine any_reads (n0 := 14) (X := fun j => match j with | 0 => (.bool true) | 1 => (.bool true) | 2 => (.func (.yield l) #[] #[]) | 3 => (.pointer (some ⟨Bs, 1, none⟩)) | 4 => (.slice (some ⟨kb, ko, none⟩) kl kc) | 5 => (.int .i64 (k : Int)) | 6 => (.pointer (some ⟨kb, ko + k, none⟩)) | 7 => (.int .u32 (ks k)) | 8 => (.pointer (some ⟨Bs, 2, none⟩)) | 9 => (.slice (some ⟨bb, bo, none⟩) bl bc) | 10 => (.int .i64 (k : Int)) | 11 => (.pointer (some ⟨bb, bo + k * 6, none⟩)) | 12 => (.pointer (some ⟨bb, bo + k * 6, none⟩)) | 13 => (.agg #[.int .i64 (ls k).1, .int .i64 (ls k).2.1, .int .i64 (ls k).2.2]) | _ => undef) (by decide) (by kernel_rfl) (dst_inj [14, 15, 16, 17, 18, 19, 20, 21, 22, 23, 24, 25, 26, 27, 28, 29, 30] rfl (by decide)) ?sz ?late ?read ?fin 14 (fun _ => false) _ _ (by simp) (fun q hq => by simp) rfl (fun _ _ => rfl) (fun _ _ h => by cases h) ⟨rfl, rfl, fun t => (tv_off 14 t (fun j hj h => by cases h)).symm⟩
        case sz => exact fun j d hd => show d < 32 from dst_lt [14, 15, 16, 17, 18, 19, 20, 21, 22, 23, 24, 25, 26, 27, 28, 29, 30] rfl (by decide) hd
        case late => exact late_of (by kernel_rfl)
        case read =>
          intro j hj S a' hb hA hd K hK
          match j, hj with
          | 0, _ =>
            have h4 := off2 hA [14, 15, 16, 17, 18, 19, 20, 21, 22, 23, 24, 25, 26, 27, 28, 29, 30] rfl (n := 14) (by decide) 4 (by omega)
            try dsimp only at h4
            refine rd_val rfl rfl ?_ hK
            go_simp
            try simp [h4, e1, e2, e3, c0, c1, c2, hkl, hbl]
          | 1, _ =>
            have h14 := on' hd hA (i := 0) (t := 14) rfl (hb 0 (by kernel_rfl)) (by omega)
            try dsimp only at h14
            refine rd_val rfl rfl ?_ hK
            go_simp
            try simp [h14, e1, e2, e3, c0, c1, c2, hkl, hbl]
          | 2, _ =>
            have h0 := off2 hA [14, 15, 16, 17, 18, 19, 20, 21, 22, 23, 24, 25, 26, 27, 28, 29, 30] rfl (n := 14) (by decide) 0 (by omega)
            have hy := yld' hd hA (i := 1) (d := 15) (b := true) rfl (hb 1 (by kernel_rfl)) (by omega) (show 15 < 32 by decide) rfl
            try dsimp only at h0
            refine rd_val rfl (by simp [Region.wanted, hy]) ?_ hK
            go_simp
            try simp [h0, e1, e2, e3, c0, c1, c2, hkl, hbl]
          | 3, _ =>
            have h1 := off2 hA [14, 15, 16, 17, 18, 19, 20, 21, 22, 23, 24, 25, 26, 27, 28, 29, 30] rfl (n := 14) (by decide) 1 (by omega)
            have hy := yld' hd hA (i := 1) (d := 15) (b := true) rfl (hb 1 (by kernel_rfl)) (by omega) (show 15 < 32 by decide) rfl
            try dsimp only at h1
            refine rd_val rfl (by simp [Region.wanted, hy]) ?_ hK
            go_simp
            try simp [h1, e1, e2, e3, c0, c1, c2, hkl, hbl]
          | 4, _ =>
            have h17 := on' hd hA (i := 3) (t := 17) rfl (hb 3 (by kernel_rfl)) (by omega)
            have hy := yld' hd hA (i := 1) (d := 15) (b := true) rfl (hb 1 (by kernel_rfl)) (by omega) (show 15 < 32 by decide) rfl
            try dsimp only at h17
            refine rd_val rfl (by simp [Region.wanted, hy]) ?_ hK
            go_simp
            try simp [h17, e1, e2, e3, c0, c1, c2, hkl, hbl]
          | 5, _ =>
            have h3 := off2 hA [14, 15, 16, 17, 18, 19, 20, 21, 22, 23, 24, 25, 26, 27, 28, 29, 30] rfl (n := 14) (by decide) 3 (by omega)
            have hy := yld' hd hA (i := 1) (d := 15) (b := true) rfl (hb 1 (by kernel_rfl)) (by omega) (show 15 < 32 by decide) rfl
            try dsimp only at h3
            refine rd_val rfl (by simp [Region.wanted, hy]) ?_ hK
            go_simp
            try simp [h3, e1, e2, e3, c0, c1, c2, hkl, hbl]
          | 6, _ =>
            have h18 := on' hd hA (i := 4) (t := 18) rfl (hb 4 (by kernel_rfl)) (by omega)
            have h19 := on' hd hA (i := 5) (t := 19) rfl (hb 5 (by kernel_rfl)) (by omega)
            have hy := yld' hd hA (i := 1) (d := 15) (b := true) rfl (hb 1 (by kernel_rfl)) (by omega) (show 15 < 32 by decide) rfl
            try dsimp only at h18 h19
            refine rd_val rfl (by simp [Region.wanted, hy]) ?_ hK
            go_simp
            try simp [h18, h19, e1, e2, e3, c0, c1, c2, hkl, hbl]
          | 7, _ =>
            have h20 := on' hd hA (i := 6) (t := 20) rfl (hb 6 (by kernel_rfl)) (by omega)
            have hy := yld' hd hA (i := 1) (d := 15) (b := true) rfl (hb 1 (by kernel_rfl)) (by omega) (show 15 < 32 by decide) rfl
            try dsimp only at h20
            refine rd_val rfl (by simp [Region.wanted, hy]) ?_ hK
            go_simp
            try simp [h20, e1, e2, e3, c0, c1, c2, hkl, hbl]
          | 8, _ =>
            have h1 := off2 hA [14, 15, 16, 17, 18, 19, 20, 21, 22, 23, 24, 25, 26, 27, 28, 29, 30] rfl (n := 14) (by decide) 1 (by omega)
            have hy := yld' hd hA (i := 1) (d := 15) (b := true) rfl (hb 1 (by kernel_rfl)) (by omega) (show 15 < 32 by decide) rfl
            try dsimp only at h1
            refine rd_val rfl (by simp [Region.wanted, hy]) ?_ hK
            go_simp
            try simp [h1, e1, e2, e3, c0, c1, c2, hkl, hbl]
          | 9, _ =>
            have h22 := on' hd hA (i := 8) (t := 22) rfl (hb 8 (by kernel_rfl)) (by omega)
            have hy := yld' hd hA (i := 1) (d := 15) (b := true) rfl (hb 1 (by kernel_rfl)) (by omega) (show 15 < 32 by decide) rfl
            try dsimp only at h22
            refine rd_val rfl (by simp [Region.wanted, hy]) ?_ hK
            go_simp
            try simp [h22, e1, e2, e3, c0, c1, c2, hkl, hbl]
          | 10, _ =>
            have h3 := off2 hA [14, 15, 16, 17, 18, 19, 20, 21, 22, 23, 24, 25, 26, 27, 28, 29, 30] rfl (n := 14) (by decide) 3 (by omega)
            have hy := yld' hd hA (i := 1) (d := 15) (b := true) rfl (hb 1 (by kernel_rfl)) (by omega) (show 15 < 32 by decide) rfl
            try dsimp only at h3
            refine rd_val rfl (by simp [Region.wanted, hy]) ?_ hK
            go_simp
            try simp [h3, e1, e2, e3, c0, c1, c2, hkl, hbl]
          | 11, _ =>
            have h23 := on' hd hA (i := 9) (t := 23) rfl (hb 9 (by kernel_rfl)) (by omega)
            have h24 := on' hd hA (i := 10) (t := 24) rfl (hb 10 (by kernel_rfl)) (by omega)
            have hy := yld' hd hA (i := 1) (d := 15) (b := true) rfl (hb 1 (by kernel_rfl)) (by omega) (show 15 < 32 by decide) rfl
            try dsimp only at h23 h24
            refine rd_val rfl (by simp [Region.wanted, hy]) ?_ hK
            go_simp
            try simp [h23, h24, e1, e2, e3, c0, c1, c2, hkl, hbl]
          | 12, _ =>
            have h25 := on' hd hA (i := 11) (t := 25) rfl (hb 11 (by kernel_rfl)) (by omega)
            have hy := yld' hd hA (i := 1) (d := 15) (b := true) rfl (hb 1 (by kernel_rfl)) (by omega) (show 15 < 32 by decide) rfl
            try dsimp only at h25
            refine rd_val rfl (by simp [Region.wanted, hy]) ?_ hK
            go_simp
            try simp [h25, e1, e2, e3, c0, c1, c2, hkl, hbl]
          | 13, _ =>
            have h26 := on' hd hA (i := 12) (t := 26) rfl (hb 12 (by kernel_rfl)) (by omega)
            have hy := yld' hd hA (i := 1) (d := 15) (b := true) rfl (hb 1 (by kernel_rfl)) (by omega) (show 15 < 32 by decide) rfl
            try dsimp only at h26
            refine rd_val rfl (by simp [Region.wanted, hy]) ?_ hK
            go_simp
            try simp [h26, e1, e2, e3, c0, c1, c2, hkl, hbl]
        case fin =>
          intro a' listed hA hl1 hl2
          obtain rfl : listed = #[true, true, true, true, true, true, true, true, true, true, true, true, true, true, false, false, false] := list_eq hl1 hl2 rfl
          obtain rfl := at_eq (m := 32) hA rfl (tm := #[(.func (.yield l) #[] #[]), (.pointer (some ⟨Bs, 0, none⟩)), undef, (.int .i64 (k : Int)), (.bool true), (.pointer (some ⟨Bs, 3, none⟩)), (.pointer (some ⟨Bs, 4, none⟩)), (.slice (some ⟨ub, uo, none⟩) ul uc), (.int .i64 (ul : Int)), (.int .i64 (k : Int)), (.bool true), (.int .i64 (k : Int)), (.pointer (some ⟨ub, uo + k, none⟩)), (.bool true), (.bool true), (.bool true), (.func (.yield l) #[] #[]), (.pointer (some ⟨Bs, 1, none⟩)), (.slice (some ⟨kb, ko, none⟩) kl kc), (.int .i64 (k : Int)), (.pointer (some ⟨kb, ko + k, none⟩)), (.int .u32 (ks k)), (.pointer (some ⟨Bs, 2, none⟩)), (.slice (some ⟨bb, bo, none⟩) bl bc), (.int .i64 (k : Int)), (.pointer (some ⟨bb, bo + k * 6, none⟩)), (.pointer (some ⟨bb, bo + k * 6, none⟩)), (.agg #[.int .i64 (ls k).1, .int .i64 (ls k).2.1, .int .i64 (ls k).2.2]), u28, u29, u30, u31]) (by kernel_rfl)
          have hlen : (come us ks ls k).length < (come us ks ls ul).length := by
            have := come_mono (us := us) (ks := ks) (ls := ls) (ul - (k + 1)) (k + 1)
            rw [show k + 1 + (ul - (k + 1)) = ul by omega, come_yes hu, List.length_append, List.length_singleton] at this
            omega
          obtain ⟨fn, tmps, assign, body, hy, hR⟩ := hY _ (ks k, ls k) wq hJq hlen
          unfold encs at hy
          dsimp only at hy
          refine wpAnyIn_all (rs := [14]) (by kernel_rfl) (by simp) (fun i hi => ?_)
          obtain rfl := List.mem_singleton.1 hi
          refine rd_round (l := l) (fn := fn) (tmps := tmps) (assign := assign) (body := body) rfl rfl (by go_simp; try simp [hy]) (hR.mono ?_)
          rintro e W3 (⟨rfl, hJ3, hk3⟩ | ⟨rfl, hJx3⟩)
          · refine ⟨_, rfl, ?_⟩
            show wpAnyIn _ _ _ _ _ _ _ _ ({ tmps := #[(.func (.yield l) #[] #[]), (.pointer (some ⟨Bs, 0, none⟩)), undef, (.int .i64 (k : Int)), (.bool true), (.pointer (some ⟨Bs, 3, none⟩)), (.pointer (some ⟨Bs, 4, none⟩)), (.slice (some ⟨ub, uo, none⟩) ul uc), (.int .i64 (ul : Int)), (.int .i64 (k : Int)), (.bool true), (.int .i64 (k : Int)), (.pointer (some ⟨ub, uo + k, none⟩)), (.bool true), (.bool true), (.bool true), (.func (.yield l) #[] #[]), (.pointer (some ⟨Bs, 1, none⟩)), (.slice (some ⟨kb, ko, none⟩) kl kc), (.int .i64 (k : Int)), (.pointer (some ⟨kb, ko + k, none⟩)), (.int .u32 (ks k)), (.pointer (some ⟨Bs, 2, none⟩)), (.slice (some ⟨bb, bo, none⟩) bl bc), (.int .i64 (k : Int)), (.pointer (some ⟨bb, bo + k * 6, none⟩)), (.pointer (some ⟨bb, bo + k * 6, none⟩)), (.agg #[.int .i64 (ls k).1, .int .i64 (ls k).2.1, .int .i64 (ls k).2.2]), (.bool true), u29, u30, u31], defers := [] } : Act) _
            refine wpAnyIn_all (rs := [15]) (by kernel_rfl) (by simp) (fun i hi => ?_)
            obtain rfl := List.mem_singleton.1 hi
            refine rd_val (v := .bool false) rfl rfl (by go_simp) ?_
            show wpAnyIn _ _ _ _ _ _ _ _ ({ tmps := #[(.func (.yield l) #[] #[]), (.pointer (some ⟨Bs, 0, none⟩)), undef, (.int .i64 (k : Int)), (.bool true), (.pointer (some ⟨Bs, 3, none⟩)), (.pointer (some ⟨Bs, 4, none⟩)), (.slice (some ⟨ub, uo, none⟩) ul uc), (.int .i64 (ul : Int)), (.int .i64 (k : Int)), (.bool true), (.int .i64 (k : Int)), (.pointer (some ⟨ub, uo + k, none⟩)), (.bool true), (.bool true), (.bool true), (.func (.yield l) #[] #[]), (.pointer (some ⟨Bs, 1, none⟩)), (.slice (some ⟨kb, ko, none⟩) kl kc), (.int .i64 (k : Int)), (.pointer (some ⟨kb, ko + k, none⟩)), (.int .u32 (ks k)), (.pointer (some ⟨Bs, 2, none⟩)), (.slice (some ⟨bb, bo, none⟩) bl bc), (.int .i64 (k : Int)), (.pointer (some ⟨bb, bo + k * 6, none⟩)), (.pointer (some ⟨bb, bo + k * 6, none⟩)), (.agg #[.int .i64 (ls k).1, .int .i64 (ls k).2.1, .int .i64 (ls k).2.2]), (.bool true), (.bool false), u30, u31], defers := [] } : Act) _
            refine wpAnyIn_all (rs := [16]) (by kernel_rfl) (by simp) (fun i hi => ?_)
            obtain rfl := List.mem_singleton.1 hi
            refine rd_val (v := .bool false) rfl rfl (by go_simp) ?_
            show wpAnyIn _ _ _ _ _ _ _ _ ({ tmps := #[(.func (.yield l) #[] #[]), (.pointer (some ⟨Bs, 0, none⟩)), undef, (.int .i64 (k : Int)), (.bool true), (.pointer (some ⟨Bs, 3, none⟩)), (.pointer (some ⟨Bs, 4, none⟩)), (.slice (some ⟨ub, uo, none⟩) ul uc), (.int .i64 (ul : Int)), (.int .i64 (k : Int)), (.bool true), (.int .i64 (k : Int)), (.pointer (some ⟨ub, uo + k, none⟩)), (.bool true), (.bool true), (.bool true), (.func (.yield l) #[] #[]), (.pointer (some ⟨Bs, 1, none⟩)), (.slice (some ⟨kb, ko, none⟩) kl kc), (.int .i64 (k : Int)), (.pointer (some ⟨kb, ko + k, none⟩)), (.int .u32 (ks k)), (.pointer (some ⟨Bs, 2, none⟩)), (.slice (some ⟨bb, bo, none⟩) bl bc), (.int .i64 (k : Int)), (.pointer (some ⟨bb, bo + k * 6, none⟩)), (.pointer (some ⟨bb, bo + k * 6, none⟩)), (.agg #[.int .i64 (ls k).1, .int .i64 (ls k).2.1, .int .i64 (ls k).2.2]), (.bool true), (.bool false), (.bool false), u31], defers := [] } : Act) _
            refine ⟨by kernel_rfl, ?_⟩
            gi_wp2
            go_roundw
            case rel => exact ⟨k + 1, by omega, by simp, by rw [come_yes hu]; exact hJ3, hBq.trans hk3⟩
            case measure => simp [RowKit.intOf]; omega
          · refine ⟨_, rfl, ?_⟩
            show wpAnyIn _ _ _ _ _ _ _ _ ({ tmps := #[(.func (.yield l) #[] #[]), (.pointer (some ⟨Bs, 0, none⟩)), undef, (.int .i64 (k : Int)), (.bool true), (.pointer (some ⟨Bs, 3, none⟩)), (.pointer (some ⟨Bs, 4, none⟩)), (.slice (some ⟨ub, uo, none⟩) ul uc), (.int .i64 (ul : Int)), (.int .i64 (k : Int)), (.bool true), (.int .i64 (k : Int)), (.pointer (some ⟨ub, uo + k, none⟩)), (.bool true), (.bool true), (.bool true), (.func (.yield l) #[] #[]), (.pointer (some ⟨Bs, 1, none⟩)), (.slice (some ⟨kb, ko, none⟩) kl kc), (.int .i64 (k : Int)), (.pointer (some ⟨kb, ko + k, none⟩)), (.int .u32 (ks k)), (.pointer (some ⟨Bs, 2, none⟩)), (.slice (some ⟨bb, bo, none⟩) bl bc), (.int .i64 (k : Int)), (.pointer (some ⟨bb, bo + k * 6, none⟩)), (.pointer (some ⟨bb, bo + k * 6, none⟩)), (.agg #[.int .i64 (ls k).1, .int .i64 (ls k).2.1, .int .i64 (ls k).2.2]), (.bool false), u29, u30, u31], defers := [] } : Act) _
            refine wpAnyIn_all (rs := [15]) (by kernel_rfl) (by simp) (fun i hi => ?_)
            obtain rfl := List.mem_singleton.1 hi
            refine rd_val (v := .bool true) rfl rfl (by go_simp) ?_
            show wpAnyIn _ _ _ _ _ _ _ _ ({ tmps := #[(.func (.yield l) #[] #[]), (.pointer (some ⟨Bs, 0, none⟩)), undef, (.int .i64 (k : Int)), (.bool true), (.pointer (some ⟨Bs, 3, none⟩)), (.pointer (some ⟨Bs, 4, none⟩)), (.slice (some ⟨ub, uo, none⟩) ul uc), (.int .i64 (ul : Int)), (.int .i64 (k : Int)), (.bool true), (.int .i64 (k : Int)), (.pointer (some ⟨ub, uo + k, none⟩)), (.bool true), (.bool true), (.bool true), (.func (.yield l) #[] #[]), (.pointer (some ⟨Bs, 1, none⟩)), (.slice (some ⟨kb, ko, none⟩) kl kc), (.int .i64 (k : Int)), (.pointer (some ⟨kb, ko + k, none⟩)), (.int .u32 (ks k)), (.pointer (some ⟨Bs, 2, none⟩)), (.slice (some ⟨bb, bo, none⟩) bl bc), (.int .i64 (k : Int)), (.pointer (some ⟨bb, bo + k * 6, none⟩)), (.pointer (some ⟨bb, bo + k * 6, none⟩)), (.agg #[.int .i64 (ls k).1, .int .i64 (ls k).2.1, .int .i64 (ls k).2.2]), (.bool false), (.bool true), u30, u31], defers := [] } : Act) _
            refine wpAnyIn_all (rs := [16]) (by kernel_rfl) (by simp) (fun i hi => ?_)
            obtain rfl := List.mem_singleton.1 hi
            refine rd_val (v := .bool true) rfl rfl (by go_simp) ?_
            show wpAnyIn _ _ _ _ _ _ _ _ ({ tmps := #[(.func (.yield l) #[] #[]), (.pointer (some ⟨Bs, 0, none⟩)), undef, (.int .i64 (k : Int)), (.bool true), (.pointer (some ⟨Bs, 3, none⟩)), (.pointer (some ⟨Bs, 4, none⟩)), (.slice (some ⟨ub, uo, none⟩) ul uc), (.int .i64 (ul : Int)), (.int .i64 (k : Int)), (.bool true), (.int .i64 (k : Int)), (.pointer (some ⟨ub, uo + k, none⟩)), (.bool true), (.bool true), (.bool true), (.func (.yield l) #[] #[]), (.pointer (some ⟨Bs, 1, none⟩)), (.slice (some ⟨kb, ko, none⟩) kl kc), (.int .i64 (k : Int)), (.pointer (some ⟨kb, ko + k, none⟩)), (.int .u32 (ks k)), (.pointer (some ⟨Bs, 2, none⟩)), (.slice (some ⟨bb, bo, none⟩) bl bc), (.int .i64 (k : Int)), (.pointer (some ⟨bb, bo + k * 6, none⟩)), (.pointer (some ⟨bb, bo + k * 6, none⟩)), (.agg #[.int .i64 (ls k).1, .int .i64 (ls k).2.1, .int .i64 (ls k).2.2]), (.bool false), (.bool true), (.bool true), u31], defers := [] } : Act) _
            refine ⟨by kernel_rfl, ?_⟩
            gi_wp2
            refine bodyPost_ret (results_none rfl _ _ _) rfl ?_
            exact ⟨⟨_, rfl⟩, .inr ⟨_, ⟨k + 1, by omega, (come_yes hu).symm⟩, hJx3⟩⟩
    · obtain rfl : k = ul := by omega
      gi_wp2
      go_end0
      exact ⟨⟨_, rfl⟩, .inl ⟨_, rfl, hJs⟩⟩
set_option maxHeartbeats 1000000 in
theorem keyed_in (n : Nat) (cs : Array Value) (hcs : cs.size = 11) (w : World) :
    CallsIn Fence.wide n Tryz.prog 169 #[.agg cs] w fun e w' => e = .returned (.func (.func 183) #[] #[.pointer (some ⟨w.heap.size, 0, none⟩)]) ∧ w' = w.alloc (.cells cs 64) := by
  refine callsIn_of_wp Tryz.func169 rfl trivial ?_ rfl
  simp only [Tryz.ntmps169, List.size_toArray, List.length_cons, List.length_nil, Nat.reduceAdd, Nat.reduceSub, Array.replicate_succ, Array.replicate_zero, List.push_toArray, List.append_toArray, List.nil_append, List.cons_append]
  gi_wp2
  go_ret
  exact ⟨rfl, rfl⟩
end Go.Proofs.YtkihjakbbcajbaaGreat.Kd
