/- Part 8 of a proof: walks of the given functions and laws over lists. -/
import Derived.Test.YtofpohpflpdbiaaCb7
import Derived.SizedLaws
import Derived.ChangeSlices
import Derived.Test.YtofpohpflpdbiaaRows
import Derived.ProofKit
import Derived.OpenShut
import Derived.ShutString
import Derived.ChangeOld
namespace Go.Proofs.Ytofpohpflpdbiaa.H
open Go.RowKit Go.Proofs.YtofpohpflpdbiaaW.PrintWords Go.Proofs.YtofpohpflpdbiaaW.PrintLast Go.Proofs.YtofpohpflpdbiaaW.PrintMore Go.Proofs.YtofpohpflpdbiaaV
attribute [local go_sem] isSome_setCell max2_int min2_int max_two min_two max_three min_three max_four min_four   
set_option linter.unusedVariables false
set_option linter.unusedSimpArgs false
def laws_toSlotS.l0 : Nat → List (S61) → List (S54) → Int → Option ((List (S54)))
  | 0, _, _, _ => none
  | k + 1, x0, x3, x4 => if x4 < (x0.length : Int) then (if 0 ≤ x4 then ((laws_toSlot.f ((rd_T61 x0 x4).f0) ((rd_T61 x0 x4).f1)).bind fun bt180 => (if x4 < (x3.length : Int) then (laws_toSlotS.l0 k x0 (x3.set (x4 : Int).toNat (⟨bt180.1, bt180.2⟩ : S54)) (wrap64 (x4 + 1))) else (none))) else (none)) else (some x3)
def laws_toSlotS.f (k : Nat) (l0 : List (S61)) : Option ((List (S54))) := if 0 ≤ (l0.length : Int) then (if ((l0.length : Int) : Int).toNat ≤ 17592186044416 then (laws_toSlotS.l0 k l0 (List.replicate ((l0.length : Int) : Int).toNat z54) 0) else (none)) else (none)
theorem laws_toSlotS.mono_l : ∀ k, (∀ y0 y1 y2, LeO (laws_toSlotS.l0 k y0 y1 y2) (laws_toSlotS.l0 (k + 1) y0 y1 y2))
  | 0 => fun _ _ _ r h => by simp [laws_toSlotS.l0] at h
  | k + 1 => by
    have ih0 := laws_toSlotS.mono_l k
    · intro y0 y1 y2
      unfold laws_toSlotS.l0
      repeat' first
      | (with_reducible exact ih0 _ _ _)
      | (with_reducible exact LeO.refl _)
      | (with_reducible exact LeO.none _)
      | (with_reducible refine LeO.ite ?_ ?_)
      | (with_reducible refine LeO.bind ?_ (fun _ => ?_))
      | exact ih0 _ _ _
      | exact LeO.none _
      | refine LeO.ite ?_ ?_
      | refine LeO.bind ?_ (fun _ => ?_)
theorem laws_toSlotS.mono : ∀ a0 k, LeO (laws_toSlotS.f k a0) (laws_toSlotS.f (k + 1) a0) := by
  intro a0 k
  have ih0 := laws_toSlotS.mono_l k
  unfold laws_toSlotS.f
  repeat' first
      | (with_reducible exact ih0 _ _ _)
      | (with_reducible exact LeO.refl _)
      | (with_reducible exact LeO.none _)
      | (with_reducible refine LeO.ite ?_ ?_)
      | (with_reducible refine LeO.bind ?_ (fun _ => ?_))
      | exact ih0 _ _ _
      | exact LeO.none _
      | refine LeO.ite ?_ ?_
      | refine LeO.bind ?_ (fun _ => ?_)
set_option maxHeartbeats 8000000 in
set_option maxRecDepth 100000 in
theorem laws_toSlotS.calls (k : Nat) (A0 : Option Addr) (c0 : Nat) (l0 : List (S61)) (r : List (S54)) (w : World) (hr0 : Kd.C k61 w A0 l0.length l0) (hc0 : l0.length ≤ c0) (h : laws_toSlotS.f k l0 = some r) :
    Calls Try.prog 30 #[.slice A0 l0.length c0] w fun e w' => ∃ v0_ : Value, e = .returned (v0_) ∧ Kd.R k54 54 w' w.heap.size (fun _ => True) v0_ r ∧ Below w.heap.size w w' := by
  have hu61 := Try.underlying61
  have hu54 := Try.underlying54
  have HR0 := Aside0.mk hr0
  have HC0 := Aside0.mk hc0
  clear hr0 hc0
  have HB := Aside0.mk (Below.refl w.heap.size w)
  have H : (if 0 ≤ (l0.length : Int) then (if ((l0.length : Int) : Int).toNat ≤ 17592186044416 then (laws_toSlotS.l0 k l0 (List.replicate ((l0.length : Int) : Int).toNat z54) 0) else (none)) else (none)) = some r := h
  clear h
  by_cases c2 : 0 ≤ (l0.length : Int)
  · rw [if_pos c2] at H
    have c2b0 := eq_true c2
    have c2b1 : decide (0 ≤ (l0.length : Int)) = true := decide_eq_true c2
    clear c2
    by_cases c3 : ((l0.length : Int) : Int).toNat ≤ 17592186044416
    · rw [if_pos c3] at H
      have c3b0 := eq_true c3
      have c3b1 : decide (((l0.length : Int) : Int).toNat ≤ 17592186044416) = true := decide_eq_true c3
      clear c3
      obtain ⟨y176, hy176⟩ : ∃ y_ : List (S54), y_ = (List.replicate ((l0.length : Int) : Int).toNat z54) := ⟨_, rfl⟩
      replace H : (laws_toSlotS.l0 k l0 y176 0) = some r := by first | (rw [hy176]; with_reducible exact H) | (have H2_ := (Option.bind_some _ _).symm.trans H; rw [hy176]; with_reducible exact H2_) | (have H2_ := (Option.bind_some _ _).symm.trans H; with_reducible exact H2_) | with_reducible exact H | (rw [hy176]; exact H) | exact H
      have Ny176 := Aside0.mk hy176
      clear hy176
      have H' := Aside0.mk H
      clear H
      go_enter Try.func30, Try.ntmps30
      go_wp2_with (first | ((with_reducible refine gate_dst (N := 7) rfl ?_); refine Kd.R_make k54 _ 54 rfl (N := 7) rfl 26 _ _ rfl (l0.length : Int) rfl rfl Try.underlying26 (.agg #[(.int .i64 0), (.int .i64 0)]) 16 info54 rfl (by decide) (by omega) z54 (ok := fun _ => True) (okp := fun _ => True) (k54_mkM _ _ _ z54 ) (fun _ hk => hk) trivial (of_decide_eq_true (by first | (with_reducible assumption) | assumption)) (Nat.le_trans (Nat.mul_le_mul_right _ (of_decide_eq_true (by first | (with_reducible assumption) | assumption) : (l0.length : Int).toNat ≤ 17592186044416)) (by omega)) (Below.refl _ _) (Nat.le_refl _) ?_; intro v177 w4 ho5 hb hg_ hnew_; clear hg_ hnew_; (first | rw [← Ny176.out] at ho5 | (simp only [Int.reduceToNat] at ho5; rw [← Ny176.out] at ho5)); have n0_ := Aside0.mk (Kd.R_lower ho5 (below_size (by repeat (first | (with_reducible first | exact HB.out | apply below_alloc | apply pw_below_drewN | apply below_drew1) | exact HB.out)))); have n1_ := Aside0.mk (below_step (by repeat (first | (with_reducible first | exact HB.out | apply below_alloc | apply pw_below_drewN | apply below_drew1) | exact HB.out)) hb); clear HB; have HO178 := n0_; have HB := n1_; clear n0_ n1_; clear hb ho5))
      go_loopg [4] k (fun kq v4 w' => ∃ (x3_1 : List (S54)) (x4_1 : Int), v4 = .int .i64 x4_1 ∧ Aside0 (laws_toSlotS.l0 kq l0 x3_1 x4_1 = some r) ∧ Aside0 (kq ≤ k) ∧ Aside0 (Kd.R k54 54 w' w.heap.size (fun _ => True) v177 x3_1) ∧ Aside0 (Below w.heap.size w w'))
      case atStart => exact ⟨(y176), (0), (by first | rfl | (simp; done) | (simp [*]; done)), H', ⟨Nat.le_refl _⟩, ⟨by (with_reducible repeat (first | apply Kd.R_alloc | apply Kd.R_drewN | apply Kd.R_drew)); exact HO178.out⟩, ⟨by repeat (first | (with_reducible first | exact HB.out | apply below_alloc | apply pw_below_drewN | apply below_drew1) | exact HB.out)⟩⟩
      case round =>
        clear H'
        try clear c2
        try clear c2b0
        try clear c2b1
        try clear p2
        try clear c3
        try clear c3b0
        try clear c3b1
        obtain ⟨x3_1, x4_1, rfl, HA, HK1, HO_3, HB⟩ := hrel
        cases gk with
        | zero => exact absurd HA.out (by simp [laws_toSlotS.l0])
        | succ k1 =>
          have H := HA.out
          clear HA
          simp only [laws_toSlotS.l0] at H
          by_cases c6 : x4_1 < (l0.length : Int)
          · rw [if_pos c6] at H
            have c6b0 : decide (x4_1 < (l0.length : Int)) = true := decide_eq_true c6
            clear c6
            by_cases c7 : 0 ≤ x4_1
            · rw [if_pos c7] at H
              have c7b0 : decide (0 ≤ x4_1) = true := decide_eq_true c7
              clear c7
              replace H := Option.bind_eq_some_iff.mp H
              obtain ⟨⟨t180, t181⟩, A80, H⟩ := H
              replace H : (if x4_1 < (x3_1.length : Int) then (laws_toSlotS.l0 k1 l0 (x3_1.set (x4_1 : Int).toNat (⟨t180, t181⟩ : S54)) (wrap64 (x4_1 + 1))) else (none)) = some r := H
              have A8 := Aside0.mk A80
              clear A80
              by_cases c9 : x4_1 < (x3_1.length : Int)
              · rw [if_pos c9] at H
                have c9b0 : decide (x4_1 < (x3_1.length : Int)) = true := decide_eq_true c9
                clear c9
                obtain ⟨y182, hy182⟩ : ∃ y_ : List (S54), y_ = (x3_1.set (x4_1 : Int).toNat (⟨t180, t181⟩ : S54)) := ⟨_, rfl⟩
                replace H : (laws_toSlotS.l0 k1 l0 y182 (wrap64 (x4_1 + 1))) = some r := by first | (rw [hy182]; with_reducible exact H) | (have H2_ := (Option.bind_some _ _).symm.trans H; rw [hy182]; with_reducible exact H2_) | (have H2_ := (Option.bind_some _ _).symm.trans H; with_reducible exact H2_) | with_reducible exact H | (rw [hy182]; exact H) | exact H
                have Ny182 := Aside0.mk hy182
                clear hy182
                have H' := Aside0.mk H
                clear H
                have p179 : 0 ≤ (x4_1 : Int) := of_decide_eq_true (by first | (with_reducible assumption) | assumption)
                have q179 : x4_1 < (l0.length : Int) := of_decide_eq_true (by first | (with_reducible assumption) | assumption)
                obtain ⟨ad179, e179, hx179_0, hx179_1⟩ := at_T61 HR0.out x4_1 p179 q179
                cases e179
                replace hx179_0 := (HB.out.cell (World.block_lt_of_cell? w _ hx179_0)).trans hx179_0
                replace hx179_1 := (HB.out.cell (World.block_lt_of_cell? w _ hx179_1)).trans hx179_1
                replace p179 := eq_true p179
                replace q179 := eq_true q179
                go_wp2_with (first | ((with_reducible refine gate_callee (f := 46) rfl ?_); refine goesL_ (some 20) rfl rfl Try.func46 (by kernel_rfl) rfl #[.agg #[.int .i64 ((rd_T61 l0 x4_1).f0), .int .i64 ((rd_T61 l0 x4_1).f1)]] rfl (by (try simp only [List.map_toArray, List.map_cons, List.map_nil]); first | done | rfl | (simp only [List.length_drop, List.length_take]; rfl)) ?_; (with_reducible refine (laws_toSlot.calls ((rd_T61 l0 x4_1).f0) ((rd_T61 l0 x4_1).f1) t180 t181 _ A8.out).mono ?_); rintro e w11 ⟨rfl, hb⟩; refine ⟨_, rfl, ?_⟩; have n0_ := Aside0.mk (Kd.R_below (by (with_reducible repeat (first | apply Kd.R_alloc | apply Kd.R_drewN | apply Kd.R_drew)); exact HO_3.out) hb); have n1_ := Aside0.mk (below_step (by repeat (first | (with_reducible first | exact HB.out | apply below_alloc | apply pw_below_drewN | apply below_drew1) | exact HB.out)) hb); clear HO_3; clear HB; have HO_3 := n0_; have HB := n1_; clear n0_ n1_; (try clear hb); (try clear hb2); (try clear hk); (try clear hi); have p10 : 0 ≤ (x4_1 : Int) := of_decide_eq_true (by first | (with_reducible assumption) | assumption); have q10 : (x4_1 : Int) < ((x3_1.length : Int) : Int) := of_decide_eq_true (by first | (with_reducible assumption) | assumption); obtain ⟨go10, co10, eo10, gb10, gl10, cl10, HG10⟩ := Kd.R_form HO_3.out (by omega); (first | cases eo10 | (injection eo10 with ea_ en_ ec_; (first | subst ea_ | (injection ea_ with ea_; subst ea_)); subst ec_; clear en_)); have GB10 := Aside0.mk gb10; have GG10 := Aside0.mk HG10; clear gb10 gl10 HG10; obtain ⟨ce10, hcl10, hM10, hcc10, hfr10⟩ := Kd.R_elem HO_3.out z54 (x4_1 : Int) p10 q10; obtain rfl := k54_openM hM10; have hx10_0 : w11.cell? ⟨go10, (x4_1 : Int).toNat * 2, none⟩ = some (.int .i64 ((rd_T54 x3_1 x4_1).f0)) := hcc10 0 _ rfl; have hx10_1 : w11.cell? ⟨go10, (x4_1 : Int).toNat * 2 + 1, none⟩ = some (.int .i64 ((rd_T54 x3_1 x4_1).f1)) := hcc10 1 _ rfl; have hf10_0 : w11.frozen? ⟨go10, (x4_1 : Int).toNat * 2, none⟩ = false := hfr10 0; have hf10_1 : w11.frozen? ⟨go10, (x4_1 : Int).toNat * 2 + 1, none⟩ = false := hfr10 1; clear hcl10 hcc10 hfr10 hM10; replace p10 := eq_true p10; replace q10 := eq_true q10; have HX12 := Aside0.mk (show Kd.R k54 54 w11 w.heap.size (fun _ => True) (.slice (some ⟨go10, 0, none⟩) x3_1.length co10) x3_1 from (by (with_reducible repeat (first | apply Kd.R_alloc | apply Kd.R_drewN | apply Kd.R_drew)); exact HO_3.out)); obtain ⟨ce12, hcl12, hM12, hcc12, hfr12⟩ := Kd.R_elem HX12.out z54 (x4_1 : Int) (of_decide_eq_true (by first | (with_reducible assumption) | assumption)) (by have h_ : (x4_1 : Int) < ((x3_1.length : Int) : Int) := of_decide_eq_true (by first | (with_reducible assumption) | assumption); first | exact h_ | (have e_ := (Kd.R_reads' HO_3.out).1; omega) | simpa using h_); obtain rfl := k54_openM hM12; have HP12 := Kd.R_seg HX12.out (x4_1 : Int) (of_decide_eq_true (by first | (with_reducible assumption) | assumption)) (by have h_ : (x4_1 : Int) < ((x3_1.length : Int) : Int) := of_decide_eq_true (by first | (with_reducible assumption) | assumption); first | exact h_ | (have e_ := (Kd.R_reads' HO_3.out).1; omega) | simpa using h_) (seg := [.int .i64 t180, .int .i64 t181]) (j := 0) hcl12 hcc12 (show 2 ≤ 2 from by decide) (x' := (⟨t180, t181⟩ : S54)) (k54_mkM _ _ _ (⟨t180, t181⟩ : S54) ) (fun _ hk => hk); have hx12_0 := hcc12 0 _ rfl; (try simp only [show (k54).sz = 2 from rfl, Nat.mul_one, Nat.add_zero] at hx12_0); have hf12_0 := hfr12 0; (try simp only [show (k54).sz = 2 from rfl, Nat.mul_one, Nat.add_zero] at hf12_0); have hx12_1 := hcc12 1 _ rfl; (try simp only [show (k54).sz = 2 from rfl, Nat.mul_one, Nat.add_zero] at hx12_1); have hf12_1 := hfr12 1; (try simp only [show (k54).sz = 2 from rfl, Nat.mul_one, Nat.add_zero] at hf12_1); clear hcl12 hcc12 hfr12 hM12) | ((with_reducible refine gate_store (t := 54) (p := 21) rfl ?_); refine store_event (t := 54) (p := 21) (v := ?vo_w13) (w1 := ((w11.setCell ⟨go10, (x4_1 : Int).toNat * 2, none⟩ (.int .i64 t180)).setCell ⟨go10, (x4_1 : Int).toNat * 2 + 1, none⟩ (.int .i64 t181))) ?hg ?ho ?hn ?hr ?_; (case ho => rfl); (case hg => rfl); (case hn => rfl); (case hr => first | (go_simp; done) | (go_simp; rfl)); intro w13 hw; have hg : w11.grownBy w13 (some go10) := (by rw [hw]; exact HP12.2); have hp_ : Kd.R k54 54 w13 w.heap.size (fun _ => True) (.slice (some ⟨go10, 0, none⟩) x3_1.length co10) y182 := (by rw [hw, Ny182.out]; exact HP12.1); clear HP12; have n0_ := Aside0.mk (hp_); have n1_ := Aside0.mk ((by rw [hw]; exact below_set (below_set (HB.out) GB10.out) GB10.out : Below w.heap.size w w13)); clear HO_3; clear HB; have HO_3 := n0_; have HB := n1_; clear n0_ n1_; clear hg hw hp_))
                go_roundg k1
                case measure => have := HK1.out; omega
                case rel => exact ⟨(y182), (wrap64 (x4_1 + 1)), (by first | rfl | (simp; done) | (simp [*]; done)), H', ⟨by have := HK1.out; omega⟩, ⟨by (with_reducible repeat (first | apply Kd.R_alloc | apply Kd.R_drewN | apply Kd.R_drew)); exact HO_3.out⟩, ⟨by repeat (first | (with_reducible first | exact HB.out | apply below_alloc | apply pw_below_drewN | apply below_drew1) | exact HB.out)⟩⟩
              · rw [if_neg c9] at H
                exact absurd H (by simp)
            · rw [if_neg c7] at H
              exact absurd H (by simp)
          · rw [if_neg c6] at H
            have c6b0 : decide (x4_1 < (l0.length : Int)) = false := decide_eq_false c6
            clear c6
            obtain rfl := Option.some.inj H
            go_wp2
            go_ret
            exact ⟨_, by first | rfl | (simp [errW_none, errW_some] <;> rfl) | (simp [*, errW_none, errW_some] <;> rfl), by (with_reducible repeat (first | apply Kd.R_alloc | apply Kd.R_drewN | apply Kd.R_drew)); exact HO_3.out, by repeat (first | (with_reducible first | exact HB.out | apply below_alloc | apply pw_below_drewN | apply below_drew1) | exact HB.out)⟩
    · rw [if_neg c3] at H
      exact absurd H (by simp)
  · rw [if_neg c2] at H
    exact absurd H (by simp)
end Go.Proofs.Ytofpohpflpdbiaa.H
namespace Go.Proofs.Ytofpohpflpdbiaa.H
open Go.RowKit Go.Proofs.YtofpohpflpdbiaaW.PrintWords Go.Proofs.YtofpohpflpdbiaaW.PrintLast Go.Proofs.YtofpohpflpdbiaaW.PrintMore Go.Proofs.YtofpohpflpdbiaaV
attribute [local go_sem] isSome_setCell max2_int min2_int max_two min_two max_three min_three max_four min_four   
set_option linter.unusedVariables false
set_option linter.unusedSimpArgs false
def laws_toHeavy.f (k : Nat) (a0_0 : Int) (l0_1 : List (S61)) (a0_2 : Int) (a0_3 : Int) : Option (Int × (List (S54)) × Int × Int) := (laws_toSlotS.f k l0_1).bind fun t186 => (some (a0_0, t186, a0_2, a0_3))
theorem laws_toHeavy.mono : ∀ a0 a1 a2 a3 k, LeO (laws_toHeavy.f k a0 a1 a2 a3) (laws_toHeavy.f (k + 1) a0 a1 a2 a3) := by
  intro a0 a1 a2 a3 k
  unfold laws_toHeavy.f
  repeat' first
      | (with_reducible exact laws_toSlotS.mono _ _)
      | (with_reducible exact LeO.refl _)
      | (with_reducible exact LeO.none _)
      | (with_reducible refine LeO.ite ?_ ?_)
      | (with_reducible refine LeO.bind ?_ (fun _ => ?_))
      | exact laws_toSlotS.mono _ _
      | exact LeO.none _
      | refine LeO.ite ?_ ?_
      | refine LeO.bind ?_ (fun _ => ?_)
set_option maxHeartbeats 8000000 in
set_option maxRecDepth 100000 in
theorem laws_toHeavy.calls (k : Nat) (a0_0 : Int) (A0_1 : Option Addr) (c0_1 : Nat) (l0_1 : List (S61)) (a0_2 : Int) (a0_3 : Int) (r1 : Int) (r2 : List (S54)) (r3 : Int) (r4 : Int) (w : World) (hr0_1 : Kd.C k61 w A0_1 l0_1.length l0_1) (hc0_1 : l0_1.length ≤ c0_1) (h : laws_toHeavy.f k a0_0 l0_1 a0_2 a0_3 = some (r1, r2, r3, r4)) :
    Calls Try.prog 9 #[.agg #[.int .i64 a0_0, .slice A0_1 l0_1.length c0_1, .int .i64 a0_2, .int .i64 a0_3]] w fun e w' => ∃ v1_ : Value, e = .returned (.agg #[.int .i64 r1, v1_, .int .i64 r3, .int .i64 r4]) ∧ Kd.R k54 54 w' w.heap.size (fun _ => True) v1_ r2 ∧ Below w.heap.size w w' := by
  have hu24 := Try.underlying24
  have hu28 := Try.underlying28
  have HR0_1 := Aside0.mk hr0_1
  have HC0_1 := Aside0.mk hc0_1
  clear hr0_1 hc0_1
  have HB := Aside0.mk (Below.refl w.heap.size w)
  have H : ((laws_toSlotS.f k l0_1).bind fun t186 => (some (a0_0, t186, a0_2, a0_3))) = some (r1, r2, r3, r4) := h
  clear h
  replace H := Option.bind_eq_some_iff.mp H
  obtain ⟨t186, A20, H⟩ := H
  replace H : (some (a0_0, t186, a0_2, a0_3)) = some (r1, r2, r3, r4) := H
  have A2 := Aside0.mk A20
  clear A20
  simp only [Option.some.injEq, Prod.mk.injEq] at H
  obtain ⟨rfl, rfl, rfl, rfl⟩ := H
  go_enter Try.func9, Try.ntmps9
  go_wp2_with (first | ((with_reducible refine gate_dst (N := 1) rfl ?_); refine box_event ?hg (N := 1) ?hd (cs := #[.int .i64 a0_0, .slice A0_1 l0_1.length c0_1, .int .i64 a0_2, .int .i64 a0_3]) (t := 24) ?hr ?_; (case hd => rfl); (case hg => rfl); (case hr => first | (go_simp; done) | (go_simp; rfl)); intro gb183 hg w3 hbox hb; have n0_ := Aside0.mk (below_step (by repeat (first | (with_reducible first | exact HB.out | apply below_alloc | apply pw_below_drewN | apply below_drew1) | exact HB.out)) hb); have n1_ := Aside0.mk (hbox); have n2_ := Aside0.mk ((by rw [hg]; exact (below_size (by repeat (first | (with_reducible first | exact HB.out | apply below_alloc | apply pw_below_drewN | apply below_drew1) | exact HB.out))) : w.heap.size ≤ gb183)); have n3_ := Aside0.mk ((by rw [hg]; exact (below_size (by repeat (first | (with_reducible first | exact HB.out | apply below_alloc | apply pw_below_drewN | apply below_drew1) | exact HB.out))) : w.heap.size ≤ gb183)); clear HB; have HB := n0_; have BK183 := n1_; have GW183 := n2_; have GE183 := n3_; clear n0_ n1_ n2_ n3_; clear hb hbox hg) | ((with_reducible refine gate_dst (N := 2) rfl ?_); refine box_event ?hg (N := 2) ?hd (cs := #[.int .i64 0, .slice none 0 0, .int .i64 0, .int .i64 0]) (t := 28) ?hr ?_; (case hd => rfl); (case hg => rfl); (case hr => first | (go_simp; done) | (go_simp; rfl)); intro gb184 hg w4 hbox hb; have n0_ := Aside0.mk (blk_below (g := gb183) (o := .cells #[.int .i64 a0_0, .slice A0_1 l0_1.length c0_1, .int .i64 a0_2, .int .i64 a0_3] 24 (0, 0)) (by (with_reducible repeat (first | refine blk_drewN ?_ _ | refine blk_drew ?_ | refine blk_alloc ?_ _)); exact BK183.out) hb); have n1_ := Aside0.mk (below_step (by repeat (first | (with_reducible first | exact HB.out | apply below_alloc | apply pw_below_drewN | apply below_drew1 | refine below_set ?_ GE183.out) | exact HB.out)) hb); have n2_ := Aside0.mk (hbox); have n3_ := Aside0.mk ((by rw [hg]; exact (below_size (by repeat (first | (with_reducible first | exact HB.out | apply below_alloc | apply pw_below_drewN | apply below_drew1 | refine below_set ?_ GE183.out) | exact HB.out))) : w.heap.size ≤ gb184)); have n4_ := Aside0.mk ((by rw [hg]; exact (below_size (by repeat (first | (with_reducible first | exact HB.out | apply below_alloc | apply pw_below_drewN | apply below_drew1 | refine below_set ?_ GE183.out) | exact HB.out))) : w.heap.size ≤ gb184)); have n5_ := Aside0.mk ((by rw [hg]; exact Nat.ne_of_lt (blk_lt (g := gb183) (o := .cells #[.int .i64 a0_0, .slice A0_1 l0_1.length c0_1, .int .i64 a0_2, .int .i64 a0_3] 24 (0, 0)) (by (with_reducible repeat (first | refine blk_drewN ?_ _ | refine blk_drew ?_ | refine blk_alloc ?_ _)); exact BK183.out)) : gb183 ≠ gb184)); have n6_ := Aside0.mk ((by rw [hg]; exact Nat.ne_of_gt (blk_lt (g := gb183) (o := .cells #[.int .i64 a0_0, .slice A0_1 l0_1.length c0_1, .int .i64 a0_2, .int .i64 a0_3] 24 (0, 0)) (by (with_reducible repeat (first | refine blk_drewN ?_ _ | refine blk_drew ?_ | refine blk_alloc ?_ _)); exact BK183.out)) : gb184 ≠ gb183)); clear BK183; clear HB; have BK183 := n0_; have HB := n1_; have BK184 := n2_; have GW184 := n3_; have GE184 := n4_; have NB183_184 := n5_; have NB184_183 := n6_; clear n0_ n1_ n2_ n3_ n4_ n5_ n6_; clear hb hbox hg) | ((with_reducible refine gate_dst (N := 3) rfl ?_); refine box_event ?hg (N := 3) ?hd (cs := #[.int .i64 0, .slice none 0 0, .int .i64 0, .int .i64 0]) (t := 28) ?hr ?_; (case hd => rfl); (case hg => rfl); (case hr => first | (go_simp; done) | (go_simp; rfl)); intro gb185 hg w5 hbox hb; have n0_ := Aside0.mk (blk_below (g := gb183) (o := .cells #[.int .i64 a0_0, .slice A0_1 l0_1.length c0_1, .int .i64 a0_2, .int .i64 a0_3] 24 (0, 0)) (by (with_reducible repeat (first | refine blk_drewN ?_ _ | refine blk_drew ?_ | refine blk_alloc ?_ _)); exact BK183.out) hb); have n1_ := Aside0.mk (blk_below (g := gb184) (o := .cells #[.int .i64 0, .slice none 0 0, .int .i64 0, .int .i64 0] 28 (0, 0)) (by (with_reducible repeat (first | refine blk_drewN ?_ _ | refine blk_drew ?_ | refine blk_alloc ?_ _)); exact BK184.out) hb); have n2_ := Aside0.mk (below_step (by repeat (first | (with_reducible first | exact HB.out | apply below_alloc | apply pw_below_drewN | apply below_drew1 | refine below_set ?_ GE183.out | refine below_set ?_ GE184.out) | exact HB.out)) hb); have n3_ := Aside0.mk (hbox); have n4_ := Aside0.mk ((by rw [hg]; exact (below_size (by repeat (first | (with_reducible first | exact HB.out | apply below_alloc | apply pw_below_drewN | apply below_drew1 | refine below_set ?_ GE183.out | refine below_set ?_ GE184.out) | exact HB.out))) : w.heap.size ≤ gb185)); have n5_ := Aside0.mk ((by rw [hg]; exact (below_size (by repeat (first | (with_reducible first | exact HB.out | apply below_alloc | apply pw_below_drewN | apply below_drew1 | refine below_set ?_ GE183.out | refine below_set ?_ GE184.out) | exact HB.out))) : w.heap.size ≤ gb185)); have n6_ := Aside0.mk ((by rw [hg]; exact Nat.ne_of_lt (blk_lt (g := gb183) (o := .cells #[.int .i64 a0_0, .slice A0_1 l0_1.length c0_1, .int .i64 a0_2, .int .i64 a0_3] 24 (0, 0)) (by (with_reducible repeat (first | refine blk_drewN ?_ _ | refine blk_drew ?_ | refine blk_alloc ?_ _)); exact BK183.out)) : gb183 ≠ gb185)); have n7_ := Aside0.mk ((by rw [hg]; exact Nat.ne_of_gt (blk_lt (g := gb183) (o := .cells #[.int .i64 a0_0, .slice A0_1 l0_1.length c0_1, .int .i64 a0_2, .int .i64 a0_3] 24 (0, 0)) (by (with_reducible repeat (first | refine blk_drewN ?_ _ | refine blk_drew ?_ | refine blk_alloc ?_ _)); exact BK183.out)) : gb185 ≠ gb183)); have n8_ := Aside0.mk ((by rw [hg]; exact Nat.ne_of_lt (blk_lt (g := gb184) (o := .cells #[.int .i64 0, .slice none 0 0, .int .i64 0, .int .i64 0] 28 (0, 0)) (by (with_reducible repeat (first | refine blk_drewN ?_ _ | refine blk_drew ?_ | refine blk_alloc ?_ _)); exact BK184.out)) : gb184 ≠ gb185)); have n9_ := Aside0.mk ((by rw [hg]; exact Nat.ne_of_gt (blk_lt (g := gb184) (o := .cells #[.int .i64 0, .slice none 0 0, .int .i64 0, .int .i64 0] 28 (0, 0)) (by (with_reducible repeat (first | refine blk_drewN ?_ _ | refine blk_drew ?_ | refine blk_alloc ?_ _)); exact BK184.out)) : gb185 ≠ gb184)); clear BK183; clear BK184; clear HB; have BK183 := n0_; have BK184 := n1_; have HB := n2_; have BK185 := n3_; have GW185 := n4_; have GE185 := n5_; have NB183_185 := n6_; have NB185_183 := n7_; have NB184_185 := n8_; have NB185_184 := n9_; clear n0_ n1_ n2_ n3_ n4_ n5_ n6_ n7_ n8_ n9_; clear hb hbox hg; have hnb6 := NB183_184.out; have hnc6 := NB184_183.out; have hnb7 := NB183_185.out; have hnc7 := NB185_183.out; have hcz8_0 : w5.cell? ⟨gb183, 0, none⟩ = some (.int .i64 a0_0) := (blk_cell BK183.out 0).trans rfl; have hcz8_1 : w5.cell? ⟨gb183, 1, none⟩ = some (.slice A0_1 l0_1.length c0_1) := (blk_cell BK183.out 1).trans rfl; have hcz8_2 : w5.cell? ⟨gb183, 2, none⟩ = some (.int .i64 a0_2) := (blk_cell BK183.out 2).trans rfl; have hcz8_3 : w5.cell? ⟨gb183, 3, none⟩ = some (.int .i64 a0_3) := (blk_cell BK183.out 3).trans rfl; have hfz8_0 := blk_frozen BK183.out 0; have hfz8_1 := blk_frozen BK183.out 1; have hfz8_2 := blk_frozen BK183.out 2; have hfz8_3 := blk_frozen BK183.out 3; have hnb9 := NB185_184.out; have hnc9 := NB184_185.out; have hcz10_0 : w5.cell? ⟨gb185, 0, none⟩ = some (.int .i64 0) := (blk_cell BK185.out 0).trans rfl; have hcz10_1 : w5.cell? ⟨gb185, 1, none⟩ = some (.slice none 0 0) := (blk_cell BK185.out 1).trans rfl; have hcz10_2 : w5.cell? ⟨gb185, 2, none⟩ = some (.int .i64 0) := (blk_cell BK185.out 2).trans rfl; have hcz10_3 : w5.cell? ⟨gb185, 3, none⟩ = some (.int .i64 0) := (blk_cell BK185.out 3).trans rfl; have hfz10_0 := blk_frozen BK185.out 0; have hfz10_1 := blk_frozen BK185.out 1; have hfz10_2 := blk_frozen BK185.out 2; have hfz10_3 := blk_frozen BK185.out 3) | ((with_reducible refine gate_callee (f := 30) rfl ?_); refine goesL_ (some 9) rfl rfl Try.func30 (by kernel_rfl) rfl #[.slice A0_1 l0_1.length c0_1] rfl (by (try simp only [List.map_toArray, List.map_cons, List.map_nil]); first | done | rfl | (simp only [List.length_drop, List.length_take]; rfl)) ?_; (with_reducible refine (laws_toSlotS.calls k _ _ l0_1 t186 _ ?side1 ?side2 A2.out).mono ?_); (case side1 => exact Kd.C_below HR0_1.out (by repeat (first | (with_reducible first | exact HB.out | apply below_alloc | apply pw_below_drewN | apply below_drew1 | refine below_set ?_ GE183.out | refine below_set ?_ GE184.out | refine below_set ?_ GE185.out) | exact HB.out))); (case side2 => exact HC0_1.out); rintro e w11 ⟨v187, rfl, ho0, hb⟩; refine ⟨_, rfl, ?_⟩; have n0_ := Aside0.mk (Kd.R_lower ho0 (below_size (by repeat (first | (with_reducible first | exact HB.out | apply below_alloc | apply pw_below_drewN | apply below_drew1 | refine below_set ?_ GE183.out | refine below_set ?_ GE184.out | refine below_set ?_ GE185.out) | exact HB.out)))); have n1_ := Aside0.mk (blk_below (g := gb183) (o := .cells #[.int .i64 a0_0, .slice A0_1 l0_1.length c0_1, .int .i64 a0_2, .int .i64 a0_3] 24 (0, 0)) (by (with_reducible repeat (first | refine blk_drewN ?_ _ | refine blk_drew ?_ | refine blk_alloc ?_ _)); refine blk_far ?_ NB183_185.out _; (with_reducible repeat (first | refine blk_drewN ?_ _ | refine blk_drew ?_ | refine blk_alloc ?_ _)); exact BK183.out) hb); have n2_ := Aside0.mk (blk_below (g := gb184) (o := .cells #[.int .i64 0, .slice none 0 0, .int .i64 0, .int .i64 0] 28 (0, 0)) (by (with_reducible repeat (first | refine blk_drewN ?_ _ | refine blk_drew ?_ | refine blk_alloc ?_ _)); refine blk_far ?_ NB184_185.out _; (with_reducible repeat (first | refine blk_drewN ?_ _ | refine blk_drew ?_ | refine blk_alloc ?_ _)); exact BK184.out) hb); have n3_ := Aside0.mk (blk_below (g := gb185) (o := .cells #[.int .i64 a0_0, .slice none 0 0, .int .i64 0, .int .i64 0] 28 (0, 0)) (by (with_reducible repeat (first | refine blk_drewN ?_ _ | refine blk_drew ?_ | refine blk_alloc ?_ _)); refine blk_put (cs := #[.int .i64 0, .slice none 0 0, .int .i64 0, .int .i64 0]) ?_ 0 _ rfl; (with_reducible repeat (first | refine blk_drewN ?_ _ | refine blk_drew ?_ | refine blk_alloc ?_ _)); exact BK185.out) hb); have n4_ := Aside0.mk (below_step (by repeat (first | (with_reducible first | exact HB.out | apply below_alloc | apply pw_below_drewN | apply below_drew1 | refine below_set ?_ GE183.out | refine below_set ?_ GE184.out | refine below_set ?_ GE185.out) | exact HB.out)) hb); clear BK183; clear BK184; clear BK185; clear HB; have HO188 := n0_; have BK183 := n1_; have BK184 := n2_; have BK185 := n3_; have HB := n4_; clear n0_ n1_ n2_ n3_ n4_; (try clear hb); (try clear hb2); (try clear hk); (try clear hi); (try clear ho0); obtain ⟨Ao12, co12, eo12⟩ := Kd.R_slice HO188.out; subst eo12; have hcz13_0 : w11.cell? ⟨gb185, 0, none⟩ = some (.int .i64 a0_0) := (blk_cell BK185.out 0).trans rfl; have hcz13_1 : w11.cell? ⟨gb185, 1, none⟩ = some (.slice none 0 0) := (blk_cell BK185.out 1).trans rfl; have hcz13_2 : w11.cell? ⟨gb185, 2, none⟩ = some (.int .i64 0) := (blk_cell BK185.out 2).trans rfl; have hcz13_3 : w11.cell? ⟨gb185, 3, none⟩ = some (.int .i64 0) := (blk_cell BK185.out 3).trans rfl; have hfz13_0 := blk_frozen BK185.out 0; have hfz13_1 := blk_frozen BK185.out 1; have hfz13_2 := blk_frozen BK185.out 2; have hfz13_3 := blk_frozen BK185.out 3; have hcz14_0 : w11.cell? ⟨gb183, 0, none⟩ = some (.int .i64 a0_0) := (blk_cell BK183.out 0).trans rfl; have hcz14_1 : w11.cell? ⟨gb183, 1, none⟩ = some (.slice A0_1 l0_1.length c0_1) := (blk_cell BK183.out 1).trans rfl; have hcz14_2 : w11.cell? ⟨gb183, 2, none⟩ = some (.int .i64 a0_2) := (blk_cell BK183.out 2).trans rfl; have hcz14_3 : w11.cell? ⟨gb183, 3, none⟩ = some (.int .i64 a0_3) := (blk_cell BK183.out 3).trans rfl; have hfz14_0 := blk_frozen BK183.out 0; have hfz14_1 := blk_frozen BK183.out 1; have hfz14_2 := blk_frozen BK183.out 2; have hfz14_3 := blk_frozen BK183.out 3; have hcz15_0 : w11.cell? ⟨gb184, 0, none⟩ = some (.int .i64 0) := (blk_cell BK184.out 0).trans rfl; have hcz15_1 : w11.cell? ⟨gb184, 1, none⟩ = some (.slice none 0 0) := (blk_cell BK184.out 1).trans rfl; have hcz15_2 : w11.cell? ⟨gb184, 2, none⟩ = some (.int .i64 0) := (blk_cell BK184.out 2).trans rfl; have hcz15_3 : w11.cell? ⟨gb184, 3, none⟩ = some (.int .i64 0) := (blk_cell BK184.out 3).trans rfl; have hfz15_0 := blk_frozen BK184.out 0; have hfz15_1 := blk_frozen BK184.out 1; have hfz15_2 := blk_frozen BK184.out 2; have hfz15_3 := blk_frozen BK184.out 3))
  refine bodyPost_ret (results_cell_row rfl _ _ gb184 28 #[.int .i64 a0_0, .slice Ao12 t186.length co12, .int .i64 a0_2, .int .i64 a0_3] (0, 0) _ rfl (by (with_reducible repeat (first | refine blk_drewN ?_ _ | refine blk_drew ?_ | refine blk_alloc ?_ _)); refine blk_put (cs := #[.int .i64 a0_0, .slice Ao12 t186.length co12, .int .i64 a0_2, .int .i64 0]) ?_ 3 _ rfl; (with_reducible repeat (first | refine blk_drewN ?_ _ | refine blk_drew ?_ | refine blk_alloc ?_ _)); refine blk_put (cs := #[.int .i64 a0_0, .slice Ao12 t186.length co12, .int .i64 0, .int .i64 0]) ?_ 2 _ rfl; (with_reducible repeat (first | refine blk_drewN ?_ _ | refine blk_drew ?_ | refine blk_alloc ?_ _)); refine blk_put (cs := #[.int .i64 a0_0, .slice none 0 0, .int .i64 0, .int .i64 0]) ?_ 1 _ rfl; (with_reducible repeat (first | refine blk_drewN ?_ _ | refine blk_drew ?_ | refine blk_alloc ?_ _)); refine blk_put (cs := #[.int .i64 0, .slice none 0 0, .int .i64 0, .int .i64 0]) ?_ 0 _ rfl; (with_reducible repeat (first | refine blk_drewN ?_ _ | refine blk_drew ?_ | refine blk_alloc ?_ _)); refine blk_far ?_ NB184_185.out _; (with_reducible repeat (first | refine blk_drewN ?_ _ | refine blk_drew ?_ | refine blk_alloc ?_ _)); refine blk_far ?_ NB184_185.out _; (with_reducible repeat (first | refine blk_drewN ?_ _ | refine blk_drew ?_ | refine blk_alloc ?_ _)); refine blk_far ?_ NB184_185.out _; (with_reducible repeat (first | refine blk_drewN ?_ _ | refine blk_drew ?_ | refine blk_alloc ?_ _)); exact BK184.out) Try.underlying28 rfl (by kernel_rfl)) rfl ?_
  exact ⟨_, by first | rfl | (simp [errW_none, errW_some] <;> rfl) | (simp [*, errW_none, errW_some] <;> rfl), by (with_reducible repeat (first | apply Kd.R_alloc | apply Kd.R_drewN | apply Kd.R_drew)); exact Kd.R_mono (Kd.R_far (p := ⟨gb184, 3, none⟩) (Kd.R_far (p := ⟨gb184, 2, none⟩) (Kd.R_far (p := ⟨gb184, 1, none⟩) (Kd.R_far (p := ⟨gb184, 0, none⟩) (Kd.R_far (p := ⟨gb185, 3, none⟩) (Kd.R_far (p := ⟨gb185, 2, none⟩) (Kd.R_far (p := ⟨gb185, 1, none⟩) (Kd.R_types (Kd.R_types HO188.out BK185.out (by decide)) BK184.out (by decide)) (fun _ hk => hk.1.2) (.slice Ao12 t186.length co12)) (fun _ hk => hk.1.2) (.int .i64 a0_2)) (fun _ hk => hk.1.2) (.int .i64 a0_3)) (fun _ hk => hk.2) (.int .i64 a0_0)) (fun _ hk => hk.2) (.slice Ao12 t186.length co12)) (fun _ hk => hk.2) (.int .i64 a0_2)) (fun _ hk => hk.2) (.int .i64 a0_3)) (fun _ hk => trivial), by repeat (first | (with_reducible first | exact HB.out | apply below_alloc | apply pw_below_drewN | apply below_drew1 | refine below_set ?_ GE183.out | refine below_set ?_ GE184.out | refine below_set ?_ GE185.out) | exact HB.out)⟩
end Go.Proofs.Ytofpohpflpdbiaa.H
namespace Go.Proofs.Ytofpohpflpdbiaa.HP
open Go.RowKit Go.Proofs.Ytofpohpflpdbiaa.H Go.Proofs.YtofpohpflpdbiaaW.PrintWords Go.Proofs.YtofpohpflpdbiaaW.PrintLast
set_option linter.unusedVariables false
set_option linter.unusedSimpArgs false
theorem nxt (i : Nat) (h : i < 4611686018427387904) : wrap64 ((i : Int) + 1) = ((i + 1 : Nat) : Int) := by unfold wrap64; omega
theorem prv (i : Nat) (h : i < 4611686018427387904) : wrap64 (((i + 1 : Nat) : Int) - 1) = ((i : Nat) : Int) := by unfold wrap64; omega
theorem rd54 (l : List S54) (i : Nat) (h : i < l.length) : rd_T54 l (i : Int) = l[i] := by simp [rd_T54, List.getD_eq_getElem?_getD, h]
theorem in_eq (x lo hi : Int) : spec_l01In.f x lo hi = some (decide (lo ≤ x ∧ x ≤ hi)) := by
  unfold spec_l01In.f; split <;> simp_all <;> omega
theorem within_eq (x lo hi : Int) : impl_within.f x lo hi = some (decide (lo ≤ x ∧ x ≤ hi)) := by
  unfold impl_within.f; split <;> simp_all <;> omega
theorem key_eq (x : Int) : spec_l13Key.f x = some (decide (0 ≤ x ∧ x ≤ 65535)) := by simp [spec_l13Key.f, in_eq]
theorem isKey_eq (x : Int) : impl_isKey.f x = some (decide (0 ≤ x ∧ x ≤ 65535)) := by simp [impl_isKey.f, within_eq]
theorem isMany_eq (x : Int) : impl_isMany.f x = some (decide (0 ≤ x ∧ x ≤ 1000000000)) := by simp [impl_isMany.f, within_eq]
theorem copy_l0 (l : List S54) (hl : l.length < 8796093022208) (a0 a2 a3 b0 b2 b3 : Int) : ∀ n i k, i + n = l.length → n < k → spec_l13Copy.l0 k (i : Int) a0 l a2 a3 b0 (l.take i) b2 b3 = some (b0, l, b2, b3) := by
  intro n
  induction n with
  | zero =>
    intro i k hi hk
    obtain ⟨k, rfl⟩ : ∃ q, k = q + 1 := ⟨k - 1, by omega⟩
    have h0 : ¬ ((i : Int) < l.length) := by omega
    simp only [spec_l13Copy.l0, if_neg h0]
    rw [List.take_of_length_le (by omega)]
  | succ n ih =>
    intro i k hi hk
    obtain ⟨k, rfl⟩ : ∃ q, k = q + 1 := ⟨k - 1, by omega⟩
    have hlt : i < l.length := by omega
    have h0 : (i : Int) < l.length := by omega
    have h1 : (0 : Int) ≤ i := by omega
    have h2 : (l.take i).length < 8796093022208 := by rw [List.length_take]; omega
    simp only [spec_l13Copy.l0, if_pos h0, if_pos h1, if_pos h2]
    rw [nxt i (by omega), rd54 l i hlt]
    have e : l.take i ++ [(⟨l[i].f0, l[i].f1⟩ : S54)] = l.take (i + 1) := by rw [List.take_succ_eq_append_getElem hlt]
    rw [e]
    exact ih (i + 1) k (by omega) (by omega)
theorem copy_eq (a0 : Int) (l : List S54) (a2 a3 : Int) (hl : l.length ≤ 1048576) (k : Nat) (hk : l.length < k) : spec_l13Copy.f k a0 l a2 a3 = some (a0, l, a2, a3) := by
  have := copy_l0 l (by omega) a0 a2 a3 a0 a2 a3 l.length 0 k (by omega) hk
  simpa [spec_l13Copy.f] using this
theorem own_eq (a0 : Int) (l : List S54) (a2 a3 : Int) (hl : l.length ≤ 1048576) : impl_ownHeavy.f a0 l a2 a3 = some (a0, l, a2, a3) := by
  have : l.length < 8796093022208 := by omega
  simp [impl_ownHeavy.f, impl_Slot_47.f, this]
def okS (s : S54) : Bool := decide (0 ≤ s.f0 ∧ s.f0 ≤ 65535) && decide (1 ≤ s.f1 ∧ s.f1 ≤ 1000000000)
def okFrom (p : Option Int) : List S54 → Bool
  | [] => true
  | s :: r => okS s && (match p with | none => true | some q => decide (q < s.f0)) && okFrom (some s.f0) r
def prevOf (l : List S54) (i : Nat) : Option Int := match i with | 0 => none | j + 1 => l[j]?.map (·.f0)
theorem specOk_l0 (l : List S54) (hl : l.length < 4611686018427387904) (a0 a2 a3 : Int) : ∀ n i k, i + n = l.length → n < k → spec_HeavyOk.l0 k (i : Int) a0 l a2 a3 = some (okFrom (prevOf l i) (l.drop i)) := by
  intro n
  induction n with
  | zero =>
    intro i k hi hk
    obtain ⟨k, rfl⟩ : ∃ q, k = q + 1 := ⟨k - 1, by omega⟩
    have h0 : ¬ ((i : Int) < l.length) := by omega
    simp only [spec_HeavyOk.l0, if_neg h0]
    rw [List.drop_of_length_le (by omega)]; rfl
  | succ n ih =>
    intro i k hi hk
    obtain ⟨k, rfl⟩ : ∃ q, k = q + 1 := ⟨k - 1, by omega⟩
    have hlt : i < l.length := by omega
    have h0 : (i : Int) < l.length := by omega
    have h1 : (0 : Int) ≤ i := by omega
    have ih1 := ih (i + 1) k (by omega) (by omega)
    have hp : prevOf l (i + 1) = some l[i].f0 := by simp [prevOf, hlt]
    rw [hp] at ih1
    rw [List.drop_eq_getElem_cons hlt]
    simp only [spec_HeavyOk.l0, if_pos h0, if_pos h1, rd54 l i hlt, key_eq, in_eq, Option.bind_some, decide_eq_true_eq, nxt i (by omega), ih1, okFrom, okS]
    by_cases c1 : 0 ≤ l[i].f0 ∧ l[i].f0 ≤ 65535
    · by_cases c2 : 1 ≤ l[i].f1 ∧ l[i].f1 ≤ 1000000000
      · rw [if_pos c1, if_pos c2]
        cases i with
        | zero => simp [prevOf, c1, c2]
        | succ j =>
          have g0 : ((j + 1 : Nat) : Int) > 0 := by omega
          have g1 : (0 : Int) ≤ (j : Int) := by omega
          have g2 : (j : Int) < l.length := by omega
          rw [if_pos g0, prv j (by omega), if_pos g1, if_pos g2, rd54 l j (by omega)]
          have hpj : prevOf l (j + 1) = some (l[j]'(by omega)).f0 := by simp [prevOf, show j < l.length by omega]
          rw [hpj]
          by_cases c3 : (l[j]'(by omega)).f0 ≥ l[j + 1].f0
          · rw [if_pos c3]; simp [show ¬ ((l[j]'(by omega)).f0 < l[j + 1].f0) by omega]
          · rw [if_neg c3]; simp [c1, c2, show ((l[j]'(by omega)).f0 < l[j + 1].f0) by omega]
      · rw [if_pos c1, if_neg c2]; simp [c2]
    · rw [if_neg c1]; simp [c1]
theorem implOk_l0 (l : List S54) (hl : l.length < 4611686018427387904) (a0 a2 a3 : Int) : ∀ n i k, i + n = l.length → n < k → impl_HeavyOk.l0 k l (l.length : Int) (i : Int) a0 l a2 a3 = some (okFrom (prevOf l i) (l.drop i)) := by
  intro n
  induction n with
  | zero =>
    intro i k hi hk
    obtain ⟨k, rfl⟩ : ∃ q, k = q + 1 := ⟨k - 1, by omega⟩
    have h0 : ¬ ((i : Int) < l.length) := by omega
    simp only [impl_HeavyOk.l0, if_neg h0]
    rw [List.drop_of_length_le (by omega)]; rfl
  | succ n ih =>
    intro i k hi hk
    obtain ⟨k, rfl⟩ : ∃ q, k = q + 1 := ⟨k - 1, by omega⟩
    have hlt : i < l.length := by omega
    have h0 : (i : Int) < l.length := by omega
    have h1 : (0 : Int) ≤ i := by omega
    have ih1 := ih (i + 1) k (by omega) (by omega)
    have hp : prevOf l (i + 1) = some l[i].f0 := by simp [prevOf, hlt]
    rw [hp] at ih1
    rw [List.drop_eq_getElem_cons hlt]
    simp only [impl_HeavyOk.l0, if_pos h0, if_pos h1, rd54 l i hlt, isKey_eq, within_eq, Option.bind_some, decide_eq_true_eq, nxt i (by omega), ih1, okFrom, okS]
    by_cases c1 : 0 ≤ l[i].f0 ∧ l[i].f0 ≤ 65535
    · by_cases c2 : 1 ≤ l[i].f1 ∧ l[i].f1 ≤ 1000000000
      · rw [if_pos c1, if_pos c2]
        cases i with
        | zero => simp [prevOf, c1, c2]
        | succ j =>
          have g0 : ((j + 1 : Nat) : Int) > 0 := by omega
          have g1 : (0 : Int) ≤ (j : Int) := by omega
          have g2 : (j : Int) < l.length := by omega
          rw [if_pos g0, prv j (by omega), if_pos g1, if_pos g2, rd54 l j (by omega)]
          have hpj : prevOf l (j + 1) = some (l[j]'(by omega)).f0 := by simp [prevOf, show j < l.length by omega]
          rw [hpj]
          by_cases c3 : l[j + 1].f0 ≤ (l[j]'(by omega)).f0
          · rw [if_pos c3]; simp [show ¬ ((l[j]'(by omega)).f0 < l[j + 1].f0) by omega]
          · rw [if_neg c3]; simp [c1, c2, show ((l[j]'(by omega)).f0 < l[j + 1].f0) by omega]
      · rw [if_pos c1, if_neg c2]; simp [c2]
    · rw [if_neg c1]; simp [c1]
def hok (a0 : Int) (l : List S54) (a2 a3 : Int) : Bool := decide (1 ≤ a0 ∧ a0 ≤ 16) && decide ((l.length : Int) ≤ a0) && decide (0 ≤ a2 ∧ a2 ≤ 1000000000) && decide (0 ≤ a3 ∧ a3 ≤ 1000000000) && okFrom none l
theorem specOk_eq (a0 : Int) (l : List S54) (a2 a3 : Int) (hl : l.length ≤ 4000000) (k : Nat) (hk : l.length + 1 < k) : spec_HeavyOk.f k a0 l a2 a3 = some (hok a0 l a2 a3) := by
  obtain ⟨k, rfl⟩ : ∃ q, k = q + 1 := ⟨k - 1, by omega⟩
  have h := specOk_l0 l (by omega) a0 a2 a3 l.length 0 k (by omega) (by omega)
  simp only [Int.natCast_zero, Int.ofNat_zero, List.drop_zero, prevOf] at h
  simp only [spec_HeavyOk.f, spec_HeavyOk.j0, in_eq, Option.bind_some, decide_eq_true_eq, hok]
  by_cases c1 : 1 ≤ a0 ∧ a0 ≤ 16 <;> by_cases c2 : (l.length : Int) > a0 <;> by_cases c3 : 0 ≤ a2 ∧ a2 ≤ 1000000000 <;> by_cases c4 : 0 ≤ a3 ∧ a3 ≤ 1000000000 <;> simp [c1, c2, c3, c4, h, show ((l.length : Int) ≤ a0) ↔ ¬ ((l.length : Int) > a0) by omega]
theorem implOk_eq (a0 : Int) (l : List S54) (a2 a3 : Int) (hl : l.length ≤ 4000000) (k : Nat) (hk : l.length + 1 < k) : impl_HeavyOk.f k a0 l a2 a3 = some (hok a0 l a2 a3) := by
  obtain ⟨k, rfl⟩ : ∃ q, k = q + 1 := ⟨k - 1, by omega⟩
  have h := implOk_l0 l (by omega) a0 a2 a3 l.length 0 k (by omega) (by omega)
  simp only [Int.natCast_zero, Int.ofNat_zero, List.drop_zero, prevOf] at h
  simp only [impl_HeavyOk.f, impl_HeavyOk.j0, within_eq, isMany_eq, Option.bind_some, decide_eq_true_eq, hok]
  by_cases c1 : 1 ≤ a0 ∧ a0 ≤ 16 <;> by_cases c2 : (l.length : Int) > a0 <;> by_cases c3 : 0 ≤ a2 ∧ a2 ≤ 1000000000 <;> by_cases c4 : 0 ≤ a3 ∧ a3 ≤ 1000000000 <;> simp [c1, c2, c3, c4, h, show ((l.length : Int) ≤ a0) ↔ ¬ ((l.length : Int) > a0) by omega]
end Go.Proofs.Ytofpohpflpdbiaa.HP
namespace Go.Proofs.Ytofpohpflpdbiaa.HP
open Go.RowKit Go.Proofs.Ytofpohpflpdbiaa.H Go.Proofs.YtofpohpflpdbiaaW.PrintWords Go.Proofs.YtofpohpflpdbiaaW.PrintLast
set_option linter.unusedVariables false
set_option linter.unusedSimpArgs false
def putF (key c : Int) : Bool → List S54 → List S54
  | d, [] => if d = true then [] else [⟨key, c⟩]
  | d, s :: r => if s.f0 = key then ⟨s.f0, wrap64 (s.f1 + c)⟩ :: putF key c true r
      else if d = true then s :: putF key c d r
      else if s.f0 > key then ⟨key, c⟩ :: s :: putF key c true r
      else s :: putF key c d r
theorem put_l0 (l : List S54) (hl : l.length < 4000000) (key c : Int) : ∀ n i k out d, i + n = l.length → n < k → out.length + 2 * n < 8000000 → spec_l13Put.l0 k l key c out d (i : Int) = some (out ++ putF key c d (l.drop i)) := by
  intro n
  induction n with
  | zero =>
    intro i k out d hi hk ho
    obtain ⟨k, rfl⟩ : ∃ q, k = q + 1 := ⟨k - 1, by omega⟩
    have h0 : ¬ ((i : Int) < l.length) := by omega
    have h2 : out.length < 8796093022208 := by omega
    simp only [spec_l13Put.l0, if_neg h0, if_pos h2]
    rw [List.drop_of_length_le (by omega)]
    cases d <;> simp [putF]
  | succ n ih =>
    intro i k out d hi hk ho
    obtain ⟨k, rfl⟩ : ∃ q, k = q + 1 := ⟨k - 1, by omega⟩
    have hlt : i < l.length := by omega
    have h0 : (i : Int) < l.length := by omega
    have h1 : (0 : Int) ≤ i := by omega
    have h2 : out.length < 8796093022208 := by omega
    have h3 : ∀ z : S54, (out ++ [z]).length < 8796093022208 := fun z => by simp; omega
    have ih1 := fun z d => ih (i + 1) k (out ++ [z]) d (by omega) (by omega) (by simp; omega)
    have ih2 := fun y z d => ih (i + 1) k (out ++ [y] ++ [z]) d (by omega) (by omega) (by simp; omega)
    rw [List.drop_eq_getElem_cons hlt]
    simp only [spec_l13Put.l0, if_pos h0, if_pos h1, if_pos h2, rd54 l i hlt, nxt i (by omega), ih1, Option.bind_some, if_pos (h3 _), ih2, putF]
    by_cases c1 : l[i].f0 = key
    · simp [c1]
    · cases d with
      | true => simp [c1]
      | false => by_cases c2 : l[i].f0 > key <;> simp [c1, c2]
theorem put_eq (l : List S54) (hl : l.length < 1100000) (key c : Int) (k : Nat) (hk : l.length < k) : spec_l13Put.f k l key c = some (putF key c false l) := by
  have := put_l0 l (by omega) key c l.length 0 k [] false (by omega) hk (by simp; omega)
  simpa [spec_l13Put.f] using this
theorem less_l0 (l : List S54) (hl : l.length < 4000000) (x : Int) : ∀ n i k out, i + n = l.length → n < k → out.length + n < 8000000 → spec_l13Less.l0 k l x out (i : Int) = some (out ++ cutL x (l.drop i)) := by
  intro n
  induction n with
  | zero =>
    intro i k out hi hk ho
    obtain ⟨k, rfl⟩ : ∃ q, k = q + 1 := ⟨k - 1, by omega⟩
    have h0 : ¬ ((i : Int) < l.length) := by omega
    simp only [spec_l13Less.l0, if_neg h0]
    rw [List.drop_of_length_le (by omega)]; simp [cutL]
  | succ n ih =>
    intro i k out hi hk ho
    obtain ⟨k, rfl⟩ : ∃ q, k = q + 1 := ⟨k - 1, by omega⟩
    have hlt : i < l.length := by omega
    have h0 : (i : Int) < l.length := by omega
    have h1 : (0 : Int) ≤ i := by omega
    have h2 : out.length < 8796093022208 := by omega
    have ih0 := ih (i + 1) k out (by omega) (by omega) (by omega)
    have ih1 := fun z => ih (i + 1) k (out ++ [z]) (by omega) (by omega) (by simp; omega)
    have e : cutL x (l[i] :: l.drop (i + 1)) = (if l[i].f1 > x then [⟨l[i].f0, wrap64 (l[i].f1 - x)⟩] else []) ++ cutL x (l.drop (i + 1)) := by rw [cutL, List.flatMap_cons]; rfl
    rw [List.drop_eq_getElem_cons hlt, e]
    simp only [spec_l13Less.l0, if_pos h0, if_pos h1, if_pos h2, rd54 l i hlt, nxt i (by omega), ih1, ih0]
    by_cases c1 : l[i].f1 > x <;> simp [c1]
theorem less_eq (l : List S54) (hl : l.length < 4000000) (x : Int) (k : Nat) (hk : l.length < k) : spec_l13Less.f k l x = some (cutL x l) := by
  have := less_l0 l (by omega) x l.length 0 k [] (by omega) hk (by simp; omega)
  simpa [spec_l13Less.f] using this
def hasF (key : Int) : List S54 → Int
  | [] => 0
  | s :: r => if s.f0 = key then s.f1 else hasF key r
theorem has_l0 (l : List S54) (hl : l.length < 4000000) (key : Int) : ∀ n i k, i + n = l.length → n < k → spec_l13Has.l0 k l key (i : Int) = some (hasF key (l.drop i)) := by
  intro n
  induction n with
  | zero =>
    intro i k hi hk
    obtain ⟨k, rfl⟩ : ∃ q, k = q + 1 := ⟨k - 1, by omega⟩
    have h0 : ¬ ((i : Int) < l.length) := by omega
    simp only [spec_l13Has.l0, if_neg h0]
    rw [List.drop_of_length_le (by omega)]; rfl
  | succ n ih =>
    intro i k hi hk
    obtain ⟨k, rfl⟩ : ∃ q, k = q + 1 := ⟨k - 1, by omega⟩
    have hlt : i < l.length := by omega
    have h0 : (i : Int) < l.length := by omega
    have h1 : (0 : Int) ≤ i := by omega
    have ih0 := ih (i + 1) k (by omega) (by omega)
    rw [List.drop_eq_getElem_cons hlt]
    simp only [spec_l13Has.l0, if_pos h0, if_pos h1, rd54 l i hlt, nxt i (by omega), ih0, hasF]
    by_cases c1 : l[i].f0 = key <;> simp [c1]
theorem has_eq (l : List S54) (hl : l.length < 4000000) (key : Int) (k : Nat) (hk : l.length < k) : spec_l13Has.f k l key = some (hasF key l) := by
  have := has_l0 l (by omega) key l.length 0 k (by omega) hk
  simpa [spec_l13Has.f] using this
def Rises (l : List S54) : Prop := l.Pairwise (fun a b => a.f0 < b.f0)
theorem rises_from : ∀ (l : List S54) (p : Option Int), okFrom p l = true → Rises l ∧ (∀ q, p = some q → ∀ s ∈ l, q < s.f0) ∧ ∀ s ∈ l, okS s = true
  | [], p, _ => ⟨List.Pairwise.nil, by simp, by simp⟩
  | s :: r, p, h => by
    simp only [okFrom, Bool.and_eq_true] at h
    obtain ⟨⟨h1, h2⟩, h3⟩ := h
    obtain ⟨a, b, c⟩ := rises_from r (some s.f0) h3
    refine ⟨List.Pairwise.cons (fun t ht => b _ rfl t ht) a, ?_, ?_⟩
    · rintro q rfl t ht
      have hq : q < s.f0 := by simpa using h2
      rcases List.mem_cons.1 ht with rfl | ht
      · exact hq
      · have := b _ rfl t ht; omega
    · intro t ht
      rcases List.mem_cons.1 ht with rfl | ht
      · exact h1
      · exact c t ht
def lb (key : Int) (l : List S54) : Nat := (l.takeWhile (fun s => decide (s.f0 < key))).length
theorem lb_le (key : Int) (l : List S54) : lb key l ≤ l.length := by
  induction l with
  | nil => simp [lb]
  | cons s r ih =>
    unfold lb at ih ⊢
    rw [List.takeWhile_cons]
    split <;> simp <;> omega
theorem lb_lt {key : Int} : ∀ {l : List S54} (h : Rises l) (m : Nat) (hm : m < l.length), (l[m].f0 < key ↔ m < lb key l)
  | [], _, m, hm => by simp at hm
  | s :: r, h, m, hm => by
    obtain ⟨h1, h2⟩ := List.pairwise_cons.1 h
    unfold lb
    rw [List.takeWhile_cons]
    by_cases c : s.f0 < key
    · simp only [c, decide_true, if_true, List.length_cons]
      cases m with
      | zero => simp [c]
      | succ m =>
        have := lb_lt (key := key) h2 m (by simpa using hm)
        simp only [List.getElem_cons_succ]
        rw [this]; unfold lb; omega
    · simp only [c, decide_false]
      cases m with
      | zero => simp [c]
      | succ m =>
        have := h1 (r[m]'(by simpa using hm)) (List.getElem_mem _)
        simp only [List.getElem_cons_succ]
        simp; omega
theorem putF_true (key c : Int) : ∀ (l : List S54), (∀ s ∈ l, s.f0 ≠ key) → putF key c true l = l
  | [], _ => rfl
  | s :: r, h => by
    simp [putF, h s List.mem_cons_self, putF_true key c r (fun t ht => h t (List.mem_cons_of_mem _ ht))]
theorem putF_rises (key c : Int) : ∀ (l : List S54), Rises l → putF key c false l = if h : ∃ h : lb key l < l.length, l[lb key l].f0 = key then l.set (lb key l) ⟨(l[lb key l]'h.1).f0, wrap64 ((l[lb key l]'h.1).f1 + c)⟩ else l.take (lb key l) ++ ⟨key, c⟩ :: l.drop (lb key l)
  | [], _ => by simp [putF, lb]
  | s :: r, h => by
    obtain ⟨h1, h2⟩ := List.pairwise_cons.1 h
    by_cases c1 : s.f0 < key
    · have e : lb key (s :: r) = lb key r + 1 := by simp [lb, List.takeWhile_cons, c1]
      have ih := putF_rises key c r h2
      have n1 : ¬ (s.f0 = key) := by omega
      have n2 : ¬ (s.f0 > key) := by omega
      simp only [putF, if_neg n1, if_neg n2, ih, e]
      by_cases g : ∃ h : lb key r < r.length, r[lb key r].f0 = key
      · have g' : ∃ h : lb key r + 1 < (s :: r).length, (s :: r)[lb key r + 1].f0 = key := ⟨by simpa using g.1, by simpa using g.2⟩
        rw [dif_pos g, dif_pos g']; simp
      · have g' : ¬ ∃ h : lb key r + 1 < (s :: r).length, (s :: r)[lb key r + 1].f0 = key := fun ⟨a, b⟩ => g ⟨by simpa using a, by simpa using b⟩
        rw [dif_neg g, dif_neg g']; simp
    · have e : lb key (s :: r) = 0 := by simp [lb, List.takeWhile_cons, c1]
      have hr : ∀ t ∈ r, t.f0 ≠ key := fun t ht => by have := h1 t ht; omega
      simp only [putF, e, putF_true key c r hr]
      by_cases c2 : s.f0 = key
      · have g' : ∃ h : 0 < (s :: r).length, (s :: r)[0].f0 = key := ⟨by simp, by simpa using c2⟩
        rw [dif_pos g', if_pos c2]; simp
      · have g' : ¬ ∃ h : 0 < (s :: r).length, (s :: r)[0].f0 = key := fun ⟨a, b⟩ => c2 (by simpa using b)
        rw [dif_neg g', if_neg c2]; simp [show s.f0 > key by omega]
theorem hasF_pos (key : Int) : ∀ (l : List S54), (∀ s ∈ l, okS s = true) → (hasF key l > 0 ↔ ∃ s ∈ l, s.f0 = key)
  | [], _ => by simp [hasF]
  | s :: r, h => by
    have h1 := h s List.mem_cons_self
    have ih := hasF_pos key r (fun t ht => h t (List.mem_cons_of_mem _ ht))
    simp only [okS, Bool.and_eq_true, decide_eq_true_eq] at h1
    by_cases c : s.f0 = key
    · simp only [hasF, if_pos c]
      exact ⟨fun _ => ⟨s, List.mem_cons_self, c⟩, fun _ => by omega⟩
    · simp only [hasF, if_neg c, ih]
      constructor
      · rintro ⟨t, ht, e⟩; exact ⟨t, List.mem_cons_of_mem _ ht, e⟩
      · rintro ⟨t, ht, e⟩
        rcases List.mem_cons.1 ht with rfl | ht
        · exact absurd e c
        · exact ⟨t, ht, e⟩
theorem at_lb {key : Int} {l : List S54} (h : Rises l) : (∃ h : lb key l < l.length, l[lb key l].f0 = key) ↔ ∃ s ∈ l, s.f0 = key := by
  constructor
  · rintro ⟨h1, h2⟩; exact ⟨_, List.getElem_mem h1, h2⟩
  · rintro ⟨s, hs, e⟩
    obtain ⟨m, hm, rfl⟩ := List.mem_iff_getElem.1 hs
    have h1 : ¬ (m < lb key l) := fun h2 => by have := (lb_lt (key := key) h m hm).2 h2; omega
    have h3 : lb key l ≤ m := by omega
    have hlt : lb key l < l.length := by omega
    refine ⟨hlt, ?_⟩
    have h4 : ¬ (l[lb key l].f0 < key) := fun h5 => by have := (lb_lt h _ hlt).1 h5; omega
    rcases Nat.lt_or_eq_of_le h3 with h5 | h5
    · have := List.pairwise_iff_getElem.1 h _ _ hlt hm h5; omega
    · simp only [h5]; exact e
theorem cmp_eq (a b : Int) : cmp_Compare_int.f a b = some (if a < b then -1 else if a > b then 1 else 0) := by
  simp only [cmp_Compare_int.f, cmp_isNaN_int.f, bne_self_eq_false, Option.bind_some, Bool.false_eq_true, if_false]
  split <;> (try split) <;> rfl
theorem mid_eq (i j : Nat) (hi : i < 2305843009213693952) (hj : j < 2305843009213693952) : wrap64 ((IntKind.u64.wrap (wrap64 ((i : Int) + (j : Int)))) / 2) = (((i + j) / 2 : Nat) : Int) := by
  have e : wrap64 ((i : Int) + (j : Int)) = ((i + j : Nat) : Int) := by unfold wrap64; omega
  rw [e]
  have e2 : IntKind.u64.wrap ((i + j : Nat) : Int) = ((i + j : Nat) : Int) := by
    simp [IntKind.wrap, IntKind.bits, IntKind.signed]; omega
  rw [e2]; unfold wrap64; omega
theorem slot_l0 (l : List S54) (hl : l.length < 4000000) (h : Rises l) (key : Int) : ∀ n i j k, i ≤ lb key l → lb key l ≤ j → j ≤ l.length → j - i ≤ n → n < k →
    impl_Slot_int.l0 k l key (l.length : Int) (i : Int) (j : Int) = some ((lb key l : Int), decide (∃ h : lb key l < l.length, l[lb key l].f0 = key)) := by
  have hle := lb_le key l
  intro n
  induction n with
  | zero =>
    intro i j k h1 h2 h3 h4 hk
    obtain ⟨k, rfl⟩ : ∃ q, k = q + 1 := ⟨k - 1, by omega⟩
    have e : i = lb key l := by omega
    have e2 : j = lb key l := by omega
    subst e2
    subst e
    have h0 : ¬ ((lb key l : Int) < (lb key l : Int)) := by omega
    have g1 : (0 : Int) ≤ (lb key l : Int) := by omega
    simp only [impl_Slot_int.l0, if_neg h0]
    by_cases c : lb key l < l.length
    · have c' : (lb key l : Int) < (l.length : Int) := by omega
      rw [if_pos c', if_pos g1, if_pos c']
      rw [rd54 l _ c]
      simp only [impl_slotAt_1.f, cmp_eq, Option.bind_some]
      have h4 : ¬ (l[lb key l].f0 < key) := fun h5 => by have := (lb_lt h _ c).1 h5; omega
      rw [if_neg h4]
      by_cases c2 : l[lb key l].f0 = key
      · have : ¬ (l[lb key l].f0 > key) := by omega
        rw [if_neg this]; simp [c, c2]
      · have : l[lb key l].f0 > key := by omega
        rw [if_pos this]; simp [c, c2]
    · have c' : ¬ ((lb key l : Int) < (l.length : Int)) := by omega
      rw [if_neg c']; simp [c]
  | succ n ih =>
    intro i j k h1 h2 h3 h4 hk
    by_cases hij : i < j
    · obtain ⟨k, rfl⟩ : ∃ q, k = q + 1 := ⟨k - 1, by omega⟩
      have h0 : ((i : Int) < (j : Int)) := by omega
      have hm : (i + j) / 2 < l.length := by omega
      have g1 : (0 : Int) ≤ (((i + j) / 2 : Nat) : Int) := by omega
      have g2 : (((i + j) / 2 : Nat) : Int) < (l.length : Int) := by omega
      simp only [impl_Slot_int.l0, if_pos h0, mid_eq i j (by omega) (by omega), if_pos g1, if_pos g2]
      rw [rd54 l _ hm]
      simp only [impl_slotAt_1.f, cmp_eq, Option.bind_some]
      have hlb := lb_lt (key := key) h _ hm
      by_cases c : l[(i + j) / 2].f0 < key
      · rw [if_pos c, if_pos (by decide), nxt _ (by omega)]
        exact ih _ _ _ (by have := hlb.1 c; omega) h2 h3 (by omega) (by omega)
      · rw [if_neg c]
        have : ¬ ((if l[(i + j) / 2].f0 > key then (1 : Int) else 0) < 0) := by split <;> omega
        rw [if_neg this]
        exact ih _ _ _ h1 (by have : ¬ ((i + j) / 2 < lb key l) := fun h5 => c (hlb.2 h5)
                              omega) (by omega) (by omega) (by omega)
    · exact ih i j k h1 h2 h3 (by omega) (by omega)
theorem slotAt_eq (l : List S54) (hl : l.length < 4000000) (h : Rises l) (key : Int) (k : Nat) (hk : l.length < k) : impl_slotAt.f k l key = some ((lb key l : Int), decide (∃ h : lb key l < l.length, l[lb key l].f0 = key)) := by
  have := slot_l0 l hl h key l.length 0 l.length k (by omega) (lb_le _ _) (by omega) (by omega) hk
  simp only [Int.natCast_zero, Int.ofNat_zero] at this
  simp [impl_slotAt.f, impl_Slot_int.f, this]
theorem eqSlots_l0 (l : List S54) (hl : l.length < 4000000) : ∀ n i k, i + n = l.length → n < k → laws_eqSlotS.l0 k l l (i : Int) = some true := by
  intro n
  induction n with
  | zero =>
    intro i k hi hk
    obtain ⟨k, rfl⟩ : ∃ q, k = q + 1 := ⟨k - 1, by omega⟩
    have h0 : ¬ ((i : Int) < l.length) := by omega
    simp only [laws_eqSlotS.l0, if_neg h0]
  | succ n ih =>
    intro i k hi hk
    obtain ⟨k, rfl⟩ : ∃ q, k = q + 1 := ⟨k - 1, by omega⟩
    have h0 : (i : Int) < l.length := by omega
    have h1 : (0 : Int) ≤ i := by omega
    have ih0 := ih (i + 1) k (by omega) (by omega)
    simp only [laws_eqSlotS.l0, if_pos h0, if_pos h1, nxt i (by omega), ih0, laws_eqSlot.f, Option.bind_some, if_true]
theorem eqHeavy_refl (a0 : Int) (l : List S54) (a2 a3 : Int) (hl : l.length < 4000000) (k : Nat) (hk : l.length < k) : laws_eqHeavy.f k a0 l a2 a3 a0 l a2 a3 = some true := by
  have := eqSlots_l0 l hl l.length 0 k (by omega) hk
  simp only [Int.natCast_zero, Int.ofNat_zero] at this
  simp [laws_eqHeavy.f, laws_eqSlotS.f, this]
def mkF : Int → List S54 → List S54
  | _, [] => []
  | c, s :: r => ⟨c, wrap64 (c + 1)⟩ :: mkF (wrap64 (wrap64 (c + 1) + 1)) r
def mkE : Int → List S54 → Int
  | c, [] => c
  | c, s :: r => mkE (wrap64 (wrap64 (c + 1) + 1)) r
theorem mkE_eq : ∀ (l : List S54) (c : Int), 0 ≤ c → c + 2 * l.length < 4611686018427387904 → mkE c l = c + 2 * l.length
  | [], c, _, _ => by simp [mkE]
  | s :: r, c, h0, h1 => by
    have e : wrap64 (wrap64 (c + 1) + 1) = c + 2 := by simp only [List.length_cons] at h1; unfold wrap64; omega
    simp only [List.length_cons] at h1
    rw [mkE, e, mkE_eq r (c + 2) (by omega) (by omega)]; simp only [List.length_cons]; omega
theorem mark_l0 : ∀ (r p : List S54) (k : Nat) (c : Int), (p ++ r).length < 4000000 → r.length < k → laws_markSlotS.l0 k (p ++ r) c (p.length : Int) = some (mkE c r, p ++ mkF c r) := by
  intro r
  induction r with
  | nil =>
    intro p k c hl hk
    obtain ⟨k, rfl⟩ : ∃ q, k = q + 1 := ⟨k - 1, by simp at hk; omega⟩
    have h0 : ¬ ((p.length : Int) < ((p ++ ([] : List S54)).length : Int)) := by simp
    simp only [laws_markSlotS.l0, if_neg h0]; simp [mkE, mkF]
  | cons s r ih =>
    intro p k c hl hk
    obtain ⟨k, rfl⟩ : ∃ q, k = q + 1 := ⟨k - 1, by simp at hk; omega⟩
    have h0 : ((p.length : Int) < ((p ++ s :: r).length : Int)) := by simp; omega
    have h1 : (0 : Int) ≤ p.length := by omega
    have hp : p.length < 4000000 := by simp at hl; omega
    have hset : ∀ y z : S54, (p ++ y :: r).set p.length z = p ++ z :: r := fun y z => by rw [List.set_append_right _ _ (Nat.le_refl _), Nat.sub_self, List.set_cons_zero]
    have hget : ∀ y : S54, rd_T54 (p ++ y :: r) (p.length : Int) = y := fun y => by rw [rd54 _ _ (by simp)]; simp
    have ih1 := fun y c => ih (p ++ [y]) k c (by simp at hl ⊢; omega) (by simp at hk; omega)
    simp only [laws_markSlotS.l0, if_pos h0, if_pos h1, Option.bind_some, Int.toNat_natCast, hset, hget, nxt p.length (by omega)]
    have e : ∀ y : S54, p ++ y :: r = p ++ [y] ++ r := fun y => by simp
    rw [e, show p.length + 1 = (p ++ [(⟨c, wrap64 (c + 1)⟩ : S54)]).length by simp, ih1]
    simp [mkE, mkF]
theorem markHeavy_eq (a0 : Int) (l : List S54) (a2 a3 : Int) (hl : l.length < 4000000) (k : Nat) (hk : l.length < k) : laws_markHeavy.f k a0 l a2 a3 1 = some (1 + 2 * (l.length : Int), mkF 1 l) := by
  have := mark_l0 l [] k 1 (by simpa using hl) hk
  simp only [List.nil_append, List.length_nil, Int.natCast_zero, Int.ofNat_zero] at this
  rw [mkE_eq l 1 (by omega) (by omega)] at this
  simp [laws_markHeavy.f, laws_markSlotS.f, this]
theorem held_l0 : ∀ (r p : List S54) (k : Nat) (c : Int), (p ++ r).length < 4000000 → r.length < k → laws_heldSlotS.l0 k (p ++ mkF c r) c (p.length : Int) = some (mkE c r) := by
  intro r
  induction r with
  | nil =>
    intro p k c hl hk
    obtain ⟨k, rfl⟩ : ∃ q, k = q + 1 := ⟨k - 1, by simp at hk; omega⟩
    have h0 : ¬ ((p.length : Int) < ((p ++ mkF c ([] : List S54)).length : Int)) := by simp [mkF]
    simp only [laws_heldSlotS.l0, if_neg h0]; simp [mkE]
  | cons s r ih =>
    intro p k c hl hk
    obtain ⟨k, rfl⟩ : ∃ q, k = q + 1 := ⟨k - 1, by simp at hk; omega⟩
    have h0 : ((p.length : Int) < ((p ++ mkF c (s :: r)).length : Int)) := by simp [mkF]; omega
    have h1 : (0 : Int) ≤ p.length := by omega
    have hp : p.length < 4000000 := by simp at hl; omega
    have hget : rd_T54 (p ++ mkF c (s :: r)) (p.length : Int) = ⟨c, wrap64 (c + 1)⟩ := by rw [rd54 _ _ (by simp [mkF])]; simp [mkF]
    have ih1 := ih (p ++ [(⟨c, wrap64 (c + 1)⟩ : S54)]) k (wrap64 (wrap64 (c + 1) + 1)) (by simp at hl ⊢; omega) (by simp at hk; omega)
    simp only [laws_heldSlotS.l0, if_pos h0, if_pos h1, hget, if_true, nxt p.length (by omega)]
    have e : p ++ mkF c (s :: r) = p ++ [(⟨c, wrap64 (c + 1)⟩ : S54)] ++ mkF (wrap64 (wrap64 (c + 1) + 1)) r := by simp [mkF]
    rw [e, show p.length + 1 = (p ++ [(⟨c, wrap64 (c + 1)⟩ : S54)]).length by simp, ih1]
    simp [mkE]
theorem heldHeavy_eq (a0 : Int) (l : List S54) (a2 a3 : Int) (hl : l.length < 4000000) (k : Nat) (hk : l.length < k) : laws_heldHeavy.f k a0 (mkF 1 l) a2 a3 1 = some (1 + 2 * (l.length : Int)) := by
  have := held_l0 l [] k 1 (by simpa using hl) hk
  simp only [List.nil_append, List.length_nil, Int.natCast_zero, Int.ofNat_zero] at this
  rw [mkE_eq l 1 (by omega) (by omega)] at this
  have h : ¬ (1 + 2 * (l.length : Int) < 0) := by omega
  simp [laws_heldHeavy.f, laws_heldSlotS.f, this, h]
def addH (a0 : Int) (l : List S54) (a2 a3 key : Int) : Int × List S54 × Int × Int × Bool :=
  if hok a0 l a2 a3 = true ∧ (0 ≤ key ∧ key ≤ 65535) ∧ a2 ≠ 1000000000 then
    if hasF key l > 0 ∨ (l.length : Int) < a0 then (a0, putF key 1 false l, wrap64 (a2 + 1), a3, true) else (a0, cutL 1 l, wrap64 (a2 + 1), wrap64 (a3 + 1), true)
  else (a0, l, a2, a3, false)
theorem specAdd_eq (a0 : Int) (l : List S54) (a2 a3 key : Int) (hl : l.length ≤ 1048576) (k : Nat) (hk : l.length + 3 < k) : spec_AddHeavy.f k a0 l a2 a3 key = some (addH a0 l a2 a3 key) := by
  obtain ⟨k, rfl⟩ : ∃ q, k = q + 2 := ⟨k - 2, by omega⟩
  simp only [spec_AddHeavy.f, copy_eq a0 l a2 a3 hl (k + 2) (by omega), specOk_eq a0 l a2 a3 (by omega) (k + 2) (by omega), key_eq, Option.bind_some, spec_AddHeavy.j0, spec_AddHeavy.j1,
    has_eq l (by omega) key (k + 1) (by omega), put_eq l (by omega) key 1 k (by omega), less_eq l (by omega) 1 k (by omega), addH, decide_eq_true_eq]
  cases c1 : hok a0 l a2 a3
  · simp
  · by_cases c2 : 0 ≤ key ∧ key ≤ 65535
    · by_cases c3 : a2 = 1000000000
      · simp [c2, c3]
      · by_cases c4 : hasF key l > 0
        · simp [c2, c3, c4]
        · by_cases c5 : (l.length : Int) < a0 <;> simp [c2, c3, c4, c5]
    · simp [c2]
theorem implAdd_eq (a0 : Int) (l : List S54) (a2 a3 key : Int) (hl : l.length ≤ 1048576) (k : Nat) (hk : l.length + 3 < k) : impl_AddHeavy.f k a0 l a2 a3 key = some (addH a0 l a2 a3 key) := by
  obtain ⟨k, rfl⟩ : ∃ q, k = q + 1 := ⟨k - 1, by omega⟩
  simp only [impl_AddHeavy.f, own_eq a0 l a2 a3 hl, implOk_eq a0 l a2 a3 (by omega) (k + 1) (by omega), isKey_eq, Option.bind_some, impl_AddHeavy.j0, addH, decide_eq_true_eq]
  cases c1 : hok a0 l a2 a3
  · simp
  · have hr : okFrom none l = true := by simp only [hok, Bool.and_eq_true] at c1; exact c1.2
    obtain ⟨hris, _, hoks⟩ := rises_from l none hr
    have hle := lb_le key l
    by_cases c2 : 0 ≤ key ∧ key ≤ 65535
    · by_cases c3 : a2 = 1000000000
      · simp [c2, c3]
      · rw [slotAt_eq l (by omega) hris key k (by omega)]
        have hp := putF_rises key 1 l hris
        by_cases c4 : ∃ s ∈ l, s.f0 = key
        · have g := (at_lb hris).2 c4
          have c4' := (hasF_pos key l hoks).2 c4
          rw [dif_pos g] at hp
          have g2 : (lb key l : Int) < (l.length : Int) := by have := g.1; omega
          simp [c2, c3, c4', g2, hp, rd54 l _ g.1, g.1, g.2]
        · have g : ¬ _ := fun h => c4 ((at_lb (key := key) hris).1 h)
          have c4' : ¬ (hasF key l > 0) := fun h => c4 ((hasF_pos key l hoks).1 h)
          rw [dif_neg g] at hp
          by_cases c5 : (l.length : Int) < a0
          · have i1 : (0 : Int) ≤ (lb key l : Int) := by omega
            have i2 : (lb key l : Int) ≤ (l.length : Int) := by omega
            have i3 : l.length + 1 < 8796093022208 := by omega
            simp [c2, c3, c4', c5, g, hp, impl_Slot_35.f, i1, i2, i3, hle]
          · have i3 : l.length < 8796093022208 := by omega
            simp [c2, c3, c4', c5, g, impl_Heavy_cut.f, i3]
    · simp [c2]
theorem putF_length (key c : Int) : ∀ (l : List S54) d, (putF key c d l).length ≤ l.length + 1 - (if d = true then 1 else 0)
  | [], d => by cases d <;> simp [putF]
  | s :: r, d => by
    have h1 := putF_length key c r true
    have h2 := putF_length key c r d
    simp only [putF]
    cases d <;> simp at h1 h2 ⊢ <;> split <;> (try split) <;> simp <;> omega
theorem addH_length (a0 : Int) (l : List S54) (a2 a3 key : Int) : (addH a0 l a2 a3 key).2.1.length ≤ l.length + 1 := by
  unfold addH
  split
  · split
    · have := putF_length key 1 l false; simpa using this
    · have := cutL_length 1 l; simp; omega
  · simp
end Go.Proofs.Ytofpohpflpdbiaa.HP
namespace Go.Proofs.Ytofpohpflpdbiaa.Pure
open Go.RowKit Go.Proofs.Ytofpohpflpdbiaa.H Go.Proofs.Ytofpohpflpdbiaa.HP Go.Proofs.YtofpohpflpdbiaaW.PrintWords Go.Proofs.YtofpohpflpdbiaaW.PrintLast
set_option linter.unusedVariables false
set_option linter.unusedSimpArgs false
theorem rdI (l : List Int) (i : Nat) (h : i < l.length) : rd l (i : Int) = l[i] := by simp [rd, List.getD_eq_getElem?_getD, h]
theorem toInt_l0 (l : List Int) (hl : l.length < 4611686018427387904) : ∀ n i k, i + n = l.length → n < k → laws_toIntS.l0 k l (l.take i ++ List.replicate n 0) (i : Int) = some l := by
  intro n
  induction n with
  | zero =>
    intro i k hi hk
    obtain ⟨k, rfl⟩ : ∃ q, k = q + 1 := ⟨k - 1, by omega⟩
    have h0 : ¬ ((i : Int) < l.length) := by omega
    simp only [laws_toIntS.l0, if_neg h0]
    rw [List.take_of_length_le (by omega)]; simp
  | succ n ih =>
    intro i k hi hk
    obtain ⟨k, rfl⟩ : ∃ q, k = q + 1 := ⟨k - 1, by omega⟩
    have hlt : i < l.length := by omega
    have h0 : (i : Int) < l.length := by omega
    have h1 : (0 : Int) ≤ i := by omega
    have h2 : (i : Int) < ((l.take i ++ List.replicate (n + 1) (0 : Int)).length : Int) := by simp; omega
    simp only [laws_toIntS.l0, if_pos h0, if_pos h1, if_pos h2]
    rw [nxt i (by omega), rdI l i hlt, Int.toNat_natCast]
    have e : (l.take i ++ List.replicate (n + 1) (0 : Int)).set i l[i] = l.take (i + 1) ++ List.replicate n 0 := by
      have e1 : (l.take i).length = i := by rw [List.length_take]; omega
      rw [List.set_append_right _ _ (by omega), e1, Nat.sub_self, List.take_succ_eq_append_getElem hlt, List.append_assoc, List.replicate_succ, List.set_cons_zero]
      rfl
    rw [e]
    exact ih (i + 1) k (by omega) (by omega)
theorem toIntS_eq (l : List Int) (hl : l.length ≤ 1048576) (k : Nat) (hk : l.length < k) : laws_toIntS.f k l = some l := by
  have h1 : (0 : Int) ≤ l.length := by omega
  have h2 : ((l.length : Int)).toNat ≤ 35184372088832 := by omega
  simp only [laws_toIntS.f, if_pos h1, if_pos h2]
  have := toInt_l0 l (by omega) l.length 0 k (by omega) hk
  simpa using this
theorem eqInts_l0 (l : List Int) (hl : l.length < 4000000) : ∀ n i k, i + n = l.length → n < k → laws_eqIntS.l0 k l l (i : Int) = some true := by
  intro n
  induction n with
  | zero =>
    intro i k hi hk
    obtain ⟨k, rfl⟩ : ∃ q, k = q + 1 := ⟨k - 1, by omega⟩
    have h0 : ¬ ((i : Int) < l.length) := by omega
    simp only [laws_eqIntS.l0, if_neg h0]
  | succ n ih =>
    intro i k hi hk
    obtain ⟨k, rfl⟩ : ∃ q, k = q + 1 := ⟨k - 1, by omega⟩
    have h0 : (i : Int) < l.length := by omega
    have h1 : (0 : Int) ≤ i := by omega
    have ih0 := ih (i + 1) k (by omega) (by omega)
    simp only [laws_eqIntS.l0, if_pos h0, if_pos h1, nxt i (by omega), ih0, if_true]
theorem eqInts_refl (l : List Int) (hl : l.length < 4000000) (k : Nat) (hk : l.length < k) : laws_eqIntS.f k l l = some true := by
  have := eqInts_l0 l hl l.length 0 k (by omega) hk
  simp only [Int.natCast_zero, Int.ofNat_zero] at this
  simp [laws_eqIntS.f, this]
theorem markInts_l0 : ∀ (n : Nat) (l : List Int) (i k : Nat) (c : Int), l.length < 4000000 → i + n = l.length → n < k → 0 ≤ c → c + n < 8000000 → ∃ l', laws_markIntS.l0 k l c (i : Int) = some (c + n, l') := by
  intro n
  induction n with
  | zero =>
    intro l i k c hl hi hk h0 h1
    obtain ⟨k, rfl⟩ : ∃ q, k = q + 1 := ⟨k - 1, by omega⟩
    have h0 : ¬ ((i : Int) < l.length) := by omega
    simp only [laws_markIntS.l0, if_neg h0]; exact ⟨l, by simp⟩
  | succ n ih =>
    intro l i k c hl hi hk h0 h1
    obtain ⟨k, rfl⟩ : ∃ q, k = q + 1 := ⟨k - 1, by omega⟩
    have g0 : (i : Int) < l.length := by omega
    have g1 : (0 : Int) ≤ i := by omega
    have e : wrap64 (c + 1) = c + 1 := by unfold wrap64; omega
    obtain ⟨l', h'⟩ := ih (l.set i c) (i + 1) k (c + 1) (by simpa using hl) (by simp; omega) (by omega) (by omega) (by omega)
    refine ⟨l', ?_⟩
    simp only [laws_markIntS.l0, if_pos g0, if_pos g1, nxt i (by omega), Int.toNat_natCast, e, h']
    simp; omega
theorem markInts_eq (l : List Int) (hl : l.length < 3000000) (k : Nat) (hk : l.length < k) : ∃ l', laws_markIntS.f k l 1 = some (1 + (l.length : Int), l') := by
  have := markInts_l0 l.length l 0 k 1 (by omega) (by omega) hk (by omega) (by omega)
  simpa [laws_markIntS.f] using this
def playF : Int × List S54 × Int × Int → List Int → Int × List S54 × Int × Int × Bool
  | v, [] => (v.1, v.2.1, v.2.2.1, v.2.2.2, true)
  | v, key :: r => if (addH v.1 v.2.1 v.2.2.1 v.2.2.2 key).2.2.2.2 = true then
      playF ((addH v.1 v.2.1 v.2.2.1 v.2.2.2 key).1, (addH v.1 v.2.1 v.2.2.1 v.2.2.2 key).2.1, (addH v.1 v.2.1 v.2.2.1 v.2.2.2 key).2.2.1, (addH v.1 v.2.1 v.2.2.1 v.2.2.2 key).2.2.2.1) r else (0, [], 0, 0, false)
theorem specPlay_l0 (l : List Int) (hl : l.length ≤ 300) : ∀ n i k v, i + n = l.length → n + 2000 < k → v.2.1.length + n ≤ 1000 → spec_PlayHeavy.l0 k l (i : Int) v.1 v.2.1 v.2.2.1 v.2.2.2 = some (playF v (l.drop i)) := by
  intro n
  induction n with
  | zero =>
    intro i k v hi hk hv
    obtain ⟨k, rfl⟩ : ∃ q, k = q + 1 := ⟨k - 1, by omega⟩
    have h0 : ¬ ((i : Int) < l.length) := by omega
    simp only [spec_PlayHeavy.l0, if_neg h0]
    rw [List.drop_of_length_le (by omega)]; rfl
  | succ n ih =>
    intro i k v hi hk hv
    obtain ⟨k, rfl⟩ : ∃ q, k = q + 1 := ⟨k - 1, by omega⟩
    have hlt : i < l.length := by omega
    have h0 : (i : Int) < l.length := by omega
    have h1 : (0 : Int) ≤ i := by omega
    have hlen := addH_length v.1 v.2.1 v.2.2.1 v.2.2.2 l[i]
    rw [List.drop_eq_getElem_cons hlt]
    simp only [spec_PlayHeavy.l0, if_pos h0, if_pos h1, rdI l i hlt, specAdd_eq v.1 v.2.1 v.2.2.1 v.2.2.2 l[i] (by omega) k (by omega), Option.bind_some, nxt i (by omega), playF]
    by_cases c : (addH v.1 v.2.1 v.2.2.1 v.2.2.2 l[i]).2.2.2.2 = true
    · rw [if_pos c, if_pos c]
      exact ih (i + 1) k (_, _, _, _) (by omega) (by omega) (Nat.le_trans (Nat.add_le_add_right hlen n) (by omega))
    · rw [if_neg c, if_neg c]
theorem implPlay_l0 (l : List Int) (hl : l.length ≤ 300) : ∀ n i k v, i + n = l.length → n + 2000 < k → v.2.1.length + n ≤ 1000 → impl_PlayHeavy.l0 k l (l.length : Int) (i : Int) v.1 v.2.1 v.2.2.1 v.2.2.2 = some (playF v (l.drop i)) := by
  intro n
  induction n with
  | zero =>
    intro i k v hi hk hv
    obtain ⟨k, rfl⟩ : ∃ q, k = q + 1 := ⟨k - 1, by omega⟩
    have h0 : ¬ ((i : Int) < l.length) := by omega
    simp only [impl_PlayHeavy.l0, if_neg h0]
    rw [List.drop_of_length_le (by omega)]; rfl
  | succ n ih =>
    intro i k v hi hk hv
    obtain ⟨k, rfl⟩ : ∃ q, k = q + 1 := ⟨k - 1, by omega⟩
    have hlt : i < l.length := by omega
    have h0 : (i : Int) < l.length := by omega
    have h1 : (0 : Int) ≤ i := by omega
    have hlen := addH_length v.1 v.2.1 v.2.2.1 v.2.2.2 l[i]
    rw [List.drop_eq_getElem_cons hlt]
    simp only [impl_PlayHeavy.l0, if_pos h0, if_pos h1, rdI l i hlt, implAdd_eq v.1 v.2.1 v.2.2.1 v.2.2.2 l[i] (by omega) k (by omega), Option.bind_some, nxt i (by omega), playF]
    by_cases c : (addH v.1 v.2.1 v.2.2.1 v.2.2.2 l[i]).2.2.2.2 = true
    · rw [if_pos c, if_pos c]
      exact ih (i + 1) k (_, _, _, _) (by omega) (by omega) (Nat.le_trans (Nat.add_le_add_right hlen n) (by omega))
    · rw [if_neg c, if_neg c]
def playH (room : Int) (l : List Int) : Int × List S54 × Int × Int × Bool :=
  if (1 ≤ room ∧ room ≤ 16) ∧ l.length ≤ 300 then playF (room, [], 0, 0) l else (0, [], 0, 0, false)
theorem specPlay_eq (room : Int) (l : List Int) (k : Nat) (hk : 3000 < k) : spec_PlayHeavy.f k room l = some (playH room l) := by
  obtain ⟨k, rfl⟩ : ∃ q, k = q + 1 := ⟨k - 1, by omega⟩
  simp only [spec_PlayHeavy.f, spec_NewHeavy.f, in_eq, Option.bind_some, decide_eq_true_eq, playH, spec_PlayHeavy.j0]
  by_cases c1 : 1 ≤ room ∧ room ≤ 16
  · by_cases c2 : l.length ≤ 300
    · have h := specPlay_l0 l c2 l.length 0 k (room, [], 0, 0) (by omega) (by omega) (by simp; omega)
      simp only [Int.natCast_zero, Int.ofNat_zero, List.drop_zero] at h
      have h3 : ¬ ((l.length : Int) > 300) := by omega
      simp [c1, c2, h3, h]
    · have h3 : ((l.length : Int) > 300) := by omega
      simp [c1, c2, h3]
  · simp [c1]
theorem implPlay_eq (room : Int) (l : List Int) (k : Nat) (hk : 3000 < k) : impl_PlayHeavy.f k room l = some (playH room l) := by
  obtain ⟨k, rfl⟩ : ∃ q, k = q + 1 := ⟨k - 1, by omega⟩
  simp only [impl_PlayHeavy.f, impl_NewHeavy.f, within_eq, Option.bind_some, decide_eq_true_eq, playH, impl_PlayHeavy.j0]
  by_cases c1 : 1 ≤ room ∧ room ≤ 16
  · by_cases c2 : l.length ≤ 300
    · have h := implPlay_l0 l c2 l.length 0 k (room, [], 0, 0) (by omega) (by omega) (by simp; omega)
      simp only [Int.natCast_zero, Int.ofNat_zero, List.drop_zero] at h
      have h3 : ¬ ((l.length : Int) > 300) := by omega
      simp [c1, c2, h3, h]
    · have h3 : ((l.length : Int) > 300) := by omega
      simp [c1, c2, h3]
  · simp [c1]
theorem playF_length : ∀ (l : List Int) v, (playF v l).2.1.length ≤ v.2.1.length + l.length
  | [], v => by simp [playF]
  | key :: r, v => by
    have hlen := addH_length v.1 v.2.1 v.2.2.1 v.2.2.2 key
    unfold playF
    split
    · have := playF_length r ((addH v.1 v.2.1 v.2.2.1 v.2.2.2 key).1, (addH v.1 v.2.1 v.2.2.1 v.2.2.2 key).2.1, (addH v.1 v.2.1 v.2.2.1 v.2.2.2 key).2.2.1, (addH v.1 v.2.1 v.2.2.1 v.2.2.2 key).2.2.2.1)
      simp only [List.length_cons] at this ⊢; omega
    · simp
theorem playH_length (room : Int) (l : List Int) : (playH room l).2.1.length ≤ 300 := by
  unfold playH
  split
  · rename_i h
    have := playF_length l (room, [], 0, 0)
    simp only [List.length_nil] at this; omega
  · simp
theorem FnExactPlayHeavy : laws_FnExactPlayHeavy.Pure := by
  intro room l _ hl0 _ _
  by_cases hl : l.length ≤ 1048576
  · have hn : ¬ ((l.length : Int) > 1048576) := by omega
    refine ⟨l.length + 4020, ?_⟩
    have hto := fun k hk => toIntS_eq l hl k hk
    have hsp := fun k hk => specPlay_eq room l k hk
    have him := fun k hk => implPlay_eq room l k hk
    have hlen := playH_length room l
    generalize playH room l = v at hsp him hlen
    obtain ⟨v0, v1, v2, v3, v4⟩ := v
    simp only at hlen
    have heq := fun k hk => eqHeavy_refl v0 v1 v2 v3 (by omega) k hk
    have heq2 := fun k hk => eqInts_refl l (by omega) k hk
    have hmk := fun k hk => markHeavy_eq v0 v1 v2 v3 (by omega) k hk
    have hhe := fun k hk => heldHeavy_eq v0 v1 v2 v3 (by omega) k hk
    obtain ⟨l', hmk2⟩ := markInts_eq l (by omega) (l.length + 4019) (by omega)
    have n1 : ¬ (1 + (l.length : Int) < 0) := by omega
    have n2 : ¬ (1 + 2 * (v1.length : Int) < 0) := by omega
    simp only [laws_FnExactPlayHeavy.f, if_neg hn, Option.bind_some,
      hto (l.length + 4020) (by omega), hsp (l.length + 4020) (by omega), him (l.length + 4020) (by omega), heq (l.length + 4020) (by omega), if_true, bne_self_eq_false,
      laws_FnExactPlayHeavy.j0, Bool.false_eq_true, if_false, hto (l.length + 4019) (by omega), heq2 (l.length + 4019) (by omega), hmk2, if_neg n1, heq (l.length + 4019) (by omega),
      laws_FnExactPlayHeavy.j1, hmk (l.length + 4018) (by omega), hhe (l.length + 4018) (by omega), if_neg n2, hto (l.length + 4018) (by omega), him (l.length + 4018) (by omega), heq (l.length + 4018) (by omega),
      laws_FnExactPlayHeavy.j2, hhe (l.length + 4017) (by omega)]
  · refine ⟨1, ?_⟩
    have hn : ((l.length : Int) > 1048576) := by omega
    simp [laws_FnExactPlayHeavy.f, hn]
end Go.Proofs.Ytofpohpflpdbiaa.Pure
namespace Go.Proofs.YtofpohpflpdbiaaW.PrintWords
open Go.ChangeShapes Go.WideShapes
theorem sized_ints {H : Type} {enc : TypeId × Value → H} {P : Program} {W : World} {base : Nat} {spare : Nat → Bool} {held : Bool} {t e : TypeId} {k : IntKind} {a : Option Addr} {len cap : Nat} {d : DataW H} {ps : List MemPlace} {ts : List TypeId} {ds : List (DataW H)} {j : Nat}
    (hsz : (DataW.weightsEach P ts ds).all (· ≤ reachBytes) = true) (ht : ts[j]? = some t) (hd : ds[j]? = some d) (hu : P.underlying t = some (.slice e)) (he : P.underlying e = some (.int k)) (hc : P.cellsOf e = 1) {B : Nat} (hB : P.bytesOf e = B)
    (h : DataW.Trod enc P W base spare held t (.slice a len cap) d ps) : len * B ≤ 140737488351232 := by
  obtain ⟨fuel, hf⟩ := h
  rcases open_ints hu he hc hf with ⟨hcs, _⟩ | ⟨x, l, c, zs, hcs, _, hl, _, hz, hx, _, _⟩
  · simp [Value.cells] at hcs
    obtain ⟨rfl, rfl, rfl⟩ := hcs
    simp
  · simp [Value.cells] at hcs
    obtain ⟨rfl, rfl, rfl⟩ := hcs
    obtain ⟨hx, _⟩ := Prod.mk.inj hx
    subst hx
    have z := sized_slice hsz ht hd hu
    rw [hB] at z
    have hl2 : len ≤ zs.length := by
      rw [hz]
      split
      · exact hl
      · exact Nat.le_refl _
    have h1 : (lits (H := H) k (zs.take len)).length + (lits (H := H) k (zs.drop len)).length = zs.length := by
      simp [lits]
      omega
    rw [h1] at z
    exact Nat.le_trans (Nat.mul_le_mul_right _ hl2) z
end Go.Proofs.YtofpohpflpdbiaaW.PrintWords
namespace Go.Proofs.Ytofpohpflpdbiaa.fnExactPlayHeavy
open Go.ChangeShapes Go.WideShapes Go.ChangeAt Go.RowKit
open Go.ChangeMaps (open_string shut_string)
set_option linter.unusedVariables false
theorem own : ownKnob Try.prog.godebug = none := by kernel_rfl
theorem laidOut : laidOutB Try.prog = true := by kernel_rfl
def IsRow (k : IntKind) (w : World) (a : Option Addr) (len cap : Nat) (zs : List Int) : Prop :=
  (a = none ∧ len = 0 ∧ cap = 0 ∧ zs = []) ∨
  ∃ x, a = some x ∧ len ≤ cap ∧ cap ≤ maxLen ∧ zs.length = cap ∧ (∀ i, i < zs.length → w.cell? (x.add i) = some (.int k (zs.getD i 0))) ∧ ∀ n ∈ zs, (Lit.int k n).wf = true
set_option maxRecDepth 100000 in
theorem lifted (os : Os) (started : os.Started) (H : Type) (enc : TypeId × Value → H) :
    ReturnsInHanded {} Try.checked os 4 .any (Rows.fnExactPlayHeavySpec.pre6 enc Try.prog Try.f4 Rows.fnExactPlayHeavyRow.domain false) (Rows.fnExactPlayHeavySpec.post enc Try.prog Try.f4 false true false false) := by
  refine returnsInHanded_of_change_sized (C := Try.checked) own started (by kernel_rfl) Try.func4
    (ChangeSpec.witness6 (enc := enc) (C := Try.checked) false ⟨#[], #[.int .i64 0, .slice none 0 0], []⟩ 8 (by kernel_rfl) (by kernel_rfl) (by kernel_rfl) (by kernel_rfl)) ?_
  intro W base args ds gs before hval0 hW hcnd hsz0 _
  have hsz : (DataW.weightsEach Try.prog (Try.f4.params.toList ++ Rows.fnExactPlayHeavySpec.plain.varTypes Try.prog) (ds ++ gs)).all (· ≤ reachBytes) = true := hsz0
  have hval : ∀ (j : Nat) t v, Try.f4.params[j]? = some t → args[j]? = some v → Value.okWide Try.prog W .any base t v := hval0
  have hW' := hW
  obtain ⟨p, q, hA0, hV, rfl, hfz, hnd⟩ := hW
  have hA : DataW.TrodAll enc Try.prog W 0 (fun _ => true) true Try.f4.params.toList args.toList ds p := hA0
  rw [Try.params4] at hA hval hsz
  obtain ⟨v0, vs0, d0, ds0, p0, q0, hargs, rfl, rfl, h0, r0⟩ := trodAll_cons hA
  obtain ⟨v1, vs1, d1, ds1, p1, q1, rfl, rfl, rfl, h1, r1⟩ := trodAll_cons r0
  obtain ⟨rfl, rfl, rfl⟩ := trodAll_nil r1
  obtain rfl : args = #[v0, v1] := by cases args; simp_all
  obtain ⟨rfl, rfl⟩ := trodVars_none hV
  obtain ⟨a0, rfl, rfl, rfl, w0⟩ := open_int Try.underlying3 (hval 0 3 v0 rfl rfl) h0
  obtain ⟨a1, len1, cap1, rfl⟩ := okWide_slice Try.underlying35 (hval 1 35 v1 rfl rfl)
  have k1 := h1
  have lt1 : ∀ x ∈ p1, x.block < W.heap.size := by obtain ⟨m, hm⟩ := k1; exact DataW.trod_lt m _ _ _ hm
  obtain ⟨z1, w1⟩ : ∃ zs, IsRow .i64 W a1 len1 cap1 zs := by
    obtain ⟨fuel, hf⟩ := h1
    rcases open_ints Try.underlying35 Try.underlying3 (by kernel_rfl) hf with ⟨hcs, _⟩ | ⟨x, l, c, zs, hcs, _, hl, hm, hz, _, hcell, hwz⟩
    · simp [Value.cells] at hcs
      obtain ⟨rfl, rfl, rfl⟩ := hcs
      exact ⟨[], .inl ⟨rfl, rfl, rfl, rfl⟩⟩
    · simp [Value.cells] at hcs
      obtain ⟨rfl, rfl, rfl⟩ := hcs
      exact ⟨zs, .inr ⟨_, rfl, hl, hm, by simpa using hz, hcell, hwz⟩⟩
  have y1 : len1 * 8 ≤ 140737488351232 := Go.Proofs.YtofpohpflpdbiaaW.PrintWords.sized_ints hsz (j := 1) (t := 35) rfl rfl Try.underlying35 Try.underlying3 (by kernel_rfl) (by kernel_rfl) h1
  clear hA0 hval0 hsz0 hsz
  refine (Go.Proofs.Ytofpohpflpdbiaa.H.laws_FnExactPlayHeavy.walk Go.Proofs.Ytofpohpflpdbiaa.Pure.FnExactPlayHeavy a0 a1 len1 cap1 z1 W w0 w1 y1).mono fun e W' ⟨he, bel⟩ => ?_
  subst he
  exact ⟨_, rfl, _, _, _, [], _, [], hW', trodAll_mk1 (shut_bool Try.underlying4 _), (trodAll_cons_mk (shut_int Try.underlying3 w0) (trodAll_cons_mk (Below.trod laidOut (by kernel_rfl) (of_decide_eq_true (by kernel_rfl)) k1 bel lt1) trodAll_mk0)), rfl, bel.frame _, fun h => by cases h⟩
theorem over : Rows.fnExactPlayHeavyRow.holds Try.pinned (OpenSpec.ofChange Rows.fnExactPlayHeavySpec) :=
  OpenClaim.holds_of_wide 4 Try.f4 rfl rfl rfl rfl rfl rfl rfl ⟨rfl, rfl, rfl, rfl, rfl⟩ rfl rfl rfl rfl rfl (by kernel_rfl) Try.func4 (by kernel_rfl)
    (of_decide_eq_true (by kernel_rfl)) (by unfold Func.isWrapper; first | (rw [if_pos (by decide +kernel)]; kernel_rfl) | (rw [if_neg (by decide +kernel)]; exact ⟨rfl, rfl⟩))
    (fun os started H enc _ => lifted os started H enc)
theorem proved : Rows.FnExactPlayHeavySaid := over
#print axioms proved
end Go.Proofs.Ytofpohpflpdbiaa.fnExactPlayHeavy
namespace Go.Proofs.Ytofpohpflpdbiaa
theorem fnExactPlayHeavy_holds : Rows.FnExactPlayHeavySaid := fnExactPlayHeavy.proved
end Go.Proofs.Ytofpohpflpdbiaa
