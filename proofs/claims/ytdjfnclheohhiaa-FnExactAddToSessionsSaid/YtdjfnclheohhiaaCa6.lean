/- Part 6 of a proof: walks of the given functions and laws over lists. -/
import Derived.Test.YtdjfnclheohhiaaCa5
namespace Go.Proofs.Ytdjfnclheohhiaa.K
open Go.RowKit Go.Proofs.YtdjfnclheohhiaaW.PrintWords Go.Proofs.YtdjfnclheohhiaaW.PrintLast Go.Proofs.YtdjfnclheohhiaaW.PrintMore Go.Proofs.YtdjfnclheohhiaaV
attribute [local go_sem] isSome_setCell max2_int min2_int max_two min_two max_three min_three max_four min_four   
set_option linter.unusedVariables false
set_option linter.unusedSimpArgs false
def impl_Session_56.f (l0 : List (S70)) : Option ((List (S70))) := (some (([] : List (S70)) : List (S70))).bind fun y408 => (if y408.length + l0.length < 3518437208883 then (some (y408 ++ l0)) else (none))
set_option maxHeartbeats 8000000 in
set_option maxRecDepth 100000 in
theorem impl_Session_56.calls (A0 : Option Addr) (c0 : Nat) (l0 : List (S70)) (r : List (S70)) (w : World) (hr0 : Kd.C k70 w A0 l0.length l0) (hc0 : l0.length ≤ c0) (h : impl_Session_56.f l0 = some r) :
    Calls Try.prog 56 #[.slice A0 l0.length c0] w fun e w' => ∃ v0_ : Value, e = .returned (v0_) ∧ Kd.R k70 70 w' w.heap.size (fun _ => True) v0_ r ∧ Below w.heap.size w w' := by
  have HN_ := fun (w : World) (A : Option Addr) (n c : Nat) => Lib.run_eql_slice_nil (P := Try.prog) w 24 70 A n c 0 0 Try.underlying24
  by_cases hA0_ : A0 = none
  · subst hA0_
    have hl_ : l0 = [] := List.eq_nil_of_length_eq_zero (Nat.eq_zero_of_not_pos fun hp => by obtain ⟨_, he, _⟩ := hr0.2.2 hp; cases he)
    subst hl_
    have hr_ : r = [] := by simpa [impl_Session_56.f] using h.symm
    subst hr_
    clear h hr0 hc0
    go_enter Try.func56, Try.ntmps56
    go_wp2
    go_ret
    exact ⟨_, rfl, Kd.R_nil k70 70 _ _ _, Below.refl _ _⟩
  have hA1_ : A0.isNone = false := by cases A0 <;> simp_all
  clear hA0_
  have HR0 := Aside0.mk hr0
  have HC0 := Aside0.mk hc0
  clear hr0 hc0
  have HB := Aside0.mk (Below.refl w.heap.size w)
  have H : ((some (([] : List (S70)) : List (S70))).bind fun y408 => (if y408.length + l0.length < 3518437208883 then (some (y408 ++ l0)) else (none))) = some r := h
  clear h
  obtain ⟨y408, hy408⟩ : ∃ y_ : List (S70), y_ = (([] : List (S70))) := ⟨_, rfl⟩
  replace H : (if y408.length + l0.length < 3518437208883 then (some (y408 ++ l0)) else (none)) = some r := by first | (rw [hy408]; with_reducible exact H) | (have H2_ := (Option.bind_some _ _).symm.trans H; rw [hy408]; with_reducible exact H2_) | (have H2_ := (Option.bind_some _ _).symm.trans H; with_reducible exact H2_) | with_reducible exact H | (rw [hy408]; exact H) | exact H
  have Ny408 := Aside0.mk hy408
  clear hy408
  by_cases c2 : y408.length + l0.length < 3518437208883
  · rw [if_pos c2] at H
    have LMc2 := Aside0.mk c2
    clear c2
    obtain ⟨y411, hy411⟩ : ∃ y_ : List (S70), y_ = (y408 ++ l0) := ⟨_, rfl⟩
    replace H : (some y411) = some r := by first | (rw [hy411]; with_reducible exact H) | (have H2_ := (Option.bind_some _ _).symm.trans H; rw [hy411]; with_reducible exact H2_) | (have H2_ := (Option.bind_some _ _).symm.trans H; with_reducible exact H2_) | with_reducible exact H | (rw [hy411]; exact H) | exact H
    have Ny411 := Aside0.mk hy411
    clear hy411
    obtain rfl := Option.some.inj H
    go_enter Try.func56, Try.ntmps56
    go_wp2_with (first | ((with_reducible refine gate_dst (N := 5) rfl ?_); refine Kd.R_lit k70 _ 70 ?hg (N := 5) ?hd (xs := ([] : List (S70))) (inner := []) (ok := fun _ => True) (okp := fun _ => True) ?hr ?hp (fun _ hk => hk) trivial (Below.refl _ _) (Nat.le_refl _) (by simp) ?_; (case hd => rfl); (case hg => rfl); (case hr => first | (go_simp; done) | (go_simp; rfl)); (case hp => exact (Reps.none _ _)); intro v409 w3 ho4 hb hg_ hnew_; clear hg_ hnew_; (first | rw [← Ny408.out] at ho4 | (simp only [Int.reduceToNat] at ho4; rw [← Ny408.out] at ho4)); have n0_ := Aside0.mk (Kd.R_lower ho4 (below_size bel)); have n1_ := Aside0.mk (below_step bel hb); clear HB; have HO410 := n0_; have HB := n1_; clear n0_ n1_; clear hb ho4) | ((with_reducible refine gate_builtin (b := .append) (xs := #[.tmp 5, .tmp 6]) rfl ?_); at_builtin; refine Kd.R_append_rows k70 (w0 := w) w.heap.size rfl (.tmp 5) (.tmp 6) 24 70 (.agg #[(.int .i64 0), (.int .i64 0), (.int .i64 0), (.int .i64 0), (.int .i64 0)]) 40 rfl Try.underlying24 info70 rfl (by decide) (by omega) v409 y408 l0 _ _ _ (fun _ => True) (fun _ => False) rfl rfl ?aO ?aR (fun _ _ h => h) (fun _ h => h.elim) ?aF ?aB ?aS ?aL ?_; (case aR => repeat (first | exact (Kd.C_below HR0.out HB.out) | (with_reducible refine Kd.C_alloc ?_ _) | (with_reducible refine Kd.C_drewN ?_ _) | (with_reducible refine Kd.C_drew ?_))); (case aB => exact bel); (case aF => exact (fun _ _ => trivial)); (case aO => exact (by (with_reducible repeat (first | apply Kd.R_alloc | apply Kd.R_drewN | apply Kd.R_drew)); exact HO410.out)); (case aS => exact (below_size bel)); (case aL => have := LMc2.out; omega); intro v412 w5 ho hb hg hat; rw [← Ny411.out] at ho; have n0_ := Aside0.mk (hb); have n1_ := Aside0.mk (ho); clear HB HO410; have HB := n0_; have HO413 := n1_; clear n0_ n1_; clear ho hb hg hat))
    go_ret
    exact ⟨_, by first | rfl | (simp [errW_none, errW_some] <;> rfl) | (simp [*, errW_none, errW_some] <;> rfl), by (with_reducible repeat (first | apply Kd.R_alloc | apply Kd.R_drewN | apply Kd.R_drew)); exact HO413.out, by repeat (first | (with_reducible first | exact HB.out | apply below_alloc | apply pw_below_drewN | apply below_drew1) | exact HB.out)⟩
  · rw [if_neg c2] at H
    exact absurd H (by simp)
end Go.Proofs.Ytdjfnclheohhiaa.K
namespace Go.Proofs.Ytdjfnclheohhiaa.K
open Go.RowKit Go.Proofs.YtdjfnclheohhiaaW.PrintWords Go.Proofs.YtdjfnclheohhiaaW.PrintLast Go.Proofs.YtdjfnclheohhiaaW.PrintMore Go.Proofs.YtdjfnclheohhiaaV
attribute [local go_sem] isSome_setCell max2_int min2_int max_two min_two max_three min_three max_four min_four   
set_option linter.unusedVariables false
set_option linter.unusedSimpArgs false
def impl_Session_57.l0 : Nat → List (S70) → Int → Int → Int → Int → Int → Int → Int → Int → Option (Int × Bool)
  | 0, _, _, _, _, _, _, _, _, _ => none
  | k + 1, x0, x8, x9, x10, x415000, x415001, x415002, x415003, x415004 => if x9 < x10 then (if 0 ≤ (wrap64 ((IntKind.u64.wrap (wrap64 (x9 + x10))) / 2)) then (if (wrap64 ((IntKind.u64.wrap (wrap64 (x9 + x10))) / 2)) < (x0.length : Int) then ((impl_sessionOrder.f k ((rd_T70 x0 (wrap64 ((IntKind.u64.wrap (wrap64 (x9 + x10))) / 2))).f0) ((rd_T70 x0 (wrap64 ((IntKind.u64.wrap (wrap64 (x9 + x10))) / 2))).f1) ((rd_T70 x0 (wrap64 ((IntKind.u64.wrap (wrap64 (x9 + x10))) / 2))).f2) ((rd_T70 x0 (wrap64 ((IntKind.u64.wrap (wrap64 (x9 + x10))) / 2))).f3) ((rd_T70 x0 (wrap64 ((IntKind.u64.wrap (wrap64 (x9 + x10))) / 2))).f4) x415000 x415001 x415002 x415003 x415004).bind fun t416 => (if t416 < 0 then (impl_Session_57.l0 k x0 x8 (wrap64 ((wrap64 ((IntKind.u64.wrap (wrap64 (x9 + x10))) / 2)) + 1)) x10 x415000 x415001 x415002 x415003 x415004) else (impl_Session_57.l0 k x0 x8 x9 (wrap64 ((IntKind.u64.wrap (wrap64 (x9 + x10))) / 2)) x415000 x415001 x415002 x415003 x415004))) else (none)) else (none)) else (if x9 < x8 then (if 0 ≤ x9 then (if x9 < (x0.length : Int) then ((impl_sessionOrder.f k ((rd_T70 x0 x9).f0) ((rd_T70 x0 x9).f1) ((rd_T70 x0 x9).f2) ((rd_T70 x0 x9).f3) ((rd_T70 x0 x9).f4) x415000 x415001 x415002 x415003 x415004).bind fun t418 => (some (x9, (t418 == 0)))) else (none)) else (none)) else (some (x9, false)))
def impl_Session_57.f (k : Nat) (l0 : List (S70)) (a1_0 : Int) (a1_1 : Int) (a1_2 : Int) (a1_3 : Int) (a1_4 : Int)  : Option (Int × Bool) := impl_Session_57.l0 k l0 (l0.length : Int) 0 (l0.length : Int) a1_0 a1_1 a1_2 a1_3 a1_4
theorem impl_Session_57.mono_l : ∀ k, (∀ y0 y1 y2 y3 y4 y5 y6 y7 y8, LeO (impl_Session_57.l0 k y0 y1 y2 y3 y4 y5 y6 y7 y8) (impl_Session_57.l0 (k + 1) y0 y1 y2 y3 y4 y5 y6 y7 y8))
  | 0 => fun _ _ _ _ _ _ _ _ _ r h => by simp [impl_Session_57.l0] at h
  | k + 1 => by
    have ih0 := impl_Session_57.mono_l k
    · intro y0 y1 y2 y3 y4 y5 y6 y7 y8
      unfold impl_Session_57.l0
      repeat' first
      | (with_reducible exact ih0 _ _ _ _ _ _ _ _ _)
      | (with_reducible exact impl_sessionOrder.mono _ _ _ _ _ _ _ _ _ _ _)
      | (with_reducible exact LeO.refl _)
      | (with_reducible exact LeO.none _)
      | (with_reducible refine LeO.ite ?_ ?_)
      | (with_reducible refine LeO.bind ?_ (fun _ => ?_))
      | exact ih0 _ _ _ _ _ _ _ _ _
      | exact impl_sessionOrder.mono _ _ _ _ _ _ _ _ _ _ _
      | exact LeO.none _
      | refine LeO.ite ?_ ?_
      | refine LeO.bind ?_ (fun _ => ?_)
theorem impl_Session_57.mono : ∀ a0 a1 a2 a3 a4 a5 k, LeO (impl_Session_57.f k a0 a1 a2 a3 a4 a5) (impl_Session_57.f (k + 1) a0 a1 a2 a3 a4 a5) := by
  intro a0 a1 a2 a3 a4 a5 k
  have ih0 := impl_Session_57.mono_l k
  unfold impl_Session_57.f
  repeat' first
      | (with_reducible exact ih0 _ _ _ _ _ _ _ _ _)
      | (with_reducible exact impl_sessionOrder.mono _ _ _ _ _ _ _ _ _ _ _)
      | (with_reducible exact LeO.refl _)
      | (with_reducible exact LeO.none _)
      | (with_reducible refine LeO.ite ?_ ?_)
      | (with_reducible refine LeO.bind ?_ (fun _ => ?_))
      | exact ih0 _ _ _ _ _ _ _ _ _
      | exact impl_sessionOrder.mono _ _ _ _ _ _ _ _ _ _ _
      | exact LeO.none _
      | refine LeO.ite ?_ ?_
      | refine LeO.bind ?_ (fun _ => ?_)
def impl_Session_57.T5 : Bool × List (List Nat × List Nat) := (true, [([], []), ([], []), ([], []), ([1, 2], [1, 2]), ([3], [3]), ([], []), ([0, 4, 5], [0, 4, 5]), ([6], [6])])
def impl_Session_57.B5 : List Nat := [0, 0, 0, 6, 14, 0, 63, 127]
theorem impl_Session_57.tab5 : rtab .any (opsOf Try.f57 5) = impl_Session_57.T5 := by kernel_rfl
theorem impl_Session_57.bits5 : waitsOk impl_Session_57.T5.2 impl_Session_57.B5 = true := by kernel_rfl
def impl_Session_57.T8 : Bool × List (List Nat × List Nat) := (true, [([], []), ([], []), ([], []), ([1, 2], [1, 2]), ([3], [3]), ([4], [4]), ([4], [4]), ([4], [4]), ([6, 7, 4], [4, 6, 7]), ([8, 4], [4, 8]), ([4], [4]), ([5, 9, 10, 4, 4], [4, 5, 9, 10]), ([11, 4], [4, 11]), ([4, 12], [4, 12]), ([0, 11, 0], [0]), ([13, 14, 0, 1, 2, 3, 4, 5, 6, 7, 8, 9, 10, 11, 12, 13, 14], [13])])
def impl_Session_57.B8 : List Nat := [0, 0, 0, 6, 14, 30, 30, 30, 222, 478, 30, 2046, 4094, 8190, 4095, 32767]
theorem impl_Session_57.tab8 : rtab .any (opsOf Try.f57 8) = impl_Session_57.T8 := by kernel_rfl
theorem impl_Session_57.bits8 : waitsOk impl_Session_57.T8.2 impl_Session_57.B8 = true := by kernel_rfl
set_option maxHeartbeats 8000000 in
set_option maxRecDepth 100000 in
theorem impl_Session_57.calls (k : Nat) (A0 : Option Addr) (c0 : Nat) (l0 : List (S70)) (a1_0 : Int) (a1_1 : Int) (a1_2 : Int) (a1_3 : Int) (a1_4 : Int)  (r1 : Int) (r2 : Bool) (w : World) (hr0 : Kd.C k70 w A0 l0.length l0) (hc0 : l0.length ≤ c0) (h : impl_Session_57.f k l0 a1_0 a1_1 a1_2 a1_3 a1_4 = some (r1, r2)) :
    Calls Try.prog 57 #[.slice A0 l0.length c0, .agg #[.int .i64 a1_0, .int .i64 a1_1, .int .i64 a1_2, .int .i64 a1_3, .int .i64 a1_4], .func (.func (49 : Nat)) #[] #[]] w fun e w' => e = .returned (.tuple #[.int .i64 r1, .bool r2]) ∧ Below w.heap.size w w' := by
  have hu70 := Try.underlying70
  have HR0 := Aside0.mk hr0
  have HC0 := Aside0.mk hc0
  clear hr0 hc0
  have HB := Aside0.mk (Below.refl w.heap.size w)
  have H : (impl_Session_57.l0 k l0 (l0.length : Int) 0 (l0.length : Int) a1_0 a1_1 a1_2 a1_3 a1_4) = some (r1, r2) := h
  clear h
  have H' := Aside0.mk H
  clear H
  go_enter Try.func57, Try.ntmps57
  go_wp2_with (first | ((with_reducible refine gate_dst (N := 4) rfl ?_); refine box_event ?hg (N := 4) ?hd (cs := #[.int .i64 a1_0, .int .i64 a1_1, .int .i64 a1_2, .int .i64 a1_3, .int .i64 a1_4]) (t := 70) ?hr ?_; (case hd => rfl); (case hg => rfl); (case hr => first | (go_simp; done) | (go_simp; rfl)); intro gb414 hg w4 hbox hb; have n0_ := Aside0.mk (below_step bel hb); have n1_ := Aside0.mk (hbox); have n2_ := Aside0.mk ((by rw [hg]; exact (below_size bel) : w.heap.size ≤ gb414)); have n3_ := Aside0.mk ((by rw [hg]; exact (below_size bel) : w.heap.size ≤ gb414)); clear HB; have HB := n0_; have BK414 := n1_; have GW414 := n2_; have GE414 := n3_; clear n0_ n1_ n2_ n3_; clear hb hbox hg))
  go_loopg [9, 10] k (fun kq v9 v10 w' => ∃ (x9_1 : Int) (x10_1 : Int), v9 = .int .i64 x9_1 ∧ v10 = .int .i64 x10_1 ∧ Aside0 (impl_Session_57.l0 kq l0 (l0.length : Int) x9_1 x10_1 a1_0 a1_1 a1_2 a1_3 a1_4 = some (r1, r2)) ∧ Aside0 (kq ≤ k) ∧ Aside0 (w'.heap[gb414]? = some (.cells #[.int .i64 a1_0, .int .i64 a1_1, .int .i64 a1_2, .int .i64 a1_3, .int .i64 a1_4] 70 (0, 0))) ∧ Aside0 (Below w.heap.size w w'))
  case atStart => exact ⟨(0), ((l0.length : Int)), (by first | rfl | (simp; done) | (simp [*]; done)), (by first | rfl | (simp; done) | (simp [*]; done)), H', ⟨Nat.le_refl _⟩, ⟨by (with_reducible repeat (first | refine blk_drewN ?_ _ | refine blk_drew ?_ | refine blk_alloc ?_ _)); exact BK414.out⟩, ⟨by repeat (first | (with_reducible first | exact HB.out | apply below_alloc | apply pw_below_drewN | apply below_drew1 | refine below_set ?_ GE414.out) | exact HB.out)⟩⟩
  case round =>
    clear H'
    try clear p2
    obtain ⟨x9_1, x10_1, rfl, rfl, HA, HK1, BK414, HB⟩ := hrel
    cases gk with
    | zero => exact absurd HA.out (by simp [impl_Session_57.l0])
    | succ k1 =>
      have H := HA.out
      clear HA
      simp only [impl_Session_57.l0] at H
      by_cases c5 : x9_1 < x10_1
      · rw [if_pos c5] at H
        have c5b0 : decide (x9_1 < x10_1) = true := decide_eq_true c5
        clear c5
        obtain ⟨ji6, hji6⟩ : ∃ j_ : Int, (wrap64 ((IntKind.u64.wrap (wrap64 (x9_1 + x10_1))) / 2)) = j_ := ⟨_, rfl⟩
        replace H : (if 0 ≤ (ji6) then (if (ji6) < (l0.length : Int) then ((impl_sessionOrder.f k1 ((rd_T70 l0 (ji6)).f0) ((rd_T70 l0 (ji6)).f1) ((rd_T70 l0 (ji6)).f2) ((rd_T70 l0 (ji6)).f3) ((rd_T70 l0 (ji6)).f4) a1_0 a1_1 a1_2 a1_3 a1_4).bind fun t416 => (if t416 < 0 then (impl_Session_57.l0 k1 l0 (l0.length : Int) (wrap64 ((ji6) + 1)) x10_1 a1_0 a1_1 a1_2 a1_3 a1_4) else (impl_Session_57.l0 k1 l0 (l0.length : Int) x9_1 ji6 a1_0 a1_1 a1_2 a1_3 a1_4))) else (none)) else (none)) = some (r1, r2) := by first | (rw [hji6] at H; exact H) | (simp only [hji6] at H ⊢; exact H)
        have hji6w : (IntKind.i64.wrap ((IntKind.u64.wrap (wrap64 (x9_1 + x10_1))) / 2)) = ji6 := (i64_w _).trans hji6
        by_cases c7 : 0 ≤ (ji6)
        · rw [if_pos c7] at H
          have c7b0 : decide (0 ≤ (ji6)) = true := decide_eq_true c7
          clear c7
          by_cases c8 : (ji6) < (l0.length : Int)
          · rw [if_pos c8] at H
            have c8b0 : decide ((ji6) < (l0.length : Int)) = true := decide_eq_true c8
            clear c8
            replace H := Option.bind_eq_some_iff.mp H
            obtain ⟨t416, A90, H⟩ := H
            replace H : (if t416 < 0 then (impl_Session_57.l0 k1 l0 (l0.length : Int) (wrap64 ((ji6) + 1)) x10_1 a1_0 a1_1 a1_2 a1_3 a1_4) else (impl_Session_57.l0 k1 l0 (l0.length : Int) x9_1 ji6 a1_0 a1_1 a1_2 a1_3 a1_4)) = some (r1, r2) := H
            have A9 := Aside0.mk A90
            clear A90
            by_cases c10 : t416 < 0
            · rw [if_pos c10] at H
              have c10b0 : decide (t416 < 0) = true := decide_eq_true c10
              clear c10
              have H' := Aside0.mk H
              clear H
              try go_wp2
              have n0_ := Aside0.mk (blk_drew BK414.out)
              have n1_ := Aside0.mk (below_drew1 HB.out)
              clear BK414 HB
              have BK414 := n0_
              have HB := n1_
              clear n0_ n1_
              have p415 : 0 ≤ ((ji6) : Int) := of_decide_eq_true (by first | (with_reducible assumption) | assumption)
              have q415 : (ji6) < (l0.length : Int) := of_decide_eq_true (by first | (with_reducible assumption) | assumption)
              obtain ⟨ad415, e415, hx415_0, hx415_1, hx415_2, hx415_3, hx415_4⟩ := at_T70 HR0.out (ji6) p415 q415
              have hw415_4 := hx415_4
              have hw415_3 := hx415_3
              have hw415_2 := hx415_2
              have hw415_1 := hx415_1
              have hw415_0 := hx415_0
              cases e415
              replace hx415_0 := (HB.out.cell (World.block_lt_of_cell? w _ hx415_0)).trans hx415_0
              replace hx415_1 := (HB.out.cell (World.block_lt_of_cell? w _ hx415_1)).trans hx415_1
              replace hx415_2 := (HB.out.cell (World.block_lt_of_cell? w _ hx415_2)).trans hx415_2
              replace hx415_3 := (HB.out.cell (World.block_lt_of_cell? w _ hx415_3)).trans hx415_3
              replace hx415_4 := (HB.out.cell (World.block_lt_of_cell? w _ hx415_4)).trans hx415_4
              replace p415 := eq_true p415
              replace q415 := eq_true q415
              refine start_ (n := 8) (S := fun w' => w'.cell? ⟨gb414, 0, none⟩ = some (.int .i64 a1_0) ∧ w'.cell? ⟨gb414, 1, none⟩ = some (.int .i64 a1_1) ∧ w'.cell? ⟨gb414, 2, none⟩ = some (.int .i64 a1_2) ∧ w'.cell? ⟨gb414, 3, none⟩ = some (.int .i64 a1_3) ∧ w'.cell? ⟨gb414, 4, none⟩ = some (.int .i64 a1_4) ∧ w'.cell? (ad415.add (((ji6)).toNat * 5)) = some (.int .i64 ((rd_T70 l0 (ji6)).f0)) ∧ w'.cell? ⟨(ad415.add (((ji6)).toNat * 5)).block, (ad415.add (((ji6)).toNat * 5)).off + 1, none⟩ = some (.int .i64 ((rd_T70 l0 (ji6)).f1)) ∧ w'.cell? ⟨(ad415.add (((ji6)).toNat * 5)).block, (ad415.add (((ji6)).toNat * 5)).off + 2, none⟩ = some (.int .i64 ((rd_T70 l0 (ji6)).f2)) ∧ w'.cell? ⟨(ad415.add (((ji6)).toNat * 5)).block, (ad415.add (((ji6)).toNat * 5)).off + 3, none⟩ = some (.int .i64 ((rd_T70 l0 (ji6)).f3)) ∧ w'.cell? ⟨(ad415.add (((ji6)).toNat * 5)).block, (ad415.add (((ji6)).toNat * 5)).off + 4, none⟩ = some (.int .i64 ((rd_T70 l0 (ji6)).f4))) (ds := []) #[false, false, false, false, false, false, false, false] (by kernel_rfl) rfl rfl ⟨(blk_cell BK414.out 0).trans rfl, (blk_cell BK414.out 1).trans rfl, (blk_cell BK414.out 2).trans rfl, (blk_cell BK414.out 3).trans rfl, (blk_cell BK414.out 4).trans rfl, ((HB.out.cell (World.block_lt_of_cell? w _ hw415_0)).trans hw415_0), ((HB.out.cell (World.block_lt_of_cell? w _ hw415_1)).trans hw415_1), ((HB.out.cell (World.block_lt_of_cell? w _ hw415_2)).trans hw415_2), ((HB.out.cell (World.block_lt_of_cell? w _ hw415_3)).trans hw415_3), ((HB.out.cell (World.block_lt_of_cell? w _ hw415_4)).trans hw415_4)⟩ (fun hHeld => ?_); refine with_tabW impl_Session_57.tab5 impl_Session_57.bits5 (fun HT_ HW_ => ?_)
              generalize wr.drew = w11 at BK414 HB hx415_0 hx415_1 hx415_2 hx415_3 hx415_4 hHeld ⊢
              refine pure_ (i := 0) (N := some 24) (v := ?_) (a' := ?_) #[true, false, false, false, false, false, false, false] rfl rfl (any_of HT_.out (by kernel_rfl)) (fun _ _ _ h => h) (Or.inl ⟨by rfl, ?_⟩) ?_ ?_
              rotate_left
              · intro w'
                go_simp
                with_reducible rfl
              rotate_left
              · simp only [Act.put, List.setIfInBounds_toArray, List.set_cons_zero, List.set_cons_succ, i64_w, i32_w]
                rfl
              refine pure_ (i := 1) (N := some 25) (v := ?_) (a' := ?_) #[true, true, false, false, false, false, false, false] rfl rfl (any_of HT_.out (by kernel_rfl)) (fun _ _ _ h => h) (Or.inl ⟨by rfl, ?_⟩) ?_ ?_
              rotate_left
              · intro w'
                go_simp
                with_reducible rfl
              rotate_left
              · simp only [Act.put, List.setIfInBounds_toArray, List.set_cons_zero, List.set_cons_succ, i64_w, i32_w]
                rfl
              refine pure_ (i := 2) (N := some 26) (v := ?_) (a' := ?_) #[true, true, true, false, false, false, false, false] rfl rfl (any_of HT_.out (by kernel_rfl)) (fun _ _ _ h => h) (Or.inl ⟨by rfl, ?_⟩) ?_ ?_
              rotate_left
              · intro w'
                go_simp
                with_reducible rfl
              rotate_left
              · simp only [Act.put, List.setIfInBounds_toArray, List.set_cons_zero, List.set_cons_succ, i64_w, i32_w]
                rfl
              refine pure_ (i := 3) (N := some 27) (v := ?_) (a' := ?_) #[true, true, true, true, false, false, false, false] rfl rfl (any_of HT_.out (by kernel_rfl)) (fun _ _ _ h => h) (Or.inl ⟨by rfl, ?_⟩) ?_ ?_
              rotate_left
              · intro w'
                go_simp
                with_reducible rfl
              rotate_left
              · simp only [Act.put, List.setIfInBounds_toArray, List.set_cons_zero, List.set_cons_succ, i64_w, i32_w]
                rfl
              refine take_ (i := 4) (N := some 28) (v := ?_) (a' := ?_) #[true, true, true, true, true, false, false, false] rfl rfl (take_ofW HT_.out HW_.out (by kernel_rfl)) (fun _ _ _ h => h) (Or.inl ⟨by rfl, ?_⟩) hHeld ?_ ?_
              rotate_left
              · rintro w' ⟨s0, s1, s2, s3, s4, s5, s6, s7, s8, s9⟩
                go_simp
                with_reducible rfl
              rotate_left
              · simp only [Act.put, List.setIfInBounds_toArray, List.set_cons_zero, List.set_cons_succ, i64_w, i32_w]
                rfl
              refine take_ (i := 5) (N := some 29) (v := ?_) (a' := ?_) #[true, true, true, true, true, true, false, false] rfl rfl (take_ofW HT_.out HW_.out (by kernel_rfl)) (fun _ _ _ h => h) (Or.inl ⟨by rfl, ?_⟩) hHeld ?_ ?_
              rotate_left
              · rintro w' ⟨s0, s1, s2, s3, s4, s5, s6, s7, s8, s9⟩
                go_simp
                with_reducible rfl
              rotate_left
              · simp only [Act.put, List.setIfInBounds_toArray, List.set_cons_zero, List.set_cons_succ, i64_w, i32_w]
                rfl
              refine one_ (i := 6) (N := some 30) #[true, true, true, true, true, true, true, false] rfl rfl (one_of HT_.out (by kernel_rfl)) (by decide) (fun K hK => ?_)
              refine goesV_ Try.func49 (by kernel_rfl) rfl #[.agg #[.int .i64 ((rd_T70 l0 (ji6)).f0), .int .i64 ((rd_T70 l0 (ji6)).f1), .int .i64 ((rd_T70 l0 (ji6)).f2), .int .i64 ((rd_T70 l0 (ji6)).f3), .int .i64 ((rd_T70 l0 (ji6)).f4)], .agg #[.int .i64 a1_0, .int .i64 a1_1, .int .i64 a1_2, .int .i64 a1_3, .int .i64 a1_4]] (by rfl) rfl rfl (by rfl) (by (try simp only [List.map_toArray, List.map_cons, List.map_nil]); first | done | (simp only [hji6]; rfl) | rfl | (simp only [List.length_drop, List.length_take]; rfl)) ?_
              with_reducible refine (impl_sessionOrder.calls k1 ((rd_T70 l0 (ji6)).f0) ((rd_T70 l0 (ji6)).f1) ((rd_T70 l0 (ji6)).f2) ((rd_T70 l0 (ji6)).f3) ((rd_T70 l0 (ji6)).f4) a1_0 a1_1 a1_2 a1_3 a1_4 t416 _ A9.out).mono ?_
              rintro e w12 ⟨rfl, hb⟩
              refine ⟨_, rfl, ?_⟩
              have n0_ := Aside0.mk (blk_below (g := gb414) (o := .cells #[.int .i64 a1_0, .int .i64 a1_1, .int .i64 a1_2, .int .i64 a1_3, .int .i64 a1_4] 70 (0, 0)) (blkq BK414.out) hb)
              have n1_ := Aside0.mk (below_step bel hb)
              clear BK414 HB
              have BK414 := n0_
              have HB := n1_
              clear n0_ n1_
              (try clear hb)
              (try clear hb2)
              (try clear hk)
              (try clear hi)
              refine hK.out _ _ ⟨(blk_cell BK414.out 0).trans rfl, (blk_cell BK414.out 1).trans rfl, (blk_cell BK414.out 2).trans rfl, (blk_cell BK414.out 3).trans rfl, (blk_cell BK414.out 4).trans rfl, ((HB.out.cell (World.block_lt_of_cell? w _ hw415_0)).trans hw415_0), ((HB.out.cell (World.block_lt_of_cell? w _ hw415_1)).trans hw415_1), ((HB.out.cell (World.block_lt_of_cell? w _ hw415_2)).trans hw415_2), ((HB.out.cell (World.block_lt_of_cell? w _ hw415_3)).trans hw415_3), ((HB.out.cell (World.block_lt_of_cell? w _ hw415_4)).trans hw415_4)⟩ (fun hHeld => ?_)
              clear hK K
              refine norm_ (a' := ?_) ?_ ?_
              rotate_left
              · show Act.put _ (some 30) _ = _
                simp only [Act.put, List.setIfInBounds_toArray, List.set_cons_zero, List.set_cons_succ, i64_w, i32_w]
                rfl
              refine pure_ (i := 7) (N := some 31) (v := ?_) (a' := ?_) #[true, true, true, true, true, true, true, true] rfl rfl (any_of HT_.out (by kernel_rfl)) (fun _ _ _ h => h) (Or.inl ⟨by rfl, ?_⟩) ?_ ?_
              rotate_left
              · intro w'
                go_simp
                with_reducible rfl
              rotate_left
              · simp only [Act.put, List.setIfInBounds_toArray, List.set_cons_zero, List.set_cons_succ, i64_w, i32_w]
                rfl
              refine done_ (done_of HT_.out (by kernel_rfl)) ?_
              try go_wp2
              go_roundg k1
              case measure => have := HK1.out; omega
              case rel => exact ⟨(wrap64 ((ji6) + 1)), (x10_1), (by first | rfl | (simp; done) | (simp only [← hji6] <;> (first | rfl | simp)) | (simp [*]; done)), (by first | rfl | (simp; done) | (simp [*]; done)), H', ⟨by have := HK1.out; omega⟩, ⟨by (with_reducible repeat (first | refine blk_drewN ?_ _ | refine blk_drew ?_ | refine blk_alloc ?_ _)); exact BK414.out⟩, ⟨by repeat (first | (with_reducible first | exact HB.out | apply below_alloc | apply pw_below_drewN | apply below_drew1 | refine below_set ?_ GE414.out) | exact HB.out)⟩⟩
            · rw [if_neg c10] at H
              have c10b0 : decide (t416 < 0) = false := decide_eq_false c10
              clear c10
              have H' := Aside0.mk H
              clear H
              try go_wp2
              have n0_ := Aside0.mk (blk_drew BK414.out)
              have n1_ := Aside0.mk (below_drew1 HB.out)
              clear BK414 HB
              have BK414 := n0_
              have HB := n1_
              clear n0_ n1_
              have p415 : 0 ≤ ((ji6) : Int) := of_decide_eq_true (by first | (with_reducible assumption) | assumption)
              have q415 : (ji6) < (l0.length : Int) := of_decide_eq_true (by first | (with_reducible assumption) | assumption)
              obtain ⟨ad415, e415, hx415_0, hx415_1, hx415_2, hx415_3, hx415_4⟩ := at_T70 HR0.out (ji6) p415 q415
              have hw415_4 := hx415_4
              have hw415_3 := hx415_3
              have hw415_2 := hx415_2
              have hw415_1 := hx415_1
              have hw415_0 := hx415_0
              cases e415
              replace hx415_0 := (HB.out.cell (World.block_lt_of_cell? w _ hx415_0)).trans hx415_0
              replace hx415_1 := (HB.out.cell (World.block_lt_of_cell? w _ hx415_1)).trans hx415_1
              replace hx415_2 := (HB.out.cell (World.block_lt_of_cell? w _ hx415_2)).trans hx415_2
              replace hx415_3 := (HB.out.cell (World.block_lt_of_cell? w _ hx415_3)).trans hx415_3
              replace hx415_4 := (HB.out.cell (World.block_lt_of_cell? w _ hx415_4)).trans hx415_4
              replace p415 := eq_true p415
              replace q415 := eq_true q415
              refine start_ (n := 8) (S := fun w' => w'.cell? ⟨gb414, 0, none⟩ = some (.int .i64 a1_0) ∧ w'.cell? ⟨gb414, 1, none⟩ = some (.int .i64 a1_1) ∧ w'.cell? ⟨gb414, 2, none⟩ = some (.int .i64 a1_2) ∧ w'.cell? ⟨gb414, 3, none⟩ = some (.int .i64 a1_3) ∧ w'.cell? ⟨gb414, 4, none⟩ = some (.int .i64 a1_4) ∧ w'.cell? (ad415.add (((ji6)).toNat * 5)) = some (.int .i64 ((rd_T70 l0 (ji6)).f0)) ∧ w'.cell? ⟨(ad415.add (((ji6)).toNat * 5)).block, (ad415.add (((ji6)).toNat * 5)).off + 1, none⟩ = some (.int .i64 ((rd_T70 l0 (ji6)).f1)) ∧ w'.cell? ⟨(ad415.add (((ji6)).toNat * 5)).block, (ad415.add (((ji6)).toNat * 5)).off + 2, none⟩ = some (.int .i64 ((rd_T70 l0 (ji6)).f2)) ∧ w'.cell? ⟨(ad415.add (((ji6)).toNat * 5)).block, (ad415.add (((ji6)).toNat * 5)).off + 3, none⟩ = some (.int .i64 ((rd_T70 l0 (ji6)).f3)) ∧ w'.cell? ⟨(ad415.add (((ji6)).toNat * 5)).block, (ad415.add (((ji6)).toNat * 5)).off + 4, none⟩ = some (.int .i64 ((rd_T70 l0 (ji6)).f4))) (ds := []) #[false, false, false, false, false, false, false, false] (by kernel_rfl) rfl rfl ⟨(blk_cell BK414.out 0).trans rfl, (blk_cell BK414.out 1).trans rfl, (blk_cell BK414.out 2).trans rfl, (blk_cell BK414.out 3).trans rfl, (blk_cell BK414.out 4).trans rfl, ((HB.out.cell (World.block_lt_of_cell? w _ hw415_0)).trans hw415_0), ((HB.out.cell (World.block_lt_of_cell? w _ hw415_1)).trans hw415_1), ((HB.out.cell (World.block_lt_of_cell? w _ hw415_2)).trans hw415_2), ((HB.out.cell (World.block_lt_of_cell? w _ hw415_3)).trans hw415_3), ((HB.out.cell (World.block_lt_of_cell? w _ hw415_4)).trans hw415_4)⟩ (fun hHeld => ?_); refine with_tabW impl_Session_57.tab5 impl_Session_57.bits5 (fun HT_ HW_ => ?_)
              generalize wr.drew = w13 at BK414 HB hx415_0 hx415_1 hx415_2 hx415_3 hx415_4 hHeld ⊢
              refine pure_ (i := 0) (N := some 24) (v := ?_) (a' := ?_) #[true, false, false, false, false, false, false, false] rfl rfl (any_of HT_.out (by kernel_rfl)) (fun _ _ _ h => h) (Or.inl ⟨by rfl, ?_⟩) ?_ ?_
              rotate_left
              · intro w'
                go_simp
                with_reducible rfl
              rotate_left
              · simp only [Act.put, List.setIfInBounds_toArray, List.set_cons_zero, List.set_cons_succ, i64_w, i32_w]
                rfl
              refine pure_ (i := 1) (N := some 25) (v := ?_) (a' := ?_) #[true, true, false, false, false, false, false, false] rfl rfl (any_of HT_.out (by kernel_rfl)) (fun _ _ _ h => h) (Or.inl ⟨by rfl, ?_⟩) ?_ ?_
              rotate_left
              · intro w'
                go_simp
                with_reducible rfl
              rotate_left
              · simp only [Act.put, List.setIfInBounds_toArray, List.set_cons_zero, List.set_cons_succ, i64_w, i32_w]
                rfl
              refine pure_ (i := 2) (N := some 26) (v := ?_) (a' := ?_) #[true, true, true, false, false, false, false, false] rfl rfl (any_of HT_.out (by kernel_rfl)) (fun _ _ _ h => h) (Or.inl ⟨by rfl, ?_⟩) ?_ ?_
              rotate_left
              · intro w'
                go_simp
                with_reducible rfl
              rotate_left
              · simp only [Act.put, List.setIfInBounds_toArray, List.set_cons_zero, List.set_cons_succ, i64_w, i32_w]
                rfl
              refine pure_ (i := 3) (N := some 27) (v := ?_) (a' := ?_) #[true, true, true, true, false, false, false, false] rfl rfl (any_of HT_.out (by kernel_rfl)) (fun _ _ _ h => h) (Or.inl ⟨by rfl, ?_⟩) ?_ ?_
              rotate_left
              · intro w'
                go_simp
                with_reducible rfl
              rotate_left
              · simp only [Act.put, List.setIfInBounds_toArray, List.set_cons_zero, List.set_cons_succ, i64_w, i32_w]
                rfl
              refine take_ (i := 4) (N := some 28) (v := ?_) (a' := ?_) #[true, true, true, true, true, false, false, false] rfl rfl (take_ofW HT_.out HW_.out (by kernel_rfl)) (fun _ _ _ h => h) (Or.inl ⟨by rfl, ?_⟩) hHeld ?_ ?_
              rotate_left
              · rintro w' ⟨s0, s1, s2, s3, s4, s5, s6, s7, s8, s9⟩
                go_simp
                with_reducible rfl
              rotate_left
              · simp only [Act.put, List.setIfInBounds_toArray, List.set_cons_zero, List.set_cons_succ, i64_w, i32_w]
                rfl
              refine take_ (i := 5) (N := some 29) (v := ?_) (a' := ?_) #[true, true, true, true, true, true, false, false] rfl rfl (take_ofW HT_.out HW_.out (by kernel_rfl)) (fun _ _ _ h => h) (Or.inl ⟨by rfl, ?_⟩) hHeld ?_ ?_
              rotate_left
              · rintro w' ⟨s0, s1, s2, s3, s4, s5, s6, s7, s8, s9⟩
                go_simp
                with_reducible rfl
              rotate_left
              · simp only [Act.put, List.setIfInBounds_toArray, List.set_cons_zero, List.set_cons_succ, i64_w, i32_w]
                rfl
              refine one_ (i := 6) (N := some 30) #[true, true, true, true, true, true, true, false] rfl rfl (one_of HT_.out (by kernel_rfl)) (by decide) (fun K hK => ?_)
              refine goesV_ Try.func49 (by kernel_rfl) rfl #[.agg #[.int .i64 ((rd_T70 l0 (ji6)).f0), .int .i64 ((rd_T70 l0 (ji6)).f1), .int .i64 ((rd_T70 l0 (ji6)).f2), .int .i64 ((rd_T70 l0 (ji6)).f3), .int .i64 ((rd_T70 l0 (ji6)).f4)], .agg #[.int .i64 a1_0, .int .i64 a1_1, .int .i64 a1_2, .int .i64 a1_3, .int .i64 a1_4]] (by rfl) rfl rfl (by rfl) (by (try simp only [List.map_toArray, List.map_cons, List.map_nil]); first | done | (simp only [hji6]; rfl) | rfl | (simp only [List.length_drop, List.length_take]; rfl)) ?_
              with_reducible refine (impl_sessionOrder.calls k1 ((rd_T70 l0 (ji6)).f0) ((rd_T70 l0 (ji6)).f1) ((rd_T70 l0 (ji6)).f2) ((rd_T70 l0 (ji6)).f3) ((rd_T70 l0 (ji6)).f4) a1_0 a1_1 a1_2 a1_3 a1_4 t416 _ A9.out).mono ?_
              rintro e w14 ⟨rfl, hb⟩
              refine ⟨_, rfl, ?_⟩
              have n0_ := Aside0.mk (blk_below (g := gb414) (o := .cells #[.int .i64 a1_0, .int .i64 a1_1, .int .i64 a1_2, .int .i64 a1_3, .int .i64 a1_4] 70 (0, 0)) (blkq BK414.out) hb)
              have n1_ := Aside0.mk (below_step bel hb)
              clear BK414 HB
              have BK414 := n0_
              have HB := n1_
              clear n0_ n1_
              (try clear hb)
              (try clear hb2)
              (try clear hk)
              (try clear hi)
              refine hK.out _ _ ⟨(blk_cell BK414.out 0).trans rfl, (blk_cell BK414.out 1).trans rfl, (blk_cell BK414.out 2).trans rfl, (blk_cell BK414.out 3).trans rfl, (blk_cell BK414.out 4).trans rfl, ((HB.out.cell (World.block_lt_of_cell? w _ hw415_0)).trans hw415_0), ((HB.out.cell (World.block_lt_of_cell? w _ hw415_1)).trans hw415_1), ((HB.out.cell (World.block_lt_of_cell? w _ hw415_2)).trans hw415_2), ((HB.out.cell (World.block_lt_of_cell? w _ hw415_3)).trans hw415_3), ((HB.out.cell (World.block_lt_of_cell? w _ hw415_4)).trans hw415_4)⟩ (fun hHeld => ?_)
              clear hK K
              refine norm_ (a' := ?_) ?_ ?_
              rotate_left
              · show Act.put _ (some 30) _ = _
                simp only [Act.put, List.setIfInBounds_toArray, List.set_cons_zero, List.set_cons_succ, i64_w, i32_w]
                rfl
              refine pure_ (i := 7) (N := some 31) (v := ?_) (a' := ?_) #[true, true, true, true, true, true, true, true] rfl rfl (any_of HT_.out (by kernel_rfl)) (fun _ _ _ h => h) (Or.inl ⟨by rfl, ?_⟩) ?_ ?_
              rotate_left
              · intro w'
                go_simp
                with_reducible rfl
              rotate_left
              · simp only [Act.put, List.setIfInBounds_toArray, List.set_cons_zero, List.set_cons_succ, i64_w, i32_w]
                rfl
              refine done_ (done_of HT_.out (by kernel_rfl)) ?_
              try go_wp2
              go_roundg k1
              case measure => have := HK1.out; omega
              case rel => exact ⟨(x9_1), (ji6), (by first | rfl | (simp; done) | (simp [*]; done)), (by first | rfl | (simp; done) | (simp only [← hji6] <;> (first | rfl | simp)) | (simp [*]; done)), H', ⟨by have := HK1.out; omega⟩, ⟨by (with_reducible repeat (first | refine blk_drewN ?_ _ | refine blk_drew ?_ | refine blk_alloc ?_ _)); exact BK414.out⟩, ⟨by repeat (first | (with_reducible first | exact HB.out | apply below_alloc | apply pw_below_drewN | apply below_drew1 | refine below_set ?_ GE414.out) | exact HB.out)⟩⟩
          · rw [if_neg c8] at H
            exact absurd H (by simp)
        · rw [if_neg c7] at H
          exact absurd H (by simp)
      · rw [if_neg c5] at H
        have c5b0 : decide (x9_1 < x10_1) = false := decide_eq_false c5
        clear c5
        by_cases c15 : x9_1 < (l0.length : Int)
        · rw [if_pos c15] at H
          have c15b0 : decide (x9_1 < (l0.length : Int)) = true := decide_eq_true c15
          clear c15
          by_cases c16 : 0 ≤ x9_1
          · rw [if_pos c16] at H
            have c16b0 : decide (0 ≤ x9_1) = true := decide_eq_true c16
            clear c16
            by_cases c17 : x9_1 < (l0.length : Int)
            · rw [if_pos c17] at H
              have c17b0 : decide (x9_1 < (l0.length : Int)) = true := decide_eq_true c17
              clear c17
              replace H := Option.bind_eq_some_iff.mp H
              obtain ⟨t418, A180, H⟩ := H
              replace H : (some (x9_1, (t418 == 0))) = some (r1, r2) := H
              have A18 := Aside0.mk A180
              clear A180
              simp only [Option.some.injEq, Prod.mk.injEq] at H
              obtain ⟨rfl, rfl⟩ := H
              try go_wp2
              have n0_ := Aside0.mk (blk_drew BK414.out)
              have n1_ := Aside0.mk (below_drew1 HB.out)
              clear BK414 HB
              have BK414 := n0_
              have HB := n1_
              clear n0_ n1_
              have p417 : 0 ≤ (x9_1 : Int) := of_decide_eq_true (by first | (with_reducible assumption) | assumption)
              have q417 : x9_1 < (l0.length : Int) := of_decide_eq_true (by first | (with_reducible assumption) | assumption)
              obtain ⟨ad417, e417, hx417_0, hx417_1, hx417_2, hx417_3, hx417_4⟩ := at_T70 HR0.out x9_1 p417 q417
              have hw417_4 := hx417_4
              have hw417_3 := hx417_3
              have hw417_2 := hx417_2
              have hw417_1 := hx417_1
              have hw417_0 := hx417_0
              cases e417
              replace hx417_0 := (HB.out.cell (World.block_lt_of_cell? w _ hx417_0)).trans hx417_0
              replace hx417_1 := (HB.out.cell (World.block_lt_of_cell? w _ hx417_1)).trans hx417_1
              replace hx417_2 := (HB.out.cell (World.block_lt_of_cell? w _ hx417_2)).trans hx417_2
              replace hx417_3 := (HB.out.cell (World.block_lt_of_cell? w _ hx417_3)).trans hx417_3
              replace hx417_4 := (HB.out.cell (World.block_lt_of_cell? w _ hx417_4)).trans hx417_4
              replace p417 := eq_true p417
              replace q417 := eq_true q417
              refine start_ (n := 16) (S := fun w' => w'.cell? ⟨gb414, 0, none⟩ = some (.int .i64 a1_0) ∧ w'.cell? ⟨gb414, 1, none⟩ = some (.int .i64 a1_1) ∧ w'.cell? ⟨gb414, 2, none⟩ = some (.int .i64 a1_2) ∧ w'.cell? ⟨gb414, 3, none⟩ = some (.int .i64 a1_3) ∧ w'.cell? ⟨gb414, 4, none⟩ = some (.int .i64 a1_4) ∧ w'.cell? (ad417.add ((x9_1).toNat * 5)) = some (.int .i64 ((rd_T70 l0 x9_1).f0)) ∧ w'.cell? ⟨(ad417.add ((x9_1).toNat * 5)).block, (ad417.add ((x9_1).toNat * 5)).off + 1, none⟩ = some (.int .i64 ((rd_T70 l0 x9_1).f1)) ∧ w'.cell? ⟨(ad417.add ((x9_1).toNat * 5)).block, (ad417.add ((x9_1).toNat * 5)).off + 2, none⟩ = some (.int .i64 ((rd_T70 l0 x9_1).f2)) ∧ w'.cell? ⟨(ad417.add ((x9_1).toNat * 5)).block, (ad417.add ((x9_1).toNat * 5)).off + 3, none⟩ = some (.int .i64 ((rd_T70 l0 x9_1).f3)) ∧ w'.cell? ⟨(ad417.add ((x9_1).toNat * 5)).block, (ad417.add ((x9_1).toNat * 5)).off + 4, none⟩ = some (.int .i64 ((rd_T70 l0 x9_1).f4))) (ds := []) #[false, false, false, false, false, false, false, false, false, false, false, false, false, false, false, false] (by kernel_rfl) rfl rfl ⟨(blk_cell BK414.out 0).trans rfl, (blk_cell BK414.out 1).trans rfl, (blk_cell BK414.out 2).trans rfl, (blk_cell BK414.out 3).trans rfl, (blk_cell BK414.out 4).trans rfl, ((HB.out.cell (World.block_lt_of_cell? w _ hw417_0)).trans hw417_0), ((HB.out.cell (World.block_lt_of_cell? w _ hw417_1)).trans hw417_1), ((HB.out.cell (World.block_lt_of_cell? w _ hw417_2)).trans hw417_2), ((HB.out.cell (World.block_lt_of_cell? w _ hw417_3)).trans hw417_3), ((HB.out.cell (World.block_lt_of_cell? w _ hw417_4)).trans hw417_4)⟩ (fun hHeld => ?_); refine with_tabW impl_Session_57.tab8 impl_Session_57.bits8 (fun HT_ HW_ => ?_)
              generalize wr.drew = w19 at BK414 HB hx417_0 hx417_1 hx417_2 hx417_3 hx417_4 hHeld ⊢
              refine pure_ (i := 0) (N := some 35) (v := ?_) (a' := ?_) #[true, false, false, false, false, false, false, false, false, false, false, false, false, false, false, false] rfl rfl (any_of HT_.out (by kernel_rfl)) (fun _ _ _ h => h) (Or.inl ⟨by rfl, ?_⟩) ?_ ?_
              rotate_left
              · intro w'
                go_simp
                with_reducible rfl
              rotate_left
              · simp only [Act.put, List.setIfInBounds_toArray, List.set_cons_zero, List.set_cons_succ, i64_w, i32_w]
                rfl
              refine pure_ (i := 1) (N := some 36) (v := ?_) (a' := ?_) #[true, true, false, false, false, false, false, false, false, false, false, false, false, false, false, false] rfl rfl (any_of HT_.out (by kernel_rfl)) (fun _ _ _ h => h) (Or.inl ⟨by rfl, ?_⟩) ?_ ?_
              rotate_left
              · intro w'
                go_simp
                with_reducible rfl
              rotate_left
              · simp only [Act.put, List.setIfInBounds_toArray, List.set_cons_zero, List.set_cons_succ, i64_w, i32_w]
                rfl
              refine pure_ (i := 2) (N := some 37) (v := ?_) (a' := ?_) #[true, true, true, false, false, false, false, false, false, false, false, false, false, false, false, false] rfl rfl (any_of HT_.out (by kernel_rfl)) (fun _ _ _ h => h) (Or.inl ⟨by rfl, ?_⟩) ?_ ?_
              rotate_left
              · intro w'
                go_simp
                with_reducible rfl
              rotate_left
              · simp only [Act.put, List.setIfInBounds_toArray, List.set_cons_zero, List.set_cons_succ, i64_w, i32_w]
                rfl
              refine pure_ (i := 3) (N := some 38) (v := ?_) (a' := ?_) #[true, true, true, true, false, false, false, false, false, false, false, false, false, false, false, false] rfl rfl (any_of HT_.out (by kernel_rfl)) (fun _ _ _ h => h) (Or.inl ⟨by rfl, ?_⟩) ?_ ?_
              rotate_left
              · intro w'
                go_simp
                with_reducible rfl
              rotate_left
              · simp only [Act.put, List.setIfInBounds_toArray, List.set_cons_zero, List.set_cons_succ, i64_w, i32_w]
                rfl
              refine pure_ (i := 4) (N := some 39) (v := ?_) (a' := ?_) #[true, true, true, true, true, false, false, false, false, false, false, false, false, false, false, false] rfl rfl (any_of HT_.out (by kernel_rfl)) (fun _ _ _ h => h) (Or.inl ⟨by rfl, ?_⟩) ?_ ?_
              rotate_left
              · intro w'
                go_simp
                with_reducible rfl
              rotate_left
              · simp only [Act.put, List.setIfInBounds_toArray, List.set_cons_zero, List.set_cons_succ, i64_w, i32_w]
                rfl
              refine pure_ (i := 5) (N := some 40) (v := ?_) (a' := ?_) #[true, true, true, true, true, true, false, false, false, false, false, false, false, false, false, false] rfl rfl (any_of HT_.out (by kernel_rfl)) (fun _ _ _ h => h) (Or.inl ⟨by rfl, ?_⟩) ?_ ?_
              rotate_left
              · intro w'
                go_simp
                with_reducible rfl
              rotate_left
              · simp only [Act.put, List.setIfInBounds_toArray, List.set_cons_zero, List.set_cons_succ, i64_w, i32_w]
                rfl
              refine pure_ (i := 6) (N := some 41) (v := ?_) (a' := ?_) #[true, true, true, true, true, true, true, false, false, false, false, false, false, false, false, false] rfl rfl (any_of HT_.out (by kernel_rfl)) (fun _ _ _ h => h) (Or.inl ⟨by rfl, ?_⟩) ?_ ?_
              rotate_left
              · intro w'
                go_simp
                with_reducible rfl
              rotate_left
              · simp only [Act.put, List.setIfInBounds_toArray, List.set_cons_zero, List.set_cons_succ, i64_w, i32_w]
                rfl
              refine pure_ (i := 7) (N := some 42) (v := ?_) (a' := ?_) #[true, true, true, true, true, true, true, true, false, false, false, false, false, false, false, false] rfl rfl (any_of HT_.out (by kernel_rfl)) (fun _ _ _ h => h) (Or.inl ⟨by rfl, ?_⟩) ?_ ?_
              rotate_left
              · intro w'
                go_simp
                with_reducible rfl
              rotate_left
              · simp only [Act.put, List.setIfInBounds_toArray, List.set_cons_zero, List.set_cons_succ, i64_w, i32_w]
                rfl
              refine pure_ (i := 8) (N := some 43) (v := ?_) (a' := ?_) #[true, true, true, true, true, true, true, true, true, false, false, false, false, false, false, false] rfl rfl (any_of HT_.out (by kernel_rfl)) (fun _ _ _ h => h) (Or.inl ⟨by rfl, ?_⟩) ?_ ?_
              rotate_left
              · intro w'
                go_simp
                with_reducible rfl
              rotate_left
              · simp only [Act.put, List.setIfInBounds_toArray, List.set_cons_zero, List.set_cons_succ, i64_w, i32_w]
                rfl
              refine take_ (i := 9) (N := some 44) (v := ?_) (a' := ?_) #[true, true, true, true, true, true, true, true, true, true, false, false, false, false, false, false] rfl rfl (take_ofW HT_.out HW_.out (by kernel_rfl)) (fun _ _ _ h => h) (Or.inl ⟨by rfl, ?_⟩) hHeld ?_ ?_
              rotate_left
              · rintro w' ⟨s0, s1, s2, s3, s4, s5, s6, s7, s8, s9⟩
                go_simp
                with_reducible rfl
              rotate_left
              · simp only [Act.put, List.setIfInBounds_toArray, List.set_cons_zero, List.set_cons_succ, i64_w, i32_w]
                rfl
              refine take_ (i := 10) (N := some 45) (v := ?_) (a' := ?_) #[true, true, true, true, true, true, true, true, true, true, true, false, false, false, false, false] rfl rfl (take_ofW HT_.out HW_.out (by kernel_rfl)) (fun _ _ _ h => h) (Or.inl ⟨by rfl, ?_⟩) hHeld ?_ ?_
              rotate_left
              · rintro w' ⟨s0, s1, s2, s3, s4, s5, s6, s7, s8, s9⟩
                go_simp
                with_reducible rfl
              rotate_left
              · simp only [Act.put, List.setIfInBounds_toArray, List.set_cons_zero, List.set_cons_succ, i64_w, i32_w]
                rfl
              refine one_ (i := 11) (N := some 46) #[true, true, true, true, true, true, true, true, true, true, true, true, false, false, false, false] rfl rfl (one_of HT_.out (by kernel_rfl)) (by decide) (fun K hK => ?_)
              refine goesV_ Try.func49 (by kernel_rfl) rfl #[.agg #[.int .i64 ((rd_T70 l0 x9_1).f0), .int .i64 ((rd_T70 l0 x9_1).f1), .int .i64 ((rd_T70 l0 x9_1).f2), .int .i64 ((rd_T70 l0 x9_1).f3), .int .i64 ((rd_T70 l0 x9_1).f4)], .agg #[.int .i64 a1_0, .int .i64 a1_1, .int .i64 a1_2, .int .i64 a1_3, .int .i64 a1_4]] (by rfl) rfl rfl (by rfl) (by (try simp only [List.map_toArray, List.map_cons, List.map_nil]); first | done | rfl | (simp only [List.length_drop, List.length_take]; rfl)) ?_
              with_reducible refine (impl_sessionOrder.calls k1 ((rd_T70 l0 x9_1).f0) ((rd_T70 l0 x9_1).f1) ((rd_T70 l0 x9_1).f2) ((rd_T70 l0 x9_1).f3) ((rd_T70 l0 x9_1).f4) a1_0 a1_1 a1_2 a1_3 a1_4 t418 _ A18.out).mono ?_
              rintro e w20 ⟨rfl, hb⟩
              refine ⟨_, rfl, ?_⟩
              have n0_ := Aside0.mk (blk_below (g := gb414) (o := .cells #[.int .i64 a1_0, .int .i64 a1_1, .int .i64 a1_2, .int .i64 a1_3, .int .i64 a1_4] 70 (0, 0)) (blkq BK414.out) hb)
              have n1_ := Aside0.mk (below_step bel hb)
              clear BK414 HB
              have BK414 := n0_
              have HB := n1_
              clear n0_ n1_
              (try clear hb)
              (try clear hb2)
              (try clear hk)
              (try clear hi)
              refine hK.out _ _ ⟨(blk_cell BK414.out 0).trans rfl, (blk_cell BK414.out 1).trans rfl, (blk_cell BK414.out 2).trans rfl, (blk_cell BK414.out 3).trans rfl, (blk_cell BK414.out 4).trans rfl, ((HB.out.cell (World.block_lt_of_cell? w _ hw417_0)).trans hw417_0), ((HB.out.cell (World.block_lt_of_cell? w _ hw417_1)).trans hw417_1), ((HB.out.cell (World.block_lt_of_cell? w _ hw417_2)).trans hw417_2), ((HB.out.cell (World.block_lt_of_cell? w _ hw417_3)).trans hw417_3), ((HB.out.cell (World.block_lt_of_cell? w _ hw417_4)).trans hw417_4)⟩ (fun hHeld => ?_)
              clear hK K
              refine norm_ (a' := ?_) ?_ ?_
              rotate_left
              · show Act.put _ (some 46) _ = _
                simp only [Act.put, List.setIfInBounds_toArray, List.set_cons_zero, List.set_cons_succ, i64_w, i32_w]
                rfl
              refine pure_ (i := 12) (N := some 47) (v := ?_) (a' := ?_) #[true, true, true, true, true, true, true, true, true, true, true, true, true, false, false, false] rfl rfl (any_of HT_.out (by kernel_rfl)) (fun _ _ _ h => h) (Or.inl ⟨by rfl, ?_⟩) ?_ ?_
              rotate_left
              · intro w'
                go_simp
                with_reducible rfl
              rotate_left
              · simp only [Act.put, List.setIfInBounds_toArray, List.set_cons_zero, List.set_cons_succ, i64_w, i32_w]
                rfl
              refine pure_ (i := 13) (N := some 48) (v := ?_) (a' := ?_) #[true, true, true, true, true, true, true, true, true, true, true, true, true, true, false, false] rfl rfl (any_of HT_.out (by kernel_rfl)) (fun _ _ _ h => h) (Or.inl ⟨by rfl, ?_⟩) ?_ ?_
              rotate_left
              · intro w'
                go_simp
                with_reducible rfl
              rotate_left
              · simp only [Act.put, List.setIfInBounds_toArray, List.set_cons_zero, List.set_cons_succ, i64_w, i32_w]
                rfl
              refine pure_ (i := 14) (N := some 6) (v := ?_) (a' := ?_) #[true, true, true, true, true, true, true, true, true, true, true, true, true, true, true, false] rfl rfl (any_of HT_.out (by kernel_rfl)) (fun _ _ _ h => h) (Or.inl ⟨by rfl, ?_⟩) ?_ ?_
              rotate_left
              · intro w'
                go_simp
                with_reducible rfl
              rotate_left
              · simp only [Act.put, List.setIfInBounds_toArray, List.set_cons_zero, List.set_cons_succ, i64_w, i32_w]
                rfl
              refine pure_ (i := 15) (N := some 7) (v := ?_) (a' := ?_) #[true, true, true, true, true, true, true, true, true, true, true, true, true, true, true, true] rfl rfl (any_of HT_.out (by kernel_rfl)) (fun _ _ _ h => h) (Or.inl ⟨by rfl, ?_⟩) ?_ ?_
              rotate_left
              · intro w'
                go_simp
                with_reducible rfl
              rotate_left
              · simp only [Act.put, List.setIfInBounds_toArray, List.set_cons_zero, List.set_cons_succ, i64_w, i32_w]
                rfl
              refine done_ (done_of HT_.out (by kernel_rfl)) ?_
              try go_wp2
              go_ret2
              exact ⟨by first | rfl | (simp [errW_none, errW_some] <;> rfl) | (simp [*, errW_none, errW_some] <;> rfl), by repeat (first | (with_reducible first | exact HB.out | apply below_alloc | apply pw_below_drewN | apply below_drew1 | refine below_set ?_ GE414.out) | exact HB.out)⟩
            · rw [if_neg c17] at H
              exact absurd H (by simp)
          · rw [if_neg c16] at H
            exact absurd H (by simp)
        · rw [if_neg c15] at H
          have c15b0 : decide (x9_1 < (l0.length : Int)) = false := decide_eq_false c15
          clear c15
          simp only [Option.some.injEq, Prod.mk.injEq] at H
          obtain ⟨rfl, rfl⟩ := H
          try go_wp2
          have n0_ := Aside0.mk (blk_drew BK414.out)
          have n1_ := Aside0.mk (below_drew1 HB.out)
          clear BK414 HB
          have BK414 := n0_
          have HB := n1_
          clear n0_ n1_
          refine start_ (n := 16) (S := fun w' => True) (ds := []) #[false, false, false, false, false, false, false, false, false, false, false, false, false, false, false, false] (by kernel_rfl) rfl rfl trivial (fun hHeld => ?_); refine with_tabW impl_Session_57.tab8 impl_Session_57.bits8 (fun HT_ HW_ => ?_)
          generalize wr.drew = w21 at BK414 HB hHeld ⊢
          refine pure_ (i := 0) (N := some 35) (v := ?_) (a' := ?_) #[true, false, false, false, false, false, false, false, false, false, false, false, false, false, false, false] rfl rfl (any_of HT_.out (by kernel_rfl)) (fun _ _ _ h => h) (Or.inl ⟨by rfl, ?_⟩) ?_ ?_
          rotate_left
          · intro w'
            go_simp
            with_reducible rfl
          rotate_left
          · simp only [Act.put, List.setIfInBounds_toArray, List.set_cons_zero, List.set_cons_succ, i64_w, i32_w]
            rfl
          refine pure_ (i := 1) (N := some 36) (v := ?_) (a' := ?_) #[true, true, false, false, false, false, false, false, false, false, false, false, false, false, false, false] rfl rfl (any_of HT_.out (by kernel_rfl)) (fun _ _ _ h => h) (Or.inl ⟨by rfl, ?_⟩) ?_ ?_
          rotate_left
          · intro w'
            go_simp
            with_reducible rfl
          rotate_left
          · simp only [Act.put, List.setIfInBounds_toArray, List.set_cons_zero, List.set_cons_succ, i64_w, i32_w]
            rfl
          refine pure_ (i := 2) (N := some 37) (v := ?_) (a' := ?_) #[true, true, true, false, false, false, false, false, false, false, false, false, false, false, false, false] rfl rfl (any_of HT_.out (by kernel_rfl)) (fun _ _ _ h => h) (Or.inl ⟨by rfl, ?_⟩) ?_ ?_
          rotate_left
          · intro w'
            go_simp
            with_reducible rfl
          rotate_left
          · simp only [Act.put, List.setIfInBounds_toArray, List.set_cons_zero, List.set_cons_succ, i64_w, i32_w]
            rfl
          refine pure_ (i := 3) (N := some 38) (v := ?_) (a' := ?_) #[true, true, true, true, false, false, false, false, false, false, false, false, false, false, false, false] rfl rfl (any_of HT_.out (by kernel_rfl)) (fun _ _ _ h => h) (Or.inl ⟨by rfl, ?_⟩) ?_ ?_
          rotate_left
          · intro w'
            go_simp
            with_reducible rfl
          rotate_left
          · simp only [Act.put, List.setIfInBounds_toArray, List.set_cons_zero, List.set_cons_succ, i64_w, i32_w]
            rfl
          refine pure_ (i := 4) (N := some 39) (v := ?_) (a' := ?_) #[true, true, true, true, true, false, false, false, false, false, false, false, false, false, false, false] rfl rfl (any_of HT_.out (by kernel_rfl)) (fun _ _ _ h => h) (Or.inl ⟨by rfl, ?_⟩) ?_ ?_
          rotate_left
          · intro w'
            go_simp
            with_reducible rfl
          rotate_left
          · simp only [Act.put, List.setIfInBounds_toArray, List.set_cons_zero, List.set_cons_succ, i64_w, i32_w]
            rfl
          refine pure_ (i := 5) (N := some 40) (v := undef) (a' := ?_) #[true, true, true, true, true, true, false, false, false, false, false, false, false, false, false, false] rfl rfl (any_of HT_.out (by kernel_rfl)) (fun _ _ _ h => h) (Or.inr ⟨by rfl, rfl⟩) ?_ ?_
          rotate_left
          · simp only [Act.put, List.setIfInBounds_toArray, List.set_cons_zero, List.set_cons_succ, i64_w, i32_w]
            rfl
          refine pure_ (i := 6) (N := some 41) (v := undef) (a' := ?_) #[true, true, true, true, true, true, true, false, false, false, false, false, false, false, false, false] rfl rfl (any_of HT_.out (by kernel_rfl)) (fun _ _ _ h => h) (Or.inr ⟨by rfl, rfl⟩) ?_ ?_
          rotate_left
          · simp only [Act.put, List.setIfInBounds_toArray, List.set_cons_zero, List.set_cons_succ, i64_w, i32_w]
            rfl
          refine pure_ (i := 7) (N := some 42) (v := undef) (a' := ?_) #[true, true, true, true, true, true, true, true, false, false, false, false, false, false, false, false] rfl rfl (any_of HT_.out (by kernel_rfl)) (fun _ _ _ h => h) (Or.inr ⟨by rfl, rfl⟩) ?_ ?_
          rotate_left
          · simp only [Act.put, List.setIfInBounds_toArray, List.set_cons_zero, List.set_cons_succ, i64_w, i32_w]
            rfl
          refine pure_ (i := 8) (N := some 43) (v := undef) (a' := ?_) #[true, true, true, true, true, true, true, true, true, false, false, false, false, false, false, false] rfl rfl (any_of HT_.out (by kernel_rfl)) (fun _ _ _ h => h) (Or.inr ⟨by rfl, rfl⟩) ?_ ?_
          rotate_left
          · simp only [Act.put, List.setIfInBounds_toArray, List.set_cons_zero, List.set_cons_succ, i64_w, i32_w]
            rfl
          refine pure_ (i := 9) (N := some 44) (v := undef) (a' := ?_) #[true, true, true, true, true, true, true, true, true, true, false, false, false, false, false, false] rfl rfl (any_of HT_.out (by kernel_rfl)) (fun _ _ _ h => h) (Or.inr ⟨by rfl, rfl⟩) ?_ ?_
          rotate_left
          · simp only [Act.put, List.setIfInBounds_toArray, List.set_cons_zero, List.set_cons_succ, i64_w, i32_w]
            rfl
          refine pure_ (i := 10) (N := some 45) (v := undef) (a' := ?_) #[true, true, true, true, true, true, true, true, true, true, true, false, false, false, false, false] rfl rfl (any_of HT_.out (by kernel_rfl)) (fun _ _ _ h => h) (Or.inr ⟨by rfl, rfl⟩) ?_ ?_
          rotate_left
          · simp only [Act.put, List.setIfInBounds_toArray, List.set_cons_zero, List.set_cons_succ, i64_w, i32_w]
            rfl
          refine pure_ (i := 11) (N := some 46) (v := undef) (a' := ?_) #[true, true, true, true, true, true, true, true, true, true, true, true, false, false, false, false] rfl rfl (any_of HT_.out (by kernel_rfl)) (fun _ _ _ h => h) (Or.inr ⟨by rfl, rfl⟩) ?_ ?_
          rotate_left
          · simp only [Act.put, List.setIfInBounds_toArray, List.set_cons_zero, List.set_cons_succ, i64_w, i32_w]
            rfl
          refine pure_ (i := 12) (N := some 47) (v := undef) (a' := ?_) #[true, true, true, true, true, true, true, true, true, true, true, true, true, false, false, false] rfl rfl (any_of HT_.out (by kernel_rfl)) (fun _ _ _ h => h) (Or.inr ⟨by rfl, rfl⟩) ?_ ?_
          rotate_left
          · simp only [Act.put, List.setIfInBounds_toArray, List.set_cons_zero, List.set_cons_succ, i64_w, i32_w]
            rfl
          refine pure_ (i := 13) (N := some 48) (v := ?_) (a' := ?_) #[true, true, true, true, true, true, true, true, true, true, true, true, true, true, false, false] rfl rfl (any_of HT_.out (by kernel_rfl)) (fun _ _ _ h => h) (Or.inl ⟨by rfl, ?_⟩) ?_ ?_
          rotate_left
          · intro w'
            go_simp
            with_reducible rfl
          rotate_left
          · simp only [Act.put, List.setIfInBounds_toArray, List.set_cons_zero, List.set_cons_succ, i64_w, i32_w]
            rfl
          refine pure_ (i := 14) (N := some 6) (v := ?_) (a' := ?_) #[true, true, true, true, true, true, true, true, true, true, true, true, true, true, true, false] rfl rfl (any_of HT_.out (by kernel_rfl)) (fun _ _ _ h => h) (Or.inl ⟨by rfl, ?_⟩) ?_ ?_
          rotate_left
          · intro w'
            go_simp
            with_reducible rfl
          rotate_left
          · simp only [Act.put, List.setIfInBounds_toArray, List.set_cons_zero, List.set_cons_succ, i64_w, i32_w]
            rfl
          refine pure_ (i := 15) (N := some 7) (v := ?_) (a' := ?_) #[true, true, true, true, true, true, true, true, true, true, true, true, true, true, true, true] rfl rfl (any_of HT_.out (by kernel_rfl)) (fun _ _ _ h => h) (Or.inl ⟨by rfl, ?_⟩) ?_ ?_
          rotate_left
          · intro w'
            go_simp
            with_reducible rfl
          rotate_left
          · simp only [Act.put, List.setIfInBounds_toArray, List.set_cons_zero, List.set_cons_succ, i64_w, i32_w]
            rfl
          refine done_ (done_of HT_.out (by kernel_rfl)) ?_
          try go_wp2
          go_ret2
          exact ⟨by first | rfl | (simp [errW_none, errW_some] <;> rfl) | (simp [*, errW_none, errW_some] <;> rfl), by repeat (first | (with_reducible first | exact HB.out | apply below_alloc | apply pw_below_drewN | apply below_drew1 | refine below_set ?_ GE414.out) | exact HB.out)⟩
end Go.Proofs.Ytdjfnclheohhiaa.K
namespace Go.Proofs.Ytdjfnclheohhiaa.K
open Go.RowKit Go.Proofs.YtdjfnclheohhiaaW.PrintWords Go.Proofs.YtdjfnclheohhiaaW.PrintLast Go.Proofs.YtdjfnclheohhiaaW.PrintMore Go.Proofs.YtdjfnclheohhiaaV
attribute [local go_sem] isSome_setCell max2_int min2_int max_two min_two max_three min_three max_four min_four   
set_option linter.unusedVariables false
set_option linter.unusedSimpArgs false
set_option maxHeartbeats 4000000 in
set_option maxRecDepth 100000 in
theorem impl_Session_58.room (g n cap i c2 : Nat) (inner spare xs : List Value) (vb : Nat) (w : World) (hg : Aside0 (w.heap[g]? = some (.cells (inner ++ spare).toArray 70 (0, 0))))
    (hl : Aside0 (inner.length = n * 5)) (hcur : Aside0 ((inner ++ spare).length = cap * 5)) (hi : i < n) (hcap : n + 1 ≤ cap) (hm : cap ≤ 9223372036854775807) (hc2 : 1 ≤ c2)
    (hx : Aside0 (xs.length = 5)) (h1 : Aside0 (∀ v ∈ inner ++ xs, v.oneCell' = true)) (hne : vb ≠ g) (cells : Array Value) (hvc : Aside0 (w.heap[vb]? = some (.cells cells 70 (0, 0))))
    (hv : Aside0 (∀ j v, xs[j]? = some v → w.cell? ⟨vb, j, none⟩ = some v)) :
    Calls Try.prog 58 #[.slice (some ⟨g, 0, none⟩) n cap, .int .i64 i, .slice (some ⟨vb, 0, none⟩) 1 c2] w fun e w' => e = .returned (.slice (some ⟨g, 0, none⟩) (n + 1) cap) ∧
      w' = w.drew.setRow g (inner.take (i * 5) ++ (xs ++ inner.drop (i * 5)) ++ spare.drop 5).toArray := by
  have e1 : ((1 : Int) == 0) = false := rfl
  have e2 : ((i : Int) == (n : Int)) = false := by simp; omega
  have e3 : decide ((cap : Int) < (n : Int) + 1) = false := by simp; omega
  have e4 : (i : Int) < n := by omega
  have e5 : ((n : Int) + 1).toNat = n + 1 := by omega
  have e6 : ((i : Int) + 1).toNat = i + 1 := by omega
  have hw1 : IntKind.i64.wrap ((i : Int) + 1) = (i : Int) + 1 := by rw [IntKind.wrap_i64]; omega
  have hb1 : (0 : Int) ≤ (i : Int) + 1 := by omega
  have hb2 : ¬ (cap = i + 1) := by omega
  have hb3 : (i : Int) ≤ (n : Int) + 1 := by omega
  have hb5 : i + 1 ≤ n + 1 := by omega
  have hb4 : ¬ (cap = i) := by omega
  have hb6 : i ≤ n := by omega
  have hb7 : i ≤ n + 1 := by omega
  have hsp : 5 ≤ spare.length := by have a := hl.out; have b := hcur.out; rw [List.length_append] at b; omega
  have hsz : (Try.prog.info? 70).map (·.size) = some 5 := by kernel_rfl
  have hov : ∀ lb cb, (callFunc 89 #[.slice (some ⟨vb, 0, none⟩) 1 c2, .slice (some ⟨g, (i + 1) * 5, none⟩) lb cb]).run Try.prog w = .ok (.value (.bool false)) w := fun lb cb => by
    have hsa : w.shape? vb = some (70, cells.size) := by simp [World.shape?, hvc.out]
    have hsb : w.shape? g = some (70, (inner ++ spare).length) := by simp [World.shape?, hg.out]
    rw [run_callFunc_extern Try.func89 (by kernel_rfl) (by kernel_rfl) (by kernel_rfl) (e := Extern.SlicesOverlaps.overlaps #[24, 24] #[4]) (by kernel_rfl),
      Lib.run_overlaps_apart w 24 4 70 Try.underlying24 5 Try.sizeOf70 ⟨vb, 0, none⟩ ⟨g, (i + 1) * 5, none⟩ 1 c2 lb cb hne 70 70 cells.size _ hsa hsb (by rw [hcur.out]; omega) (by simp [World.frozen?, hvc.out]) (by simp [World.frozen?, hvc.out])]
    rfl
  have hcp1 := fun ty dc sc => ins_copy1 (P := Try.prog) w 24 70 ty g n i 5 dc sc inner spare Try.underlying24 hsz hg.out hl.out hsp hi (fun v hv' => h1.out v (List.mem_append_left _ hv'))
  have hcp2 := fun ty dc => ins_copy2 (P := Try.prog) w 24 70 ty g n i 5 dc c2 vb inner spare xs Try.underlying24 hsz hg.out hl.out hsp hi hx.out (fun v hv' => h1.out v (List.mem_append_right _ hv')) hne hv.out
  obtain ⟨W1, hW1⟩ : ∃ W1, W1 = w.drew.setRow g (inner.take (i * 5) ++ (inner.drop (i * 5)).take 5 ++ inner.drop (i * 5) ++ spare.drop 5).toArray := ⟨_, rfl⟩
  obtain ⟨W2, hW2⟩ : ∃ W2, W2 = w.drew.setRow g (inner.take (i * 5) ++ (xs ++ inner.drop (i * 5)) ++ spare.drop 5).toArray := ⟨_, rfl⟩
  rw [← hW1] at hcp1 hcp2
  rw [← hW2] at hcp2 ⊢
  clear hW1 hW2 hsp hsz
  go_enter Try.func58, Try.ntmps58
  go_wp2_with (simp only [hov])
  go_region_law (refine step_copyB rfl _ _ 24 24 rfl _ _ (by simp [Act.eval, Act.put]) (by simp [Act.eval, Act.put]) (hcp1 _ _ _) ?_)
  go_wp2_with (at_builtin; refine wpList_runB _ rfl _ _ 24 24 rfl _ _ rfl rfl (hcp2 _ _) ?_)
  go_ret
  exact ⟨rfl, rfl⟩
set_option maxHeartbeats 4000000 in
set_option maxRecDepth 100000 in
theorem impl_Session_58.grow (g n cap i c2 : Nat) (inner spare xs : List Value) (vb : Nat) (w : World) (hg : Aside0 (w.heap[g]? = some (.cells (inner ++ spare).toArray 70 (0, 0))))
    (hl : Aside0 (inner.length = n * 5)) (hi : i < n) (hnc : n ≤ cap) (hcap : cap < n + 1) (hbig : n < 3518437208883) (hc2 : 1 ≤ c2)
    (hx : Aside0 (xs.length = 5)) (h1 : Aside0 (∀ v ∈ inner ++ xs, v.oneCell' = true)) (hvb : vb < w.heap.size)
    (hv : Aside0 (∀ j v, xs[j]? = some v → w.cell? ⟨vb, j, none⟩ = some v)) :
    Calls Try.prog 58 #[.slice (some ⟨g, 0, none⟩) n cap, .int .i64 i, .slice (some ⟨vb, 0, none⟩) 1 c2] w fun e w' => ∃ G spare', e = .returned (.slice (some ⟨w.heap.size, 0, none⟩) (n + 1) G) ∧ n + 1 ≤ G ∧ G ≤ 9223372036854775807 ∧
      w'.heap[w.heap.size]? = some (.cells (inner.take (i * 5) ++ (xs ++ inner.drop (i * 5)) ++ spare').toArray 70 (0, 0)) ∧ (inner.take (i * 5) ++ (xs ++ inner.drop (i * 5)) ++ spare').length = G * 5 ∧ Below w.heap.size w w' := by
  obtain ⟨i0, hi0, hz0, hzs, hzb⟩ : ∃ i, Try.prog.info? 70 = some i ∧ i.zero = some (.agg #[.int .i64 0, .int .i64 0, .int .i64 0, .int .i64 0, .int .i64 0]) ∧ i.size = 5 ∧ i.bytes = 40 := by
    have h := info70
    cases hq : Try.prog.info? 70 with
    | none => rw [hq] at h; simp at h
    | some i => rw [hq] at h; simp at h; exact ⟨i, rfl, h.1, h.2.1, h.2.2⟩
  have hgw : g < w.heap.size := blk_lt hg.out
  have hold : (Builtin.firstCells i0.size i (.slice (some ⟨g, 0, none⟩) i cap)).run Try.prog w.drew = .ok (inner.take (i * 5)).toArray w.drew := by
    rw [hzs]
    refine run_firstCells_some w.drew 5 i ⟨g, 0, none⟩ i cap (inner.take (i * 5)) (by rw [List.length_take, hl.out]; omega) (fun j v hj => ?_)
    rw [add_plain]
    have hlt := (List.getElem?_eq_some_iff.1 hj).1
    rw [List.length_take] at hlt
    rw [List.getElem?_take_of_lt (by omega)] at hj
    simp only [World.cell?]
    rw [show w.drew.heap[g]? = some (.cells (inner ++ spare).toArray 70 (0, 0)) from hg.out]
    simp [List.getElem?_append_left (List.getElem?_eq_some_iff.1 hj).1, hj]
  obtain ⟨G, hG⟩ : ∃ G, G = grownCap w (n + 1) cap 70 := ⟨_, rfl⟩
  have hGn : n + 1 ≤ G := by rw [hG]; exact grownCap_ge w _ _ _
  have hG63 : G ≤ 9223372036854775807 := by
    have := grownCap_le_maxLen w (n + 1) cap 70 (by unfold maxLen; omega)
    rw [← hG] at this
    unfold maxLen at this
    omega
  obtain ⟨ROW, hROW⟩ : ∃ ROW : Array Value, ROW = (inner.take (i * 5)).toArray ++ Builtin.zeroCells (Value.agg #[.int .i64 0, .int .i64 0, .int .i64 0, .int .i64 0, .int .i64 0]).cells (n + 1 - i) ++ Builtin.zeroCells (Value.agg #[.int .i64 0, .int .i64 0, .int .i64 0, .int .i64 0, .int .i64 0]).cells (G - (n + 1)) := ⟨_, rfl⟩
  have hRl : ROW.size = G * 5 := by
    rw [hROW, Array.size_append, Array.size_append, size_zeroCells, size_zeroCells, List.size_toArray, List.length_take, hl.out]
    simp only [Value.cells, List.size_toArray, List.length_cons, List.length_nil]
    omega
  have hrz : ∀ ty, (Builtin.append_ #[24, 3] ty #[.slice (some ⟨g, 0, none⟩) i cap, .int .i64 ((n : Int) + 1 - (i : Int))]).run Try.prog w =
      .ok (.slice (some ⟨w.heap.size, 0, none⟩) (n + 1) G) (w.drew.alloc (.cells ROW 70)) := fun ty => by
    have h := Lib.run_append_grow_zeros w 24 3 ty 70 i0 _ .i64 .i64 Try.underlying24 Try.underlying3 hi0 hz0 (some ⟨g, 0, none⟩) i cap (inner.take (i * 5)) hold (n + 1 - i) (by omega) (by omega) (by omega) (by omega) (by rw [hzb]; omega) (by rw [hzb, show i + (n + 1 - i) = n + 1 by omega]; exact growslice_fits hcap (by omega))
    rw [show i + (n + 1 - i) = n + 1 by omega, ← hG, ← hROW] at h
    rw [show (n : Int) + 1 - (i : Int) = ((n + 1 - i : Nat) : Int) by omega]
    exact h
  obtain ⟨W1, hW1⟩ : ∃ W1, W1 = w.drew.alloc (.cells ROW 70) := ⟨_, rfl⟩
  obtain ⟨R2, hR2⟩ : ∃ R2 : List Value, R2 = ROW.toList.take (i * 5) ++ xs ++ ROW.toList.drop (i * 5 + 5) := ⟨_, rfl⟩
  obtain ⟨R3, hR3⟩ : ∃ R3 : List Value, R3 = R2.take ((i + 1) * 5) ++ inner.drop (i * 5) ++ R2.drop ((i + 1) * 5 + (n - i) * 5) := ⟨_, rfl⟩
  rw [← hW1] at hrz
  have hW1N : W1.heap[w.heap.size]? = some (.cells ROW 70 (0, 0)) := by rw [hW1]; exact blk_new w.drew _
  have hW1o : ∀ k, k < w.heap.size → W1.heap[k]? = w.heap[k]? := fun k hk => by rw [hW1]; exact (below_alloc (Below.refl w.drew.heap.size w.drew) _).block k hk
  have hB1 : Below w.heap.size w W1 := by rw [hW1]; exact below_alloc (below_drew (Below.refl _ _)) _
  have hRL : ROW.toList.length = G * 5 := by simpa using hRl
  have hR2l : R2.length = G * 5 := by rw [hR2]; simp only [List.length_append, List.length_take, List.length_drop, hRL, hx.out]; omega
  have hdl : (inner.drop (i * 5)).length = (n - i) * 5 := by rw [List.length_drop, hl.out, Nat.sub_mul]
  have hcpA : ∀ ty dc, (Builtin.copy_ #[24, 24] ty #[.slice (some ⟨w.heap.size, i * 5, none⟩) (n + 1 - i) dc, .slice (some ⟨vb, 0, none⟩) 1 c2]).run Try.prog W1 = .ok (goInt 1) (W1.setRow w.heap.size R2.toArray) := fun ty dc => by
    have hm : Nat.min 1 (n + 1 - i) = 1 := Nat.min_eq_left (by omega)
    have h := run_copyK (P := Try.prog) W1 24 24 ty 70 w.heap.size (i * 5) (n + 1 - i) dc ⟨vb, 0, none⟩ 1 c2 ROW 70 xs 5 Try.underlying24 (by rw [hi0]; simp [hzs]) hW1N (by rw [hm, hx.out]) (fun j v hj => by
      rw [add_plain]; simp only [World.cell?]; rw [hW1o vb hvb]; exact hv.out j v hj) (by rw [hx.out, hRl]; omega) (fun v hv' => h1.out v (List.mem_append_right _ hv'))
    rw [hm, hx.out, ← hR2] at h
    exact h
  obtain ⟨W2, hW2⟩ : ∃ W2, W2 = W1.setRow w.heap.size R2.toArray := ⟨_, rfl⟩
  rw [← hW2] at hcpA
  have hW2N : W2.heap[w.heap.size]? = some (.cells R2.toArray 70 (0, 0)) := by rw [hW2]; exact setRow_heap W1 _ _ _ 70 (0, 0) hW1N
  have hB2 : Below w.heap.size w W2 := by rw [hW2]; exact below_setRowV hB1 (Nat.le_refl _) _
  have hcpB : ∀ ty dc sc, (Builtin.copy_ #[24, 24] ty #[.slice (some ⟨w.heap.size, (i + 1) * 5, none⟩) (n - i) dc, .slice (some ⟨g, i * 5, none⟩) (n - i) sc]).run Try.prog W2.drew = .ok (goInt (n - i : Nat)) (W2.drew.setRow w.heap.size R3.toArray) := fun ty dc sc => by
    have hm : Nat.min (n - i) (n - i) = n - i := Nat.min_self _
    have h := run_copyK (P := Try.prog) W2.drew 24 24 ty 70 w.heap.size ((i + 1) * 5) (n - i) dc ⟨g, i * 5, none⟩ (n - i) sc R2.toArray 70 (inner.drop (i * 5)) 5 Try.underlying24 (by rw [hi0]; simp [hzs]) hW2N (by rw [hm, hdl]) (fun j v hj => by
      rw [show (⟨g, i * 5, none⟩ : Addr).add j = ⟨g, i * 5 + j, none⟩ by unfold Addr.add; split <;> simp_all]
      rw [List.getElem?_drop] at hj
      simp only [World.cell?]
      rw [show W2.drew.heap[g]? = some (.cells (inner ++ spare).toArray 70 (0, 0)) from (hB2.block g hgw).trans hg.out]
      simp [List.getElem?_append_left (List.getElem?_eq_some_iff.1 hj).1, hj]) (by rw [hdl, List.size_toArray, hR2l]; omega) (fun v hv' => h1.out v (List.mem_append_left _ (List.mem_of_mem_drop hv')))
    rw [hm, hdl, ← hR3] at h
    exact h
  obtain ⟨W3, hW3⟩ : ∃ W3, W3 = W2.drew.setRow w.heap.size R3.toArray := ⟨_, rfl⟩
  rw [← hW3] at hcpB
  have hW3N : W3.heap[w.heap.size]? = some (.cells R3.toArray 70 (0, 0)) := by rw [hW3]; exact setRow_heap W2.drew _ _ _ 70 (0, 0) hW2N
  have hB3 : Below w.heap.size w W3 := by rw [hW3]; exact below_setRowV (below_drew hB2) (Nat.le_refl _) _
  have hR3e : R3 = inner.take (i * 5) ++ (xs ++ inner.drop (i * 5)) ++ ROW.toList.drop ((n + 1) * 5) := by
    have hik : (inner.take (i * 5)).length = i * 5 := by rw [List.length_take, hl.out]; omega
    have ht : ROW.toList.take (i * 5) = inner.take (i * 5) := by
      rw [hROW]; simp only [Array.toList_append, List.append_assoc]
      rw [List.take_append_of_le_length (by simp [hl.out]; omega), List.take_of_length_le (by simp [hl.out]; omega)]
    rw [hR3, hR2, ht, ins_list3 _ _ _ _ i 5 ((n - i) * 5) hik hx.out, List.drop_drop, show i * 5 + 5 + (n - i) * 5 = (n + 1) * 5 by omega]
  have HF := Aside0.mk (And.intro hW3N hB3)
  have HE := Aside0.mk hR3e
  have HL : Aside0 (R3.length = G * 5) := ⟨by rw [hR3]; simp only [List.length_append, List.length_take, List.length_drop, hR2l, hl.out]; omega⟩
  clear hR3e hW3N hB3 hW3 hB2 hW2N hW2 hR3 hdl hR2l hRL hB1 hW1o hW1N hR2 hW1 hRl hROW hG hold hgw hi0 hz0 hzs hzb
  have e1 : ((1 : Int) == 0) = false := rfl
  have e2 : ((i : Int) == (n : Int)) = false := by simp; omega
  have e3 : decide ((cap : Int) < (n : Int) + 1) = true := by simp; omega
  have e4 : (i : Int) < n := by omega
  have e5 : ((n : Int) + 1).toNat = n + 1 := by omega
  have e6 : ((i : Int) + 1).toNat = i + 1 := by omega
  have hw1 : IntKind.i64.wrap ((i : Int) + 1) = (i : Int) + 1 := by rw [IntKind.wrap_i64]; omega
  have hb1 : (0 : Int) ≤ (i : Int) + 1 := by omega
  have hb2 : ¬ (cap = i + 1) ∨ True := Or.inr trivial
  have hb4 : ¬ (cap = i) := by omega
  have hb6 : i ≤ n := by omega
  have hb7 : i ≤ n + 1 := by omega
  have hb8 : ¬ (G = i) := by omega
  have hb9 : ¬ (G = i + 1) := by omega
  have hb3 : (i : Int) ≤ (n : Int) + 1 := by omega
  clear hb2
  go_enter Try.func58, Try.ntmps58
  go_wp2_with (first
    | (at_builtin; refine Lib.wpList_append_run _ rfl _ _ _ _ rfl _ _ rfl rfl _ _ (hrz _) ?_)
    | (at_builtin; refine wpList_runB _ rfl _ _ 24 24 rfl _ _ rfl rfl (hcpA _ _) ?_))
  go_region_law (refine step_copyB rfl _ _ 24 24 rfl _ _ (by simp [Act.eval, Act.put]) (by simp [Act.eval, Act.put]) (hcpB _ _ _) ?_)
  go_wp2
  go_ret
  exact ⟨G, ROW.toList.drop ((n + 1) * 5), rfl, hGn, hG63, by rw [← HE.out]; exact HF.out.1, by rw [← HE.out]; exact HL.out, HF.out.2⟩
def impl_Session_58.f (l0 : List (S70)) (a1 : Int) (l2 : List (S70)) : Option (List (S70)) :=
  match l2 with
  | [x] => if 0 ≤ a1 ∧ a1 ≤ (l0.length : Int) ∧ l0.length + 1 < 3518437208883 then some (l0.take a1.toNat ++ x :: l0.drop a1.toNat) else none
  | _ => none
set_option maxHeartbeats 4000000 in
set_option maxRecDepth 100000 in
theorem impl_Session_58.calls (P0_ : Nat → Prop) (u9000_ : Value) (l0 : List (S70)) (a1 : Int) (P2_ : Nat → Prop) (u9001_ : Value) (l2 : List (S70)) (r : List (S70)) (w0 w : World) (hB : Below w0.heap.size w0 w) (ho0 : Kd.R k70 70 w w0.heap.size P0_ u9000_ l0) (hp0_2 : ∀ k_, P0_ k_ → ¬ P2_ k_) (ho2 : Kd.R k70 70 w w0.heap.size P2_ u9001_ l2) (hp2_0 : ∀ k_, P2_ k_ → ¬ P0_ k_) (h : impl_Session_58.f l0 a1 l2 = some r) :
    Calls Try.prog 58 #[u9000_, .int .i64 a1, u9001_] w fun e w' => ∃ v0_ : Value, e = .returned (v0_) ∧ Kd.R k70 70 w' w0.heap.size (fun k_ => ((P0_ k_ ∨ P2_ k_) ∨ w.heap.size ≤ k_)) v0_ r ∧ Below w0.heap.size w0 w' ∧ Kept w w' (fun k_ => P0_ k_ ∨ P2_ k_) := by
  unfold impl_Session_58.f at h
  split at h
  · rename_i x
    split at h
    · rename_i hcnd
      obtain ⟨ha0, ha1, hlim⟩ := hcnd
      obtain ⟨i, rfl⟩ := Int.eq_ofNat_of_zero_le ha0
      have hin : i ≤ l0.length := by omega
      rw [Int.toNat_natCast] at h
      obtain rfl := Option.some.inj h
      rcases R_open ho2 with ⟨_, h0⟩ | ⟨vb, c2, inner2, spare2, rfl, hP2, hvb0, hvb, hl2, hc2l, hnc2, hc2m, hr2⟩
      · cases h0
      have hne : ∀ g, P0_ g → vb ≠ g := fun g hg e => hp2_0 vb hP2 (e ▸ hg)
      by_cases hend : i = l0.length
      · subst hend
        rw [List.take_length, List.drop_length]
        obtain ⟨A0, c0, rfl⟩ := Kd.R_slice ho0
        have HO := Aside0.mk (Kd.R_mono ho0 (fun k_ hk => (.inl (.inl hk) : (P0_ k_ ∨ P2_ k_) ∨ w.heap.size ≤ k_)))
        have HC := Aside0.mk (Kd.R_reads' ho2)
        have HB := Aside0.mk hB
        have HS := Aside0.mk hB.size
        have HP := Aside0.mk (fun k (e : (Value.slice A0 l0.length c0).ownBlock = some k) => ho0.1 k e)
        have HL := Aside0.mk hlim
        clear ho0 ho2 hB hp0_2 hp2_0 hne hvb hr2 hc2l hlim ha1 hin h
        have e1 : ((1 : Int) == 0) = false := rfl
        go_enter Try.func58, Try.ntmps58
        go_wp2_with (((with_reducible refine gate_builtin (b := .append) (xs := #[.tmp 23, .tmp 24]) rfl ?_); at_builtin; refine Kd.R_append_rows k70 (w0 := w0) w0.heap.size rfl (.tmp 23) (.tmp 24) 24 70 (.agg #[.int .i64 0, .int .i64 0, .int .i64 0, .int .i64 0, .int .i64 0]) 40 rfl Try.underlying24 info70 rfl (by decide) (by omega) (.slice A0 l0.length c0) l0 [x] _ _ _ (fun k_ => (P0_ k_ ∨ P2_ k_) ∨ w.heap.size ≤ k_) (fun _ => False) rfl rfl ?aO ?aR (fun _ _ h => h) (fun _ h => h.elim) ?aF ?aB ?aS ?aL ?_; (case aR => exact HC.out.2.2); (case aB => exact HB.out); (case aF => exact (fun _ hk => .inr hk)); (case aO => exact HO.out); (case aS => exact HS.out); (case aL => have := HL.out; have := HC.out.1; simp only [List.length_cons, List.length_nil] at *; omega); intro v1 w1 ho hb hg hat; have n0_ := Aside0.mk (And.intro ho (And.intro hb hg)); clear ho hb hg hat))
        all_goals go_ret
        all_goals exact ⟨v1, rfl, n0_.out.1, n0_.out.2.1, Kept.of_grown n0_.out.2.2 (Kept.refl _ _) (fun k e => .inl (.inl (HP.out k e)))⟩
      · have hi : i < l0.length := by omega
        rcases R_open ho0 with ⟨_, h0⟩ | ⟨g, cap, inner, spare, rfl, hP0, hg0, hg, hl, hcl, hnc, hcm, hr⟩
        · rw [h0] at hi; simp at hi
        have hx2 : inner2.length = 5 := by rw [hl2]; rfl
        have hk1 : ∀ v ∈ inner ++ inner2, v.oneCell' = true := fun v hv => (List.mem_append.1 hv).elim (fun q => reps_one (d := k70) (w := w) hr v q) (fun q => reps_one (d := k70) (w := w) hr2 v q)
        have hvv : ∀ j v, inner2[j]? = some v → w.cell? ⟨vb, j, none⟩ = some v := fun j v hj => by
          simp only [World.cell?, hvb]
          simp [List.getElem?_append_left (List.getElem?_eq_some_iff.1 hj).1, hj]
        have hrx := hr2.2 0 x rfl
        rw [Nat.zero_mul, List.drop_zero, List.take_of_length_le (by rw [hx2]; exact Nat.le_refl _)] at hrx
        have hrr : Reps (k70.K w) 5 (l0.take i ++ x :: l0.drop i) (inner.take (i * 5) ++ (inner2 ++ inner.drop (i * 5))) := reps_insert (R := k70.K w) hr hrx hx2 i hin
        have hlr : (l0.take i ++ x :: l0.drop i).length = l0.length + 1 := by simp; omega
        by_cases hroom : l0.length + 1 ≤ cap
        · refine (impl_Session_58.room g l0.length cap i c2 inner spare inner2 vb w ⟨hg⟩ ⟨hl⟩ ⟨hcl⟩ hi hroom hcm hnc2 ⟨hx2⟩ ⟨hk1⟩ (hne g hP0) _ ⟨hvb⟩ ⟨hvv⟩).mono ?_
          rintro e w' ⟨rfl, rfl⟩
          have hgn := setRow_heap w.drew g _ (inner.take (i * 5) ++ (inner2 ++ inner.drop (i * 5)) ++ spare.drop 5).toArray 70 (0, 0) hg
          refine ⟨_, rfl, ?_, below_setRowV (below_drew hB) hg0 _, ?_⟩
          · rw [← hlr]
            refine R_close (d := k70) (.inl (.inl hP0)) hg0 hgn ?_ ?_ (by omega) hcm (hrr.imp_ (fun p c hp => hp))
            · rw [hrr.1]; rfl
            · rw [List.length_append, hrr.1, List.length_drop, hlr]
              have a := hl; have b := hcl
              rw [List.length_append] at b
              simp only [show (k70).sz = 5 from rfl] at a b ⊢
              omega
          · exact Kept.of_grown (grownBy_setRow w.drew g _) (Kept.drew (Kept.refl _ _)) (fun k e => by cases e; exact .inl (.inl hP0))
        · have hl' : inner.length = l0.length * 5 := hl
          refine (impl_Session_58.grow g l0.length cap i c2 inner spare inner2 vb w ⟨hg⟩ ⟨hl'⟩ hi hnc (by omega) (by omega) hnc2 ⟨hx2⟩ ⟨hk1⟩ (blk_lt hvb) ⟨hvv⟩).mono ?_
          rintro e w' ⟨G, spare', rfl, hG, hGm, hgn, hgl, hb⟩
          refine ⟨_, rfl, ?_, below_weaken hB hB.size hb, Kept.of_below hb _⟩
          rw [← hlr]
          exact R_close (d := k70) (.inr (Nat.le_refl _)) hB.size hgn (by rw [hrr.1]; rfl) (by rw [hgl]; rfl) (by omega) hGm (hrr.imp_ (fun p c hp => hp))
    · cases h
  · cases h
end Go.Proofs.Ytdjfnclheohhiaa.K
namespace Go.Proofs.Ytdjfnclheohhiaa.K
open Go.RowKit Go.Proofs.YtdjfnclheohhiaaW.PrintWords Go.Proofs.YtdjfnclheohhiaaW.PrintLast Go.Proofs.YtdjfnclheohhiaaW.PrintMore Go.Proofs.YtdjfnclheohhiaaV
attribute [local go_sem] isSome_setCell max2_int min2_int max_two min_two max_three min_three max_four min_four   
set_option linter.unusedVariables false
set_option linter.unusedSimpArgs false
mutual
def impl_AddToSessions.j0 : Nat → List (S70) → Int → Bool → Int → Int → Int → Int → Option ((List (S70)) × Bool)
  | 0, _, _, _, _, _, _, _ => none
  | k + 1, x0, x2, x27, x428000, x428001, x428002, x428003 => if x27 = true then ((impl_Session_56.f x0).bind fun t431 => (some (t431, false))) else ((impl_sessionOf.f x428000 x428001 x428002 x428003).bind fun bt434 => (impl_AddToSessions.l0 k x0 x2 (([] : List (S70))) x0 (x0.length : Int) 0 x428000 x428001 x428002 x428003 bt434.1 bt434.2.1 bt434.2.2.1 bt434.2.2.2.1 bt434.2.2.2.2))
def impl_AddToSessions.l0 : Nat → List (S70) → Int → List (S70) → List (S70) → Int → Int → Int → Int → Int → Int → Int → Int → Int → Int → Int → Option ((List (S70)) × Bool)
  | 0, _, _, _, _, _, _, _, _, _, _, _, _, _, _, _ => none
  | k + 1, x0, x2, x9, x33, x34, x35, x428000, x428001, x428002, x428003, x443000, x443001, x443002, x443003, x443004 => if x35 < x34 then (if 0 ≤ x35 then (if x35 < (x33.length : Int) then (if ((rd_T70 x33 x35).f0) = x428001 then (if x428002 ≥ (wrap64 (((rd_T70 x33 x35).f1) - x2)) then (if x428002 ≤ (wrap64 (((rd_T70 x33 x35).f2) + x2)) then ((impl_joined.f ((rd_T70 x33 x35).f0) ((rd_T70 x33 x35).f1) ((rd_T70 x33 x35).f2) ((rd_T70 x33 x35).f3) ((rd_T70 x33 x35).f4) x443000 x443001 x443002 x443003 x443004).bind fun bt445 => (impl_AddToSessions.l0 k x0 x2 x9 x33 x34 (wrap64 (x35 + 1)) x428000 x428001 x428002 x428003 bt445.1 bt445.2.1 bt445.2.2.1 bt445.2.2.2.1 bt445.2.2.2.2)) else (if x9.length < 3518437208883 then (impl_AddToSessions.l0 k x0 x2 (x9 ++ [(⟨(rd_T70 x33 x35).f0, (rd_T70 x33 x35).f1, (rd_T70 x33 x35).f2, (rd_T70 x33 x35).f3, (rd_T70 x33 x35).f4⟩ : S70)]) x33 x34 (wrap64 (x35 + 1)) x428000 x428001 x428002 x428003 x443000 x443001 x443002 x443003 x443004) else (none))) else (if x9.length < 3518437208883 then (impl_AddToSessions.l0 k x0 x2 (x9 ++ [(⟨(rd_T70 x33 x35).f0, (rd_T70 x33 x35).f1, (rd_T70 x33 x35).f2, (rd_T70 x33 x35).f3, (rd_T70 x33 x35).f4⟩ : S70)]) x33 x34 (wrap64 (x35 + 1)) x428000 x428001 x428002 x428003 x443000 x443001 x443002 x443003 x443004) else (none))) else (if x9.length < 3518437208883 then (impl_AddToSessions.l0 k x0 x2 (x9 ++ [(⟨(rd_T70 x33 x35).f0, (rd_T70 x33 x35).f1, (rd_T70 x33 x35).f2, (rd_T70 x33 x35).f3, (rd_T70 x33 x35).f4⟩ : S70)]) x33 x34 (wrap64 (x35 + 1)) x428000 x428001 x428002 x428003 x443000 x443001 x443002 x443003 x443004) else (none))) else (none)) else (none)) else ((impl_Session_57.f k x9 x443000 x443001 x443002 x443003 x443004).bind fun bt459 => ((impl_Session_58.f x9 bt459.1 (([(⟨x443000, x443001, x443002, x443003, x443004⟩ : S70)] : List (S70)))).bind fun t464 => (if (t464.length : Int) > 200 then ((impl_Session_56.f x0).bind fun t467 => (some (t467, false))) else (some (t464, true)))))
end
def impl_AddToSessions.f (k : Nat) (l0 : List (S70)) (a1_0 : Int) (a1_1 : Int) (a1_2 : Int) (a1_3 : Int) (a2 : Int) : Option ((List (S70)) × Bool) := (impl_isTime.f a2).bind fun t428 => (if t428 = true then ((impl_isEvent.f a1_0 a1_1 a1_2 a1_3).bind fun t429 => (if t429 = true then ((impl_areSessions.f k l0 a2).bind fun t430 => (impl_AddToSessions.j0 k l0 a2 (!t430) a1_0 a1_1 a1_2 a1_3)) else (impl_AddToSessions.j0 k l0 a2 true a1_0 a1_1 a1_2 a1_3))) else (impl_AddToSessions.j0 k l0 a2 true a1_0 a1_1 a1_2 a1_3))
theorem impl_AddToSessions.mono_l : ∀ k, (∀ y0 y1 y2 y3 y4 y5 y6, LeO (impl_AddToSessions.j0 k y0 y1 y2 y3 y4 y5 y6) (impl_AddToSessions.j0 (k + 1) y0 y1 y2 y3 y4 y5 y6)) ∧ (∀ y0 y1 y2 y3 y4 y5 y6 y7 y8 y9 y10 y11 y12 y13 y14, LeO (impl_AddToSessions.l0 k y0 y1 y2 y3 y4 y5 y6 y7 y8 y9 y10 y11 y12 y13 y14) (impl_AddToSessions.l0 (k + 1) y0 y1 y2 y3 y4 y5 y6 y7 y8 y9 y10 y11 y12 y13 y14))
  | 0 => ⟨fun _ _ _ _ _ _ _ r h => by simp [impl_AddToSessions.j0] at h, fun _ _ _ _ _ _ _ _ _ _ _ _ _ _ _ r h => by simp [impl_AddToSessions.l0] at h⟩
  | k + 1 => by
    obtain ⟨ih0, ih1⟩ := impl_AddToSessions.mono_l k
    refine ⟨?_, ?_⟩
    · intro y0 y1 y2 y3 y4 y5 y6
      unfold impl_AddToSessions.j0
      repeat' first
      | (with_reducible exact ih0 _ _ _ _ _ _ _)
      | (with_reducible exact ih1 _ _ _ _ _ _ _ _ _ _ _ _ _ _ _)
      | (with_reducible exact impl_Session_57.mono _ _ _ _ _ _ _)
      | (with_reducible exact impl_areSessions.mono _ _ _)
      | (with_reducible exact LeO.refl _)
      | (with_reducible exact LeO.none _)
      | (with_reducible refine LeO.ite ?_ ?_)
      | (with_reducible refine LeO.bind ?_ (fun _ => ?_))
      | exact ih0 _ _ _ _ _ _ _
      | exact ih1 _ _ _ _ _ _ _ _ _ _ _ _ _ _ _
      | exact impl_Session_57.mono _ _ _ _ _ _ _
      | exact impl_areSessions.mono _ _ _
      | exact LeO.none _
      | refine LeO.ite ?_ ?_
      | refine LeO.bind ?_ (fun _ => ?_)
    · intro y0 y1 y2 y3 y4 y5 y6 y7 y8 y9 y10 y11 y12 y13 y14
      unfold impl_AddToSessions.l0
      repeat' first
      | (with_reducible exact ih0 _ _ _ _ _ _ _)
      | (with_reducible exact ih1 _ _ _ _ _ _ _ _ _ _ _ _ _ _ _)
      | (with_reducible exact impl_Session_57.mono _ _ _ _ _ _ _)
      | (with_reducible exact impl_areSessions.mono _ _ _)
      | (with_reducible exact LeO.refl _)
      | (with_reducible exact LeO.none _)
      | (with_reducible refine LeO.ite ?_ ?_)
      | (with_reducible refine LeO.bind ?_ (fun _ => ?_))
      | exact ih0 _ _ _ _ _ _ _
      | exact ih1 _ _ _ _ _ _ _ _ _ _ _ _ _ _ _
      | exact impl_Session_57.mono _ _ _ _ _ _ _
      | exact impl_areSessions.mono _ _ _
      | exact LeO.none _
      | refine LeO.ite ?_ ?_
      | refine LeO.bind ?_ (fun _ => ?_)
theorem impl_AddToSessions.mono : ∀ a0 a1 a2 a3 a4 a5 k, LeO (impl_AddToSessions.f k a0 a1 a2 a3 a4 a5) (impl_AddToSessions.f (k + 1) a0 a1 a2 a3 a4 a5) := by
  intro a0 a1 a2 a3 a4 a5 k
  obtain ⟨ih0, ih1⟩ := impl_AddToSessions.mono_l k
  unfold impl_AddToSessions.f
  repeat' first
      | (with_reducible exact ih0 _ _ _ _ _ _ _)
      | (with_reducible exact ih1 _ _ _ _ _ _ _ _ _ _ _ _ _ _ _)
      | (with_reducible exact impl_Session_57.mono _ _ _ _ _ _ _)
      | (with_reducible exact impl_areSessions.mono _ _ _)
      | (with_reducible exact LeO.refl _)
      | (with_reducible exact LeO.none _)
      | (with_reducible refine LeO.ite ?_ ?_)
      | (with_reducible refine LeO.bind ?_ (fun _ => ?_))
      | exact ih0 _ _ _ _ _ _ _
      | exact ih1 _ _ _ _ _ _ _ _ _ _ _ _ _ _ _
      | exact impl_Session_57.mono _ _ _ _ _ _ _
      | exact impl_areSessions.mono _ _ _
      | exact LeO.none _
      | refine LeO.ite ?_ ?_
      | refine LeO.bind ?_ (fun _ => ?_)
set_option maxHeartbeats 8000000 in
set_option maxRecDepth 100000 in
theorem impl_AddToSessions.calls (k : Nat) (A0 : Option Addr) (c0 : Nat) (l0 : List (S70)) (a1_0 : Int) (a1_1 : Int) (a1_2 : Int) (a1_3 : Int) (a2 : Int) (r1 : List (S70)) (r2 : Bool) (w : World) (hr0 : Kd.C k70 w A0 l0.length l0) (hc0 : l0.length ≤ c0) (h : impl_AddToSessions.f k l0 a1_0 a1_1 a1_2 a1_3 a2 = some (r1, r2)) :
    Calls Try.prog 21 #[.slice A0 l0.length c0, .agg #[.int .i64 a1_0, .int .i64 a1_1, .int .i64 a1_2, .int .i64 a1_3], .int .i64 a2] w fun e w' => ∃ v0_ : Value, e = .returned (.tuple #[v0_, .bool r2]) ∧ Kd.R k70 70 w' w.heap.size (fun _ => True) v0_ r1 ∧ Below w.heap.size w w' := by
  have hu40 := Try.underlying40
  have hu70 := Try.underlying70
  have HR0 := Aside0.mk hr0
  have HC0 := Aside0.mk hc0
  clear hr0 hc0
  have HB := Aside0.mk (Below.refl w.heap.size w)
  have H : ((impl_isTime.f a2).bind fun t428 => (if t428 = true then ((impl_isEvent.f a1_0 a1_1 a1_2 a1_3).bind fun t429 => (if t429 = true then ((impl_areSessions.f k l0 a2).bind fun t430 => (impl_AddToSessions.j0 k l0 a2 (!t430) a1_0 a1_1 a1_2 a1_3)) else (impl_AddToSessions.j0 k l0 a2 true a1_0 a1_1 a1_2 a1_3))) else (impl_AddToSessions.j0 k l0 a2 true a1_0 a1_1 a1_2 a1_3))) = some (r1, r2) := h
  clear h
  have HC4 := Aside0.mk H
  clear H
  go_enter Try.func21, Try.ntmps21
  go_upto_region 1 with (first | ((with_reducible refine gate_dst (N := 4) rfl ?_); refine box_event ?hg (N := 4) ?hd (cs := #[.int .i64 a1_0, .int .i64 a1_1, .int .i64 a1_2, .int .i64 a1_3]) (t := 40) ?hr ?_; (case hd => rfl); (case hg => rfl); (case hr => first | (go_simp; done) | (go_simp; rfl)); intro gb427 hg w5 hbox hb; have n0_ := Aside0.mk (below_step bel hb); have n1_ := Aside0.mk (hbox); have n2_ := Aside0.mk ((by rw [hg]; exact (below_size bel) : w.heap.size ≤ gb427)); have n3_ := Aside0.mk ((by rw [hg]; exact (below_size bel) : w.heap.size ≤ gb427)); clear HB; have HB := n0_; have BK427 := n1_; have GW427 := n2_; have GE427 := n3_; clear n0_ n1_ n2_ n3_; clear hb hbox hg))
  (try simp only [Act.put, List.setIfInBounds_toArray, List.set_cons_zero, List.set_cons_succ])
  go_cut [27] (fun v27 wc => ∃ (kq : Nat) (x27_3 : Bool), v27 = .bool x27_3 ∧ Aside0 (impl_AddToSessions.j0 kq l0 a2 x27_3 a1_0 a1_1 a1_2 a1_3 = some (r1, r2)) ∧ Aside0 (kq ≤ k) ∧ Aside0 (wc.heap[gb427]? = some (.cells #[.int .i64 a1_0, .int .i64 a1_1, .int .i64 a1_2, .int .i64 a1_3] 40 (0, 0))) ∧ Aside0 (Below w.heap.size w wc))
  case first =>
    have H := HC4.out
    clear HC4
    replace H := Option.bind_eq_some_iff.mp H
    obtain ⟨t428, A60, H⟩ := H
    replace H : (if t428 = true then ((impl_isEvent.f a1_0 a1_1 a1_2 a1_3).bind fun t429 => (if t429 = true then ((impl_areSessions.f k l0 a2).bind fun t430 => (impl_AddToSessions.j0 k l0 a2 (!t430) a1_0 a1_1 a1_2 a1_3)) else (impl_AddToSessions.j0 k l0 a2 true a1_0 a1_1 a1_2 a1_3))) else (impl_AddToSessions.j0 k l0 a2 true a1_0 a1_1 a1_2 a1_3)) = some (r1, r2) := H
    have A6 := Aside0.mk A60
    clear A60
    by_cases c7 : t428 = true
    · subst c7
      have H1 : ((impl_isEvent.f a1_0 a1_1 a1_2 a1_3).bind fun t429 => (if t429 = true then ((impl_areSessions.f k l0 a2).bind fun t430 => (impl_AddToSessions.j0 k l0 a2 (!t430) a1_0 a1_1 a1_2 a1_3)) else (impl_AddToSessions.j0 k l0 a2 true a1_0 a1_1 a1_2 a1_3))) = some (r1, r2) := by rw [if_pos rfl] at H; exact H
      clear H
      have H := H1
      clear H1
      replace H := Option.bind_eq_some_iff.mp H
      obtain ⟨t429, A80, H⟩ := H
      replace H : (if t429 = true then ((impl_areSessions.f k l0 a2).bind fun t430 => (impl_AddToSessions.j0 k l0 a2 (!t430) a1_0 a1_1 a1_2 a1_3)) else (impl_AddToSessions.j0 k l0 a2 true a1_0 a1_1 a1_2 a1_3)) = some (r1, r2) := H
      have A8 := Aside0.mk A80
      clear A80
      by_cases c9 : t429 = true
      · subst c9
        have H1 : ((impl_areSessions.f k l0 a2).bind fun t430 => (impl_AddToSessions.j0 k l0 a2 (!t430) a1_0 a1_1 a1_2 a1_3)) = some (r1, r2) := by rw [if_pos rfl] at H; exact H
        clear H
        have H := H1
        clear H1
        replace H := Option.bind_eq_some_iff.mp H
        obtain ⟨t430, A100, H⟩ := H
        replace H : (impl_AddToSessions.j0 k l0 a2 (!t430) a1_0 a1_1 a1_2 a1_3) = some (r1, r2) := H
        have A10 := Aside0.mk A100
        clear A100
        have H' := Aside0.mk H
        clear H
        go_wp2_with (first | ((with_reducible refine gate_callee (f := 45) rfl ?_); refine goesL1 15 Try.func45 #[.int .i64 a2] ?_; (with_reducible refine (impl_isTime.calls a2 true _ A6.out).mono ?_); rintro e w' ⟨rfl, ⟨nd, rfl⟩⟩; refine ⟨_, rfl, ?_⟩; obtain ⟨hcz11_0, hcz11_1, hcz11_2, hcz11_3, hfz11_0, hfz11_1, hfz11_2, hfz11_3⟩ := blkc4 BK427.out) | (go_at_call 46; (with_reducible refine (impl_isEvent.calls a1_0 a1_1 a1_2 a1_3 true _ A8.out).mono ?_); rintro e w12 ⟨rfl, hb⟩; have n0_ := Aside0.mk (blk_below (g := gb427) (o := .cells #[.int .i64 a1_0, .int .i64 a1_1, .int .i64 a1_2, .int .i64 a1_3] 40 (0, 0)) (blkq BK427.out) hb); have n1_ := Aside0.mk (below_step bel hb); clear BK427 HB; have BK427 := n0_; have HB := n1_; clear n0_ n1_; (try clear hb); (try clear hb2); (try clear hk); (try clear hi)) | (go_at_call 55; (with_reducible refine (impl_areSessions.calls k _ _ l0 a2 t430 _ ?side1 ?side2 A10.out).mono ?_); (case side1 => repeat (first | exact (Kd.C_below HR0.out HB.out) | (with_reducible refine Kd.C_alloc ?_ _) | (with_reducible refine Kd.C_drewN ?_ _) | (with_reducible refine Kd.C_drew ?_))); (case side2 => exact HC0.out); rintro e w13 ⟨rfl, hb⟩; have n0_ := Aside0.mk (blk_below (g := gb427) (o := .cells #[.int .i64 a1_0, .int .i64 a1_1, .int .i64 a1_2, .int .i64 a1_3] 40 (0, 0)) (blkq BK427.out) hb); have n1_ := Aside0.mk (below_step bel hb); clear BK427 HB; have BK427 := n0_; have HB := n1_; clear n0_ n1_; (try clear hb); (try clear hb2); (try clear hk); (try clear hi)))
        go_meet
        case rel => exact ⟨_, (!t430), (by first | rfl | (simp; done) | (simp [*]; done)), H', ⟨by first | omega | exact Nat.le_refl _⟩, ⟨by (with_reducible repeat (first | refine blk_drewN ?_ _ | refine blk_drew ?_ | refine blk_alloc ?_ _)); exact BK427.out⟩, ⟨by repeat (first | (with_reducible first | exact HB.out | apply below_alloc | apply pw_below_drewN | apply below_drew1 | refine below_set ?_ GE427.out) | exact HB.out)⟩⟩
      · replace c9 := Bool.eq_false_iff.mpr c9
        subst c9
        have H1 : (impl_AddToSessions.j0 k l0 a2 true a1_0 a1_1 a1_2 a1_3) = some (r1, r2) := by rw [if_neg (show ¬ (false = true) by decide)] at H; exact H
        clear H
        have H := H1
        clear H1
        have H' := Aside0.mk H
        clear H
        go_wp2_with (first | ((with_reducible refine gate_callee (f := 45) rfl ?_); refine goesL1 15 Try.func45 #[.int .i64 a2] ?_; (with_reducible refine (impl_isTime.calls a2 true _ A6.out).mono ?_); rintro e w' ⟨rfl, ⟨nd, rfl⟩⟩; refine ⟨_, rfl, ?_⟩; obtain ⟨hcz14_0, hcz14_1, hcz14_2, hcz14_3, hfz14_0, hfz14_1, hfz14_2, hfz14_3⟩ := blkc4 BK427.out) | (go_at_call 46; (with_reducible refine (impl_isEvent.calls a1_0 a1_1 a1_2 a1_3 false _ A8.out).mono ?_); rintro e w15 ⟨rfl, hb⟩; have n0_ := Aside0.mk (blk_below (g := gb427) (o := .cells #[.int .i64 a1_0, .int .i64 a1_1, .int .i64 a1_2, .int .i64 a1_3] 40 (0, 0)) (blkq BK427.out) hb); have n1_ := Aside0.mk (below_step bel hb); clear BK427 HB; have BK427 := n0_; have HB := n1_; clear n0_ n1_; (try clear hb); (try clear hb2); (try clear hk); (try clear hi)))
        go_meet
        case rel => exact ⟨_, (true), (by first | rfl | (simp; done) | (simp [*]; done)), H', ⟨by first | omega | exact Nat.le_refl _⟩, ⟨by (with_reducible repeat (first | refine blk_drewN ?_ _ | refine blk_drew ?_ | refine blk_alloc ?_ _)); exact BK427.out⟩, ⟨by repeat (first | (with_reducible first | exact HB.out | apply below_alloc | apply pw_below_drewN | apply below_drew1 | refine below_set ?_ GE427.out) | exact HB.out)⟩⟩
    · replace c7 := Bool.eq_false_iff.mpr c7
      subst c7
      have H1 : (impl_AddToSessions.j0 k l0 a2 true a1_0 a1_1 a1_2 a1_3) = some (r1, r2) := by rw [if_neg (show ¬ (false = true) by decide)] at H; exact H
      clear H
      have H := H1
      clear H1
      have H' := Aside0.mk H
      clear H
      go_wp2_with (first | ((with_reducible refine gate_callee (f := 45) rfl ?_); refine goesL1 15 Try.func45 #[.int .i64 a2] ?_; (with_reducible refine (impl_isTime.calls a2 false _ A6.out).mono ?_); rintro e w' ⟨rfl, ⟨nd, rfl⟩⟩; refine ⟨_, rfl, ?_⟩))
      go_meet
      case rel => exact ⟨_, (true), (by first | rfl | (simp; done) | (simp [*]; done)), H', ⟨by first | omega | exact Nat.le_refl _⟩, ⟨by (with_reducible repeat (first | refine blk_drewN ?_ _ | refine blk_drew ?_ | refine blk_alloc ?_ _)); exact BK427.out⟩, ⟨by repeat (first | (with_reducible first | exact HB.out | apply below_alloc | apply pw_below_drewN | apply below_drew1 | refine below_set ?_ GE427.out) | exact HB.out)⟩⟩
  case rest =>
    clear HC4
    try clear c2
    try clear p2
    try clear c4
    try clear c7
    try clear c9
    try clear hcz11_0
    try clear hcz11_1
    try clear hcz11_2
    try clear hcz11_3
    try clear hcz14_0
    try clear hcz14_1
    try clear hcz14_2
    try clear hcz14_3
    try clear hfz11_0
    try clear hfz11_1
    try clear hfz11_2
    try clear hfz11_3
    try clear hfz14_0
    try clear hfz14_1
    try clear hfz14_2
    try clear hfz14_3
    obtain ⟨kq, x27_3, rfl, HA, HJ3, BK427, HB⟩ := hcut
    cases kq with
    | zero => exact absurd HA.out (by simp [impl_AddToSessions.j0])
    | succ kj3 =>
      have H := HA.out
      clear HA
      simp only [impl_AddToSessions.j0] at H
      by_cases c16 : x27_3 = true
      · subst c16
        have H1 : ((impl_Session_56.f l0).bind fun t431 => (some (t431, false))) = some (r1, r2) := by rw [if_pos rfl] at H; exact H
        clear H
        have H := H1
        clear H1
        replace H := Option.bind_eq_some_iff.mp H
        obtain ⟨t431, A170, H⟩ := H
        replace H : (some (t431, false)) = some (r1, r2) := H
        have A17 := Aside0.mk A170
        clear A170
        simp only [Option.some.injEq, Prod.mk.injEq] at H
        obtain ⟨rfl, rfl⟩ := H
        go_wp2_with (first | ((with_reducible refine gate_callee (f := 56) rfl ?_); refine goesL1 29 Try.func56 #[.slice A0 l0.length c0] ?_; (with_reducible refine (impl_Session_56.calls _ _ l0 t431 _ ?side1 ?side2 A17.out).mono ?_); (case side1 => repeat (first | exact (Kd.C_below HR0.out HB.out) | (with_reducible refine Kd.C_alloc ?_ _) | (with_reducible refine Kd.C_drewN ?_ _) | (with_reducible refine Kd.C_drew ?_))); (case side2 => exact HC0.out); rintro e w18 ⟨v432, rfl, ho0, hb⟩; refine ⟨_, rfl, ?_⟩; have n0_ := Aside0.mk (Kd.R_lower ho0 (below_size bel)); have n1_ := Aside0.mk (blk_below (g := gb427) (o := .cells #[.int .i64 a1_0, .int .i64 a1_1, .int .i64 a1_2, .int .i64 a1_3] 40 (0, 0)) (blkq BK427.out) hb); have n2_ := Aside0.mk (below_step bel hb); clear BK427 HB; have HO433 := n0_; have BK427 := n1_; have HB := n2_; clear n0_ n1_ n2_; (try clear hb); (try clear hb2); (try clear hk); (try clear hi); (try clear ho0)))
        go_ret2
        exact ⟨_, by first | rfl | (simp [errW_none, errW_some] <;> rfl) | (simp [*, errW_none, errW_some] <;> rfl), by (with_reducible repeat (first | apply Kd.R_alloc | apply Kd.R_drewN | apply Kd.R_drew)); exact HO433.out, by repeat (first | (with_reducible first | exact HB.out | apply below_alloc | apply pw_below_drewN | apply below_drew1 | refine below_set ?_ GE427.out) | exact HB.out)⟩
      · replace c16 := Bool.eq_false_iff.mpr c16
        subst c16
        have H1 : ((impl_sessionOf.f a1_0 a1_1 a1_2 a1_3).bind fun bt434 => (impl_AddToSessions.l0 kj3 l0 a2 (([] : List (S70))) l0 (l0.length : Int) 0 a1_0 a1_1 a1_2 a1_3 bt434.1 bt434.2.1 bt434.2.2.1 bt434.2.2.2.1 bt434.2.2.2.2)) = some (r1, r2) := by rw [if_neg (show ¬ (false = true) by decide)] at H; exact H
        clear H
        have H := H1
        clear H1
        replace H := Option.bind_eq_some_iff.mp H
        obtain ⟨⟨t434, t435, t436, t437, t438⟩, A190, H⟩ := H
        replace H : (impl_AddToSessions.l0 kj3 l0 a2 (([] : List (S70))) l0 (l0.length : Int) 0 a1_0 a1_1 a1_2 a1_3 t434 t435 t436 t437 t438) = some (r1, r2) := H
        have A19 := Aside0.mk A190
        clear A190
        obtain ⟨y439, hy439⟩ : ∃ y_ : List (S70), y_ = (([] : List (S70))) := ⟨_, rfl⟩
        replace H : (impl_AddToSessions.l0 kj3 l0 a2 y439 l0 (l0.length : Int) 0 a1_0 a1_1 a1_2 a1_3 t434 t435 t436 t437 t438) = some (r1, r2) := by first | (rw [hy439]; with_reducible exact H) | (have H2_ := (Option.bind_some _ _).symm.trans H; rw [hy439]; with_reducible exact H2_) | (have H2_ := (Option.bind_some _ _).symm.trans H; with_reducible exact H2_) | with_reducible exact H | (rw [hy439]; exact H) | exact H
        have Ny439 := Aside0.mk hy439
        clear hy439
        have H' := Aside0.mk H
        clear H
        have hcz20_0 : wc.cell? ⟨gb427, 0, none⟩ = some (.int .i64 a1_0) := (blk_cell BK427.out 0).trans rfl
        have hcz20_1 : wc.cell? ⟨gb427, 1, none⟩ = some (.int .i64 a1_1) := (blk_cell BK427.out 1).trans rfl
        have hcz20_2 : wc.cell? ⟨gb427, 2, none⟩ = some (.int .i64 a1_2) := (blk_cell BK427.out 2).trans rfl
        have hcz20_3 : wc.cell? ⟨gb427, 3, none⟩ = some (.int .i64 a1_3) := (blk_cell BK427.out 3).trans rfl
        have hfz20_0 := blk_frozen BK427.out 0
        have hfz20_1 := blk_frozen BK427.out 1
        have hfz20_2 := blk_frozen BK427.out 2
        have hfz20_3 := blk_frozen BK427.out 3
        go_wp2_with (first | ((with_reducible refine gate_callee (f := 47) rfl ?_); refine goesL1 31 Try.func47 #[.agg #[.int .i64 a1_0, .int .i64 a1_1, .int .i64 a1_2, .int .i64 a1_3]] ?_; (with_reducible refine (impl_sessionOf.calls a1_0 a1_1 a1_2 a1_3 t434 t435 t436 t437 t438 _ A19.out).mono ?_); rintro e w21 ⟨rfl, hb⟩; refine ⟨_, rfl, ?_⟩; have n0_ := Aside0.mk (blk_below (g := gb427) (o := .cells #[.int .i64 a1_0, .int .i64 a1_1, .int .i64 a1_2, .int .i64 a1_3] 40 (0, 0)) (blkq BK427.out) hb); have n1_ := Aside0.mk (below_step bel hb); clear BK427 HB; have BK427 := n0_; have HB := n1_; clear n0_ n1_; (try clear hb); (try clear hb2); (try clear hk); (try clear hi)) | ((with_reducible refine gate_dst (N := 32) rfl ?_); refine Kd.R_lit k70 _ 70 ?hg (N := 32) ?hd (xs := ([] : List (S70))) (inner := []) (ok := fun _ => True) (okp := fun _ => True) ?hr ?hp (fun _ hk => hk) trivial (Below.refl _ _) (Nat.le_refl _) (by simp) ?_; (case hd => rfl); (case hg => rfl); (case hr => first | (go_simp; done) | (go_simp; rfl)); (case hp => exact (Reps.none _ _)); intro v440 w22 ho23 hb hg_ hnew_; clear hg_ hnew_; (first | rw [← Ny439.out] at ho23 | (simp only [Int.reduceToNat] at ho23; rw [← Ny439.out] at ho23)); have n0_ := Aside0.mk (Kd.R_lower ho23 (below_size bel)); have n1_ := Aside0.mk (blk_below (g := gb427) (o := .cells #[.int .i64 a1_0, .int .i64 a1_1, .int .i64 a1_2, .int .i64 a1_3] 40 (0, 0)) (blkq BK427.out) hb); have n2_ := Aside0.mk (below_step bel hb); clear BK427 HB; have HO441 := n0_; have BK427 := n1_; have HB := n2_; clear n0_ n1_ n2_; clear hb ho23) | ((with_reducible refine gate_dst (N := 8) rfl ?_); refine box_event ?hg (N := 8) ?hd (cs := #[.int .i64 0, .int .i64 0, .int .i64 0, .int .i64 0, .int .i64 0]) (t := 70) ?hr ?_; (case hd => rfl); (case hg => rfl); (case hr => first | (go_simp; done) | (go_simp; rfl)); intro gb442 hg w24 hbox hb; have n0_ := Aside0.mk (Kd.R_below (Kd.R_elderB (by (with_reducible repeat (first | apply Kd.R_alloc | apply Kd.R_drewN | apply Kd.R_drew)); exact HO441.out) gb442 (Nat.le_of_eq hg.symm)) hb); have n1_ := Aside0.mk (blk_below (g := gb427) (o := .cells #[.int .i64 a1_0, .int .i64 a1_1, .int .i64 a1_2, .int .i64 a1_3] 40 (0, 0)) (blkq BK427.out) hb); have n2_ := Aside0.mk (below_step bel hb); have n3_ := Aside0.mk (hbox); have n4_ := Aside0.mk ((by rw [hg]; exact (below_size bel) : w.heap.size ≤ gb442)); have n5_ := Aside0.mk ((by rw [hg]; exact (below_size bel) : w.heap.size ≤ gb442)); have n6_ := Aside0.mk ((by rw [hg]; exact Nat.ne_of_lt (blk_lt (g := gb427) (o := .cells #[.int .i64 a1_0, .int .i64 a1_1, .int .i64 a1_2, .int .i64 a1_3] 40 (0, 0)) (blkq BK427.out)) : gb427 ≠ gb442)); have n7_ := Aside0.mk ((by rw [hg]; exact Nat.ne_of_gt (blk_lt (g := gb427) (o := .cells #[.int .i64 a1_0, .int .i64 a1_1, .int .i64 a1_2, .int .i64 a1_3] 40 (0, 0)) (blkq BK427.out)) : gb442 ≠ gb427)); clear HO441 BK427 HB; have HO441 := n0_; have BK427 := n1_; have HB := n2_; have BK442 := n3_; have GW442 := n4_; have GE442 := n5_; have NB427_442 := n6_; have NB442_427 := n7_; clear n0_ n1_ n2_ n3_ n4_ n5_ n6_ n7_ hb hbox hg; have hnb25 := NB442_427.out; have hnc25 := NB427_442.out; obtain ⟨hcz26_0, hcz26_1, hcz26_2, hcz26_3, hcz26_4, hfz26_0, hfz26_1, hfz26_2, hfz26_3, hfz26_4⟩ := blkc5 BK442.out))
        go_loopg [9, 35] kj3 (fun kq v9 v35 w' => ∃ (x9_2 : List (S70)) (x35_2 : Int) (x443000_2 : Int) (x443001_2 : Int) (x443002_2 : Int) (x443003_2 : Int) (x443004_2 : Int), v35 = .int .i64 x35_2 ∧ Aside0 (impl_AddToSessions.l0 kq l0 a2 x9_2 l0 (l0.length : Int) x35_2 a1_0 a1_1 a1_2 a1_3 x443000_2 x443001_2 x443002_2 x443003_2 x443004_2 = some (r1, r2)) ∧ Aside0 (kq ≤ kj3) ∧ Aside0 (Kd.R k70 70 w' w.heap.size (fun k_ => k_ ≠ gb442) v9 x9_2) ∧ Aside0 (w'.heap[gb427]? = some (.cells #[.int .i64 a1_0, .int .i64 a1_1, .int .i64 a1_2, .int .i64 a1_3] 40 (0, 0))) ∧ Aside0 (w'.heap[gb442]? = some (.cells #[.int .i64 x443000_2, .int .i64 x443001_2, .int .i64 x443002_2, .int .i64 x443003_2, .int .i64 x443004_2] 70 (0, 0))) ∧ Aside0 (Below w.heap.size w w'))
        case atStart => exact ⟨(y439), (0), (t434), (t435), (t436), (t437), (t438), (by first | rfl | (simp; done) | (simp [*]; done)), H', ⟨Nat.le_refl _⟩, ⟨by (with_reducible repeat (first | apply Kd.R_alloc | apply Kd.R_drewN | apply Kd.R_drew)); exact Kd.R_mono (Kd.R_far (p := ⟨gb442, 4, none⟩) (Kd.R_far (p := ⟨gb442, 3, none⟩) (Kd.R_far (p := ⟨gb442, 2, none⟩) (Kd.R_far (p := ⟨gb442, 1, none⟩) (Kd.R_far (p := ⟨gb442, 0, none⟩) (Kd.R_mono HO441.out (fun k_ hk => (⟨hk, hk.2⟩ : _ ∧ k_ ≠ gb442))) (fun _ hk => hk.2) (.int .i64 t434)) (fun _ hk => hk.2) (.int .i64 t435)) (fun _ hk => hk.2) (.int .i64 t436)) (fun _ hk => hk.2) (.int .i64 t437)) (fun _ hk => hk.2) (.int .i64 t438)) (fun _ hk => hk.1.2)⟩, ⟨by (with_reducible repeat (first | refine blk_drewN ?_ _ | refine blk_drew ?_ | refine blk_alloc ?_ _)); refine blk_far ?_ NB427_442.out _; (with_reducible repeat (first | refine blk_drewN ?_ _ | refine blk_drew ?_ | refine blk_alloc ?_ _)); refine blk_far ?_ NB427_442.out _; (with_reducible repeat (first | refine blk_drewN ?_ _ | refine blk_drew ?_ | refine blk_alloc ?_ _)); refine blk_far ?_ NB427_442.out _; (with_reducible repeat (first | refine blk_drewN ?_ _ | refine blk_drew ?_ | refine blk_alloc ?_ _)); refine blk_far ?_ NB427_442.out _; (with_reducible repeat (first | refine blk_drewN ?_ _ | refine blk_drew ?_ | refine blk_alloc ?_ _)); refine blk_far ?_ NB427_442.out _; (with_reducible repeat (first | refine blk_drewN ?_ _ | refine blk_drew ?_ | refine blk_alloc ?_ _)); exact BK427.out⟩, ⟨by (with_reducible repeat (first | refine blk_drewN ?_ _ | refine blk_drew ?_ | refine blk_alloc ?_ _)); refine blk_put (cs := #[.int .i64 t434, .int .i64 t435, .int .i64 t436, .int .i64 t437, .int .i64 0]) ?_ 4 _ rfl; (with_reducible repeat (first | refine blk_drewN ?_ _ | refine blk_drew ?_ | refine blk_alloc ?_ _)); refine blk_put (cs := #[.int .i64 t434, .int .i64 t435, .int .i64 t436, .int .i64 0, .int .i64 0]) ?_ 3 _ rfl; (with_reducible repeat (first | refine blk_drewN ?_ _ | refine blk_drew ?_ | refine blk_alloc ?_ _)); refine blk_put (cs := #[.int .i64 t434, .int .i64 t435, .int .i64 0, .int .i64 0, .int .i64 0]) ?_ 2 _ rfl; (with_reducible repeat (first | refine blk_drewN ?_ _ | refine blk_drew ?_ | refine blk_alloc ?_ _)); refine blk_put (cs := #[.int .i64 t434, .int .i64 0, .int .i64 0, .int .i64 0, .int .i64 0]) ?_ 1 _ rfl; (with_reducible repeat (first | refine blk_drewN ?_ _ | refine blk_drew ?_ | refine blk_alloc ?_ _)); refine blk_put (cs := #[.int .i64 0, .int .i64 0, .int .i64 0, .int .i64 0, .int .i64 0]) ?_ 0 _ rfl; (with_reducible repeat (first | refine blk_drewN ?_ _ | refine blk_drew ?_ | refine blk_alloc ?_ _)); exact BK442.out⟩, ⟨by repeat (first | (with_reducible first | exact HB.out | apply below_alloc | apply pw_below_drewN | apply below_drew1 | refine below_set ?_ GE427.out | refine below_set ?_ GE442.out) | exact HB.out)⟩⟩
        case round =>
          clear H'
          try clear c1
          try clear c2
          try clear p2
          try clear c4
          try clear c5
          try clear c7
          try clear c9
          try clear c16
          try clear c21
          try clear c25
          try clear hcz11_0
          try clear hcz11_1
          try clear hcz11_2
          try clear hcz11_3
          try clear hcz14_0
          try clear hcz14_1
          try clear hcz14_2
          try clear hcz14_3
          try clear hcz20_0
          try clear hcz20_1
          try clear hcz20_2
          try clear hcz20_3
          try clear hcz26_0
          try clear hcz26_1
          try clear hcz26_2
          try clear hcz26_3
          try clear hcz26_4
          try clear hfz11_0
          try clear hfz11_1
          try clear hfz11_2
          try clear hfz11_3
          try clear hfz14_0
          try clear hfz14_1
          try clear hfz14_2
          try clear hfz14_3
          try clear hfz20_0
          try clear hfz20_1
          try clear hfz20_2
          try clear hfz20_3
          try clear hfz26_0
          try clear hfz26_1
          try clear hfz26_2
          try clear hfz26_3
          try clear hfz26_4
          try clear p2
          obtain ⟨x9_2, x35_2, x443000_2, x443001_2, x443002_2, x443003_2, x443004_2, rfl, HA, HK2, HO_9, BK427, BK442, HB⟩ := hrel
          cases gk with
          | zero => exact absurd HA.out (by simp [impl_AddToSessions.l0])
          | succ k2 =>
            have H := HA.out
            clear HA
            simp only [impl_AddToSessions.l0] at H
            by_cases c27 : x35_2 < (l0.length : Int)
            · rw [if_pos c27] at H
              have c27b0 : decide (x35_2 < (l0.length : Int)) = true := decide_eq_true c27
              clear c27
              by_cases c28 : 0 ≤ x35_2
              · rw [if_pos c28] at H
                have c28b0 : decide (0 ≤ x35_2) = true := decide_eq_true c28
                clear c28
                by_cases c29 : x35_2 < (l0.length : Int)
                · rw [if_pos c29] at H
                  have c29b0 : decide (x35_2 < (l0.length : Int)) = true := decide_eq_true c29
                  clear c29
                  by_cases c30 : ((rd_T70 l0 x35_2).f0) = a1_1
                  · rw [if_pos c30] at H
                    have c30b0 : (((rd_T70 l0 x35_2).f0) == a1_1) = true := beq_iff_eq.mpr c30
                    have c30b1 : (((rd_T70 l0 x35_2).f0) != a1_1) = false := bne_eq_false_iff_eq.mpr c30
                    clear c30
                    by_cases c31 : a1_2 ≥ (wrap64 (((rd_T70 l0 x35_2).f1) - a2))
                    · rw [if_pos c31] at H
                      have c31b0 : decide ((wrap64 (((rd_T70 l0 x35_2).f1) - a2)) ≤ a1_2) = true := decide_eq_true c31
                      clear c31
                      by_cases c32 : a1_2 ≤ (wrap64 (((rd_T70 l0 x35_2).f2) + a2))
                      · rw [if_pos c32] at H
                        have c32b0 : decide (a1_2 ≤ (wrap64 (((rd_T70 l0 x35_2).f2) + a2))) = true := decide_eq_true c32
                        clear c32
                        replace H := Option.bind_eq_some_iff.mp H
                        obtain ⟨⟨t445, t446, t447, t448, t449⟩, A330, H⟩ := H
                        replace H : (impl_AddToSessions.l0 k2 l0 a2 x9_2 l0 (l0.length : Int) (wrap64 (x35_2 + 1)) a1_0 a1_1 a1_2 a1_3 t445 t446 t447 t448 t449) = some (r1, r2) := H
                        have A33 := Aside0.mk A330
                        clear A330
                        have H' := Aside0.mk H
                        clear H
                        have p443 : 0 ≤ (x35_2 : Int) := of_decide_eq_true (by first | (with_reducible assumption) | assumption)
                        have q443 : x35_2 < (l0.length : Int) := of_decide_eq_true (by first | (with_reducible assumption) | assumption)
                        obtain ⟨ad443, e443, hx443_0, hx443_1, hx443_2, hx443_3, hx443_4⟩ := at_T70 HR0.out x35_2 p443 q443
                        cases e443
                        replace hx443_0 := (HB.out.cell (World.block_lt_of_cell? w _ hx443_0)).trans hx443_0
                        replace hx443_1 := (HB.out.cell (World.block_lt_of_cell? w _ hx443_1)).trans hx443_1
                        replace hx443_2 := (HB.out.cell (World.block_lt_of_cell? w _ hx443_2)).trans hx443_2
                        replace hx443_3 := (HB.out.cell (World.block_lt_of_cell? w _ hx443_3)).trans hx443_3
                        replace hx443_4 := (HB.out.cell (World.block_lt_of_cell? w _ hx443_4)).trans hx443_4
                        replace p443 := eq_true p443
                        replace q443 := eq_true q443
                        go_wp2_with (first | ((with_reducible refine gate_dst (N := 11) rfl ?_); refine box_event ?hg (N := 11) ?hd (cs := #[.int .i64 0, .int .i64 0, .int .i64 0, .int .i64 0, .int .i64 0]) (t := 70) ?hr ?_; (case hd => rfl); (case hg => rfl); (case hr => first | (go_simp; done) | (go_simp; rfl)); intro gb444 hg w34 hbox hb; have n0_ := Aside0.mk (Kd.R_below (Kd.R_elderB (by (with_reducible repeat (first | apply Kd.R_alloc | apply Kd.R_drewN | apply Kd.R_drew)); exact HO_9.out) gb444 (Nat.le_of_eq hg.symm)) hb); have n1_ := Aside0.mk (blk_below (g := gb427) (o := .cells #[.int .i64 a1_0, .int .i64 a1_1, .int .i64 a1_2, .int .i64 a1_3] 40 (0, 0)) (blkq BK427.out) hb); have n2_ := Aside0.mk (blk_below (g := gb442) (o := .cells #[.int .i64 x443000_2, .int .i64 x443001_2, .int .i64 x443002_2, .int .i64 x443003_2, .int .i64 x443004_2] 70 (0, 0)) (blkq BK442.out) hb); have n3_ := Aside0.mk (below_step bel hb); have n4_ := Aside0.mk (hbox); have n5_ := Aside0.mk ((by rw [hg]; exact (below_size bel) : w.heap.size ≤ gb444)); have n6_ := Aside0.mk ((by rw [hg]; exact (below_size bel) : w.heap.size ≤ gb444)); have n7_ := Aside0.mk ((by rw [hg]; exact Nat.ne_of_lt (blk_lt (g := gb427) (o := .cells #[.int .i64 a1_0, .int .i64 a1_1, .int .i64 a1_2, .int .i64 a1_3] 40 (0, 0)) (blkq BK427.out)) : gb427 ≠ gb444)); have n8_ := Aside0.mk ((by rw [hg]; exact Nat.ne_of_gt (blk_lt (g := gb427) (o := .cells #[.int .i64 a1_0, .int .i64 a1_1, .int .i64 a1_2, .int .i64 a1_3] 40 (0, 0)) (blkq BK427.out)) : gb444 ≠ gb427)); have n9_ := Aside0.mk ((by rw [hg]; exact Nat.ne_of_lt (blk_lt (g := gb442) (o := .cells #[.int .i64 x443000_2, .int .i64 x443001_2, .int .i64 x443002_2, .int .i64 x443003_2, .int .i64 x443004_2] 70 (0, 0)) (blkq BK442.out)) : gb442 ≠ gb444)); have n10_ := Aside0.mk ((by rw [hg]; exact Nat.ne_of_gt (blk_lt (g := gb442) (o := .cells #[.int .i64 x443000_2, .int .i64 x443001_2, .int .i64 x443002_2, .int .i64 x443003_2, .int .i64 x443004_2] 70 (0, 0)) (blkq BK442.out)) : gb444 ≠ gb442)); clear HO_9 BK427 BK442 HB; have HO_9 := n0_; have BK427 := n1_; have BK442 := n2_; have HB := n3_; have BK444 := n4_; have GW444 := n5_; have GE444 := n6_; have NB427_444 := n7_; have NB444_427 := n8_; have NB442_444 := n9_; have NB444_442 := n10_; clear n0_ n1_ n2_ n3_ n4_ n5_ n6_ n7_ n8_ n9_ n10_ hb hbox hg; have hnb35 := NB444_427.out; have hnc35 := NB427_444.out; have hnb36 := NB444_442.out; have hnc36 := NB442_444.out; obtain ⟨hcz37_0, hcz37_1, hcz37_2, hcz37_3, hcz37_4, hfz37_0, hfz37_1, hfz37_2, hfz37_3, hfz37_4⟩ := blkc5 BK444.out; have hnb38 := NB427_442.out; have hnc38 := NB442_427.out; obtain ⟨hcz39_0, hcz39_1, hcz39_2, hcz39_3, hfz39_0, hfz39_1, hfz39_2, hfz39_3⟩ := blkc4 BK427.out; obtain ⟨hcz40_0, hcz40_1, hcz40_2, hcz40_3, hcz40_4, hfz40_0, hfz40_1, hfz40_2, hfz40_3, hfz40_4⟩ := blkc5 BK442.out) | ((with_reducible refine gate_callee (f := 50) rfl ?_); refine goesL1 64 Try.func50 #[.agg #[.int .i64 ((rd_T70 l0 x35_2).f0), .int .i64 ((rd_T70 l0 x35_2).f1), .int .i64 ((rd_T70 l0 x35_2).f2), .int .i64 ((rd_T70 l0 x35_2).f3), .int .i64 ((rd_T70 l0 x35_2).f4)], .agg #[.int .i64 x443000_2, .int .i64 x443001_2, .int .i64 x443002_2, .int .i64 x443003_2, .int .i64 x443004_2]] ?_; (with_reducible refine (impl_joined.calls ((rd_T70 l0 x35_2).f0) ((rd_T70 l0 x35_2).f1) ((rd_T70 l0 x35_2).f2) ((rd_T70 l0 x35_2).f3) ((rd_T70 l0 x35_2).f4) x443000_2 x443001_2 x443002_2 x443003_2 x443004_2 t445 t446 t447 t448 t449 _ A33.out).mono ?_); rintro e w41 ⟨rfl, hb⟩; refine ⟨_, rfl, ?_⟩; have n0_ := Aside0.mk (Kd.R_below (by (with_reducible repeat (first | apply Kd.R_alloc | apply Kd.R_drewN | apply Kd.R_drew)); exact (Kd.R_mono (Kd.R_far (p := ⟨gb444, 4, none⟩) (Kd.R_far (p := ⟨gb444, 3, none⟩) (Kd.R_far (p := ⟨gb444, 2, none⟩) (Kd.R_far (p := ⟨gb444, 1, none⟩) (Kd.R_far (p := ⟨gb444, 0, none⟩) (Kd.R_mono HO_9.out (fun k_ hk => (⟨hk, hk.2⟩ : _ ∧ k_ ≠ gb444))) (fun _ hk => hk.2) (.int .i64 ((rd_T70 l0 x35_2).f0))) (fun _ hk => hk.2) (.int .i64 ((rd_T70 l0 x35_2).f1))) (fun _ hk => hk.2) (.int .i64 ((rd_T70 l0 x35_2).f2))) (fun _ hk => hk.2) (.int .i64 ((rd_T70 l0 x35_2).f3))) (fun _ hk => hk.2) (.int .i64 ((rd_T70 l0 x35_2).f4))) (fun _ h_ => h_.1))) hb); have n1_ := Aside0.mk (blk_below (g := gb427) (o := .cells #[.int .i64 a1_0, .int .i64 a1_1, .int .i64 a1_2, .int .i64 a1_3] 40 (0, 0)) (by (with_reducible repeat (first | refine blk_drewN ?_ _ | refine blk_drew ?_ | refine blk_alloc ?_ _)); refine blk_far ?_ NB427_444.out _; (with_reducible repeat (first | refine blk_drewN ?_ _ | refine blk_drew ?_ | refine blk_alloc ?_ _)); refine blk_far ?_ NB427_444.out _; (with_reducible repeat (first | refine blk_drewN ?_ _ | refine blk_drew ?_ | refine blk_alloc ?_ _)); refine blk_far ?_ NB427_444.out _; (with_reducible repeat (first | refine blk_drewN ?_ _ | refine blk_drew ?_ | refine blk_alloc ?_ _)); refine blk_far ?_ NB427_444.out _; (with_reducible repeat (first | refine blk_drewN ?_ _ | refine blk_drew ?_ | refine blk_alloc ?_ _)); refine blk_far ?_ NB427_444.out _; (with_reducible repeat (first | refine blk_drewN ?_ _ | refine blk_drew ?_ | refine blk_alloc ?_ _)); exact BK427.out) hb); have n2_ := Aside0.mk (blk_below (g := gb442) (o := .cells #[.int .i64 x443000_2, .int .i64 x443001_2, .int .i64 x443002_2, .int .i64 x443003_2, .int .i64 x443004_2] 70 (0, 0)) (by (with_reducible repeat (first | refine blk_drewN ?_ _ | refine blk_drew ?_ | refine blk_alloc ?_ _)); refine blk_far ?_ NB442_444.out _; (with_reducible repeat (first | refine blk_drewN ?_ _ | refine blk_drew ?_ | refine blk_alloc ?_ _)); refine blk_far ?_ NB442_444.out _; (with_reducible repeat (first | refine blk_drewN ?_ _ | refine blk_drew ?_ | refine blk_alloc ?_ _)); refine blk_far ?_ NB442_444.out _; (with_reducible repeat (first | refine blk_drewN ?_ _ | refine blk_drew ?_ | refine blk_alloc ?_ _)); refine blk_far ?_ NB442_444.out _; (with_reducible repeat (first | refine blk_drewN ?_ _ | refine blk_drew ?_ | refine blk_alloc ?_ _)); refine blk_far ?_ NB442_444.out _; (with_reducible repeat (first | refine blk_drewN ?_ _ | refine blk_drew ?_ | refine blk_alloc ?_ _)); exact BK442.out) hb); have n3_ := Aside0.mk (blk_below (g := gb444) (o := .cells #[.int .i64 ((rd_T70 l0 x35_2).f0), .int .i64 ((rd_T70 l0 x35_2).f1), .int .i64 ((rd_T70 l0 x35_2).f2), .int .i64 ((rd_T70 l0 x35_2).f3), .int .i64 ((rd_T70 l0 x35_2).f4)] 70 (0, 0)) (by (with_reducible repeat (first | refine blk_drewN ?_ _ | refine blk_drew ?_ | refine blk_alloc ?_ _)); refine blk_put (cs := #[.int .i64 ((rd_T70 l0 x35_2).f0), .int .i64 ((rd_T70 l0 x35_2).f1), .int .i64 ((rd_T70 l0 x35_2).f2), .int .i64 ((rd_T70 l0 x35_2).f3), .int .i64 0]) ?_ 4 _ rfl; (with_reducible repeat (first | refine blk_drewN ?_ _ | refine blk_drew ?_ | refine blk_alloc ?_ _)); refine blk_put (cs := #[.int .i64 ((rd_T70 l0 x35_2).f0), .int .i64 ((rd_T70 l0 x35_2).f1), .int .i64 ((rd_T70 l0 x35_2).f2), .int .i64 0, .int .i64 0]) ?_ 3 _ rfl; (with_reducible repeat (first | refine blk_drewN ?_ _ | refine blk_drew ?_ | refine blk_alloc ?_ _)); refine blk_put (cs := #[.int .i64 ((rd_T70 l0 x35_2).f0), .int .i64 ((rd_T70 l0 x35_2).f1), .int .i64 0, .int .i64 0, .int .i64 0]) ?_ 2 _ rfl; (with_reducible repeat (first | refine blk_drewN ?_ _ | refine blk_drew ?_ | refine blk_alloc ?_ _)); refine blk_put (cs := #[.int .i64 ((rd_T70 l0 x35_2).f0), .int .i64 0, .int .i64 0, .int .i64 0, .int .i64 0]) ?_ 1 _ rfl; (with_reducible repeat (first | refine blk_drewN ?_ _ | refine blk_drew ?_ | refine blk_alloc ?_ _)); refine blk_put (cs := #[.int .i64 0, .int .i64 0, .int .i64 0, .int .i64 0, .int .i64 0]) ?_ 0 _ rfl; (with_reducible repeat (first | refine blk_drewN ?_ _ | refine blk_drew ?_ | refine blk_alloc ?_ _)); exact BK444.out) hb); have n4_ := Aside0.mk (below_step bel hb); clear HO_9 BK427 BK442 BK444 HB; have HO_9 := n0_; have BK427 := n1_; have BK442 := n2_; have BK444 := n3_; have HB := n4_; clear n0_ n1_ n2_ n3_ n4_; (try clear hb); (try clear hb2); (try clear hk); (try clear hi); obtain ⟨hcz42_0, hcz42_1, hcz42_2, hcz42_3, hcz42_4, hfz42_0, hfz42_1, hfz42_2, hfz42_3, hfz42_4⟩ := blkc5 BK442.out))
                        go_roundg k2
                        case measure => have := HJ3.out; have := HK2.out; omega
                        case rel => exact ⟨(x9_2), (wrap64 (x35_2 + 1)), (t445), (t446), (t447), (t448), (t449), (by first | rfl | (simp; done) | (simp [*]; done)), H', ⟨by have := HJ3.out; have := HK2.out; omega⟩, ⟨by (with_reducible repeat (first | apply Kd.R_alloc | apply Kd.R_drewN | apply Kd.R_drew)); exact Kd.R_mono (Kd.R_far (p := ⟨gb442, 4, none⟩) (Kd.R_far (p := ⟨gb442, 3, none⟩) (Kd.R_far (p := ⟨gb442, 2, none⟩) (Kd.R_far (p := ⟨gb442, 1, none⟩) (Kd.R_far (p := ⟨gb442, 0, none⟩) (Kd.R_mono HO_9.out (fun k_ hk => (⟨hk, hk.1⟩ : _ ∧ k_ ≠ gb442))) (fun _ hk => hk.2) (.int .i64 t445)) (fun _ hk => hk.2) (.int .i64 t446)) (fun _ hk => hk.2) (.int .i64 t447)) (fun _ hk => hk.2) (.int .i64 t448)) (fun _ hk => hk.2) (.int .i64 t449)) (fun _ hk => hk.1.1)⟩, ⟨by (with_reducible repeat (first | refine blk_drewN ?_ _ | refine blk_drew ?_ | refine blk_alloc ?_ _)); refine blk_far ?_ NB427_442.out _; (with_reducible repeat (first | refine blk_drewN ?_ _ | refine blk_drew ?_ | refine blk_alloc ?_ _)); refine blk_far ?_ NB427_442.out _; (with_reducible repeat (first | refine blk_drewN ?_ _ | refine blk_drew ?_ | refine blk_alloc ?_ _)); refine blk_far ?_ NB427_442.out _; (with_reducible repeat (first | refine blk_drewN ?_ _ | refine blk_drew ?_ | refine blk_alloc ?_ _)); refine blk_far ?_ NB427_442.out _; (with_reducible repeat (first | refine blk_drewN ?_ _ | refine blk_drew ?_ | refine blk_alloc ?_ _)); refine blk_far ?_ NB427_442.out _; (with_reducible repeat (first | refine blk_drewN ?_ _ | refine blk_drew ?_ | refine blk_alloc ?_ _)); exact BK427.out⟩, ⟨by (with_reducible repeat (first | refine blk_drewN ?_ _ | refine blk_drew ?_ | refine blk_alloc ?_ _)); refine blk_put (cs := #[.int .i64 t445, .int .i64 t446, .int .i64 t447, .int .i64 t448, .int .i64 x443004_2]) ?_ 4 _ rfl; (with_reducible repeat (first | refine blk_drewN ?_ _ | refine blk_drew ?_ | refine blk_alloc ?_ _)); refine blk_put (cs := #[.int .i64 t445, .int .i64 t446, .int .i64 t447, .int .i64 x443003_2, .int .i64 x443004_2]) ?_ 3 _ rfl; (with_reducible repeat (first | refine blk_drewN ?_ _ | refine blk_drew ?_ | refine blk_alloc ?_ _)); refine blk_put (cs := #[.int .i64 t445, .int .i64 t446, .int .i64 x443002_2, .int .i64 x443003_2, .int .i64 x443004_2]) ?_ 2 _ rfl; (with_reducible repeat (first | refine blk_drewN ?_ _ | refine blk_drew ?_ | refine blk_alloc ?_ _)); refine blk_put (cs := #[.int .i64 t445, .int .i64 x443001_2, .int .i64 x443002_2, .int .i64 x443003_2, .int .i64 x443004_2]) ?_ 1 _ rfl; (with_reducible repeat (first | refine blk_drewN ?_ _ | refine blk_drew ?_ | refine blk_alloc ?_ _)); refine blk_put (cs := #[.int .i64 x443000_2, .int .i64 x443001_2, .int .i64 x443002_2, .int .i64 x443003_2, .int .i64 x443004_2]) ?_ 0 _ rfl; (with_reducible repeat (first | refine blk_drewN ?_ _ | refine blk_drew ?_ | refine blk_alloc ?_ _)); exact BK442.out⟩, ⟨by repeat (first | (with_reducible first | exact HB.out | apply below_alloc | apply pw_below_drewN | apply below_drew1 | refine below_set ?_ GE427.out | refine below_set ?_ GE442.out | refine below_set ?_ GE444.out) | exact HB.out)⟩⟩
                      · rw [if_neg c32] at H
                        have c32b0 : decide (a1_2 ≤ (wrap64 (((rd_T70 l0 x35_2).f2) + a2))) = false := decide_eq_false c32
                        clear c32
                        by_cases c43 : x9_2.length < 3518437208883
                        · rw [if_pos c43] at H
                          have LMc43 := Aside0.mk c43
                          clear c43
                          obtain ⟨y450, hy450⟩ : ∃ y_ : List (S70), y_ = (x9_2 ++ [(⟨(rd_T70 l0 x35_2).f0, (rd_T70 l0 x35_2).f1, (rd_T70 l0 x35_2).f2, (rd_T70 l0 x35_2).f3, (rd_T70 l0 x35_2).f4⟩ : S70)]) := ⟨_, rfl⟩
                          replace H : (impl_AddToSessions.l0 k2 l0 a2 y450 l0 (l0.length : Int) (wrap64 (x35_2 + 1)) a1_0 a1_1 a1_2 a1_3 x443000_2 x443001_2 x443002_2 x443003_2 x443004_2) = some (r1, r2) := by first | (rw [hy450]; with_reducible exact H) | (have H2_ := (Option.bind_some _ _).symm.trans H; rw [hy450]; with_reducible exact H2_) | (have H2_ := (Option.bind_some _ _).symm.trans H; with_reducible exact H2_) | with_reducible exact H | (rw [hy450]; exact H) | exact H
                          have Ny450 := Aside0.mk hy450
                          clear hy450
                          have H' := Aside0.mk H
                          clear H
                          have p443 : 0 ≤ (x35_2 : Int) := of_decide_eq_true (by first | (with_reducible assumption) | assumption)
                          have q443 : x35_2 < (l0.length : Int) := of_decide_eq_true (by first | (with_reducible assumption) | assumption)
                          obtain ⟨ad443, e443, hx443_0, hx443_1, hx443_2, hx443_3, hx443_4⟩ := at_T70 HR0.out x35_2 p443 q443
                          cases e443
                          replace hx443_0 := (HB.out.cell (World.block_lt_of_cell? w _ hx443_0)).trans hx443_0
                          replace hx443_1 := (HB.out.cell (World.block_lt_of_cell? w _ hx443_1)).trans hx443_1
                          replace hx443_2 := (HB.out.cell (World.block_lt_of_cell? w _ hx443_2)).trans hx443_2
                          replace hx443_3 := (HB.out.cell (World.block_lt_of_cell? w _ hx443_3)).trans hx443_3
                          replace hx443_4 := (HB.out.cell (World.block_lt_of_cell? w _ hx443_4)).trans hx443_4
                          replace p443 := eq_true p443
                          replace q443 := eq_true q443
                          go_wp2_with (first | ((with_reducible refine gate_dst (N := 11) rfl ?_); refine box_event ?hg (N := 11) ?hd (cs := #[.int .i64 0, .int .i64 0, .int .i64 0, .int .i64 0, .int .i64 0]) (t := 70) ?hr ?_; (case hd => rfl); (case hg => rfl); (case hr => first | (go_simp; done) | (go_simp; rfl)); intro gb444 hg w44 hbox hb; have n0_ := Aside0.mk (Kd.R_below (Kd.R_elderB (by (with_reducible repeat (first | apply Kd.R_alloc | apply Kd.R_drewN | apply Kd.R_drew)); exact HO_9.out) gb444 (Nat.le_of_eq hg.symm)) hb); have n1_ := Aside0.mk (blk_below (g := gb427) (o := .cells #[.int .i64 a1_0, .int .i64 a1_1, .int .i64 a1_2, .int .i64 a1_3] 40 (0, 0)) (blkq BK427.out) hb); have n2_ := Aside0.mk (blk_below (g := gb442) (o := .cells #[.int .i64 x443000_2, .int .i64 x443001_2, .int .i64 x443002_2, .int .i64 x443003_2, .int .i64 x443004_2] 70 (0, 0)) (blkq BK442.out) hb); have n3_ := Aside0.mk (below_step bel hb); have n4_ := Aside0.mk (hbox); have n5_ := Aside0.mk ((by rw [hg]; exact (below_size bel) : w.heap.size ≤ gb444)); have n6_ := Aside0.mk ((by rw [hg]; exact (below_size bel) : w.heap.size ≤ gb444)); have n7_ := Aside0.mk ((by rw [hg]; exact Nat.ne_of_lt (blk_lt (g := gb427) (o := .cells #[.int .i64 a1_0, .int .i64 a1_1, .int .i64 a1_2, .int .i64 a1_3] 40 (0, 0)) (blkq BK427.out)) : gb427 ≠ gb444)); have n8_ := Aside0.mk ((by rw [hg]; exact Nat.ne_of_gt (blk_lt (g := gb427) (o := .cells #[.int .i64 a1_0, .int .i64 a1_1, .int .i64 a1_2, .int .i64 a1_3] 40 (0, 0)) (blkq BK427.out)) : gb444 ≠ gb427)); have n9_ := Aside0.mk ((by rw [hg]; exact Nat.ne_of_lt (blk_lt (g := gb442) (o := .cells #[.int .i64 x443000_2, .int .i64 x443001_2, .int .i64 x443002_2, .int .i64 x443003_2, .int .i64 x443004_2] 70 (0, 0)) (blkq BK442.out)) : gb442 ≠ gb444)); have n10_ := Aside0.mk ((by rw [hg]; exact Nat.ne_of_gt (blk_lt (g := gb442) (o := .cells #[.int .i64 x443000_2, .int .i64 x443001_2, .int .i64 x443002_2, .int .i64 x443003_2, .int .i64 x443004_2] 70 (0, 0)) (blkq BK442.out)) : gb444 ≠ gb442)); clear HO_9 BK427 BK442 HB; have HO_9 := n0_; have BK427 := n1_; have BK442 := n2_; have HB := n3_; have BK444 := n4_; have GW444 := n5_; have GE444 := n6_; have NB427_444 := n7_; have NB444_427 := n8_; have NB442_444 := n9_; have NB444_442 := n10_; clear n0_ n1_ n2_ n3_ n4_ n5_ n6_ n7_ n8_ n9_ n10_ hb hbox hg; have hnb45 := NB444_427.out; have hnc45 := NB427_444.out; have hnb46 := NB444_442.out; have hnc46 := NB442_444.out; obtain ⟨hcz47_0, hcz47_1, hcz47_2, hcz47_3, hcz47_4, hfz47_0, hfz47_1, hfz47_2, hfz47_3, hfz47_4⟩ := blkc5 BK444.out; have hnb48 := NB427_442.out; have hnc48 := NB442_427.out; obtain ⟨hcz49_0, hcz49_1, hcz49_2, hcz49_3, hfz49_0, hfz49_1, hfz49_2, hfz49_3⟩ := blkc4 BK427.out) | ((with_reducible refine gate_builtin (b := .append) (xs := #[.tmp 65, .tmp 67]) rfl ?_); at_builtin; refine Kd.R_append k70 (w0 := w) w.heap.size rfl (.tmp 65) (.tmp 67) 24 70 (.agg #[(.int .i64 0), (.int .i64 0), (.int .i64 0), (.int .i64 0), (.int .i64 0)]) 40 rfl Try.underlying24 info70 rfl (by decide) (by omega) u9 x9_2 (⟨(rd_T70 l0 x35_2).f0, (rd_T70 l0 x35_2).f1, (rd_T70 l0 x35_2).f2, (rd_T70 l0 x35_2).f3, (rd_T70 l0 x35_2).f4⟩ : S70) [.int .i64 ((rd_T70 l0 x35_2).f0), .int .i64 ((rd_T70 l0 x35_2).f1), .int .i64 ((rd_T70 l0 x35_2).f2), .int .i64 ((rd_T70 l0 x35_2).f3), .int .i64 ((rd_T70 l0 x35_2).f4)] (fun k_ => k_ ≠ gb442 ∧ k_ ≠ gb444) (fun _ => False) rfl (by first | (go_simp; done) | (go_simp; rfl)) ?aP (fun _ hk => hk.elim) ?aF ?aO ?aB ?aS ?aL ?_; (case aP => exact k70_mkM _ _ _ (⟨(rd_T70 l0 x35_2).f0, (rd_T70 l0 x35_2).f1, (rd_T70 l0 x35_2).f2, (rd_T70 l0 x35_2).f3, (rd_T70 l0 x35_2).f4⟩ : S70)); (case aB => exact bel); (case aF => exact (fun k_ hk => ⟨Kd.freshB (g := gb442) (o := .cells #[.int .i64 x443000_2, .int .i64 x443001_2, .int .i64 x443002_2, .int .i64 x443003_2, .int .i64 x443004_2] 70 (0, 0)) (by (with_reducible repeat (first | refine blk_drewN ?_ _ | refine blk_drew ?_ | refine blk_alloc ?_ _)); refine blk_far ?_ NB442_444.out _; (with_reducible repeat (first | refine blk_drewN ?_ _ | refine blk_drew ?_ | refine blk_alloc ?_ _)); refine blk_far ?_ NB442_444.out _; (with_reducible repeat (first | refine blk_drewN ?_ _ | refine blk_drew ?_ | refine blk_alloc ?_ _)); refine blk_far ?_ NB442_444.out _; (with_reducible repeat (first | refine blk_drewN ?_ _ | refine blk_drew ?_ | refine blk_alloc ?_ _)); refine blk_far ?_ NB442_444.out _; (with_reducible repeat (first | refine blk_drewN ?_ _ | refine blk_drew ?_ | refine blk_alloc ?_ _)); refine blk_far ?_ NB442_444.out _; (with_reducible repeat (first | refine blk_drewN ?_ _ | refine blk_drew ?_ | refine blk_alloc ?_ _)); exact BK442.out) k_ hk, Kd.freshB (g := gb444) (o := .cells #[.int .i64 ((rd_T70 l0 x35_2).f0), .int .i64 ((rd_T70 l0 x35_2).f1), .int .i64 ((rd_T70 l0 x35_2).f2), .int .i64 ((rd_T70 l0 x35_2).f3), .int .i64 ((rd_T70 l0 x35_2).f4)] 70 (0, 0)) (by (with_reducible repeat (first | refine blk_drewN ?_ _ | refine blk_drew ?_ | refine blk_alloc ?_ _)); refine blk_put (cs := #[.int .i64 ((rd_T70 l0 x35_2).f0), .int .i64 ((rd_T70 l0 x35_2).f1), .int .i64 ((rd_T70 l0 x35_2).f2), .int .i64 ((rd_T70 l0 x35_2).f3), .int .i64 0]) ?_ 4 _ rfl; (with_reducible repeat (first | refine blk_drewN ?_ _ | refine blk_drew ?_ | refine blk_alloc ?_ _)); refine blk_put (cs := #[.int .i64 ((rd_T70 l0 x35_2).f0), .int .i64 ((rd_T70 l0 x35_2).f1), .int .i64 ((rd_T70 l0 x35_2).f2), .int .i64 0, .int .i64 0]) ?_ 3 _ rfl; (with_reducible repeat (first | refine blk_drewN ?_ _ | refine blk_drew ?_ | refine blk_alloc ?_ _)); refine blk_put (cs := #[.int .i64 ((rd_T70 l0 x35_2).f0), .int .i64 ((rd_T70 l0 x35_2).f1), .int .i64 0, .int .i64 0, .int .i64 0]) ?_ 2 _ rfl; (with_reducible repeat (first | refine blk_drewN ?_ _ | refine blk_drew ?_ | refine blk_alloc ?_ _)); refine blk_put (cs := #[.int .i64 ((rd_T70 l0 x35_2).f0), .int .i64 0, .int .i64 0, .int .i64 0, .int .i64 0]) ?_ 1 _ rfl; (with_reducible repeat (first | refine blk_drewN ?_ _ | refine blk_drew ?_ | refine blk_alloc ?_ _)); refine blk_put (cs := #[.int .i64 0, .int .i64 0, .int .i64 0, .int .i64 0, .int .i64 0]) ?_ 0 _ rfl; (with_reducible repeat (first | refine blk_drewN ?_ _ | refine blk_drew ?_ | refine blk_alloc ?_ _)); exact BK444.out) k_ hk⟩)); (case aO => exact (by (with_reducible repeat (first | apply Kd.R_alloc | apply Kd.R_drewN | apply Kd.R_drew)); exact Kd.R_mono (Kd.R_far (p := ⟨gb444, 4, none⟩) (Kd.R_far (p := ⟨gb444, 3, none⟩) (Kd.R_far (p := ⟨gb444, 2, none⟩) (Kd.R_far (p := ⟨gb444, 1, none⟩) (Kd.R_far (p := ⟨gb444, 0, none⟩) (Kd.R_mono HO_9.out (fun k_ hk => (⟨hk, hk.2⟩ : _ ∧ k_ ≠ gb444))) (fun _ hk => hk.2) (.int .i64 ((rd_T70 l0 x35_2).f0))) (fun _ hk => hk.2) (.int .i64 ((rd_T70 l0 x35_2).f1))) (fun _ hk => hk.2) (.int .i64 ((rd_T70 l0 x35_2).f2))) (fun _ hk => hk.2) (.int .i64 ((rd_T70 l0 x35_2).f3))) (fun _ hk => hk.2) (.int .i64 ((rd_T70 l0 x35_2).f4))) (fun _ hk => ⟨hk.1.1, hk.1.2⟩))); (case aS => exact (below_size bel)); (case aL => have := LMc43.out; omega); intro v451 w50 ho hb hg hat; rw [← Ny450.out] at ho; have n0_ := Aside0.mk (blk_grown (g := gb427) (o := .cells #[.int .i64 a1_0, .int .i64 a1_1, .int .i64 a1_2, .int .i64 a1_3] 40 (0, 0)) (by (with_reducible repeat (first | refine blk_drewN ?_ _ | refine blk_drew ?_ | refine blk_alloc ?_ _)); refine blk_far ?_ NB427_444.out _; (with_reducible repeat (first | refine blk_drewN ?_ _ | refine blk_drew ?_ | refine blk_alloc ?_ _)); refine blk_far ?_ NB427_444.out _; (with_reducible repeat (first | refine blk_drewN ?_ _ | refine blk_drew ?_ | refine blk_alloc ?_ _)); refine blk_far ?_ NB427_444.out _; (with_reducible repeat (first | refine blk_drewN ?_ _ | refine blk_drew ?_ | refine blk_alloc ?_ _)); refine blk_far ?_ NB427_444.out _; (with_reducible repeat (first | refine blk_drewN ?_ _ | refine blk_drew ?_ | refine blk_alloc ?_ _)); refine blk_far ?_ NB427_444.out _; (with_reducible repeat (first | refine blk_drewN ?_ _ | refine blk_drew ?_ | refine blk_alloc ?_ _)); exact BK427.out) hg (Kd.R_ne HO_9.out BK427.out (by decide))); have n1_ := Aside0.mk (blk_grown (g := gb442) (o := .cells #[.int .i64 x443000_2, .int .i64 x443001_2, .int .i64 x443002_2, .int .i64 x443003_2, .int .i64 x443004_2] 70 (0, 0)) (by (with_reducible repeat (first | refine blk_drewN ?_ _ | refine blk_drew ?_ | refine blk_alloc ?_ _)); refine blk_far ?_ NB442_444.out _; (with_reducible repeat (first | refine blk_drewN ?_ _ | refine blk_drew ?_ | refine blk_alloc ?_ _)); refine blk_far ?_ NB442_444.out _; (with_reducible repeat (first | refine blk_drewN ?_ _ | refine blk_drew ?_ | refine blk_alloc ?_ _)); refine blk_far ?_ NB442_444.out _; (with_reducible repeat (first | refine blk_drewN ?_ _ | refine blk_drew ?_ | refine blk_alloc ?_ _)); refine blk_far ?_ NB442_444.out _; (with_reducible repeat (first | refine blk_drewN ?_ _ | refine blk_drew ?_ | refine blk_alloc ?_ _)); refine blk_far ?_ NB442_444.out _; (with_reducible repeat (first | refine blk_drewN ?_ _ | refine blk_drew ?_ | refine blk_alloc ?_ _)); exact BK442.out) hg (Kd.R_away HO_9.out (fun _ hk => hk.1))); have n2_ := Aside0.mk (blk_grown (g := gb444) (o := .cells #[.int .i64 ((rd_T70 l0 x35_2).f0), .int .i64 ((rd_T70 l0 x35_2).f1), .int .i64 ((rd_T70 l0 x35_2).f2), .int .i64 ((rd_T70 l0 x35_2).f3), .int .i64 ((rd_T70 l0 x35_2).f4)] 70 (0, 0)) (by (with_reducible repeat (first | refine blk_drewN ?_ _ | refine blk_drew ?_ | refine blk_alloc ?_ _)); refine blk_put (cs := #[.int .i64 ((rd_T70 l0 x35_2).f0), .int .i64 ((rd_T70 l0 x35_2).f1), .int .i64 ((rd_T70 l0 x35_2).f2), .int .i64 ((rd_T70 l0 x35_2).f3), .int .i64 0]) ?_ 4 _ rfl; (with_reducible repeat (first | refine blk_drewN ?_ _ | refine blk_drew ?_ | refine blk_alloc ?_ _)); refine blk_put (cs := #[.int .i64 ((rd_T70 l0 x35_2).f0), .int .i64 ((rd_T70 l0 x35_2).f1), .int .i64 ((rd_T70 l0 x35_2).f2), .int .i64 0, .int .i64 0]) ?_ 3 _ rfl; (with_reducible repeat (first | refine blk_drewN ?_ _ | refine blk_drew ?_ | refine blk_alloc ?_ _)); refine blk_put (cs := #[.int .i64 ((rd_T70 l0 x35_2).f0), .int .i64 ((rd_T70 l0 x35_2).f1), .int .i64 0, .int .i64 0, .int .i64 0]) ?_ 2 _ rfl; (with_reducible repeat (first | refine blk_drewN ?_ _ | refine blk_drew ?_ | refine blk_alloc ?_ _)); refine blk_put (cs := #[.int .i64 ((rd_T70 l0 x35_2).f0), .int .i64 0, .int .i64 0, .int .i64 0, .int .i64 0]) ?_ 1 _ rfl; (with_reducible repeat (first | refine blk_drewN ?_ _ | refine blk_drew ?_ | refine blk_alloc ?_ _)); refine blk_put (cs := #[.int .i64 0, .int .i64 0, .int .i64 0, .int .i64 0, .int .i64 0]) ?_ 0 _ rfl; (with_reducible repeat (first | refine blk_drewN ?_ _ | refine blk_drew ?_ | refine blk_alloc ?_ _)); exact BK444.out) hg (Kd.R_away HO_9.out (fun _ hk => hk.2))); have n3_ := Aside0.mk (hb); have n4_ := Aside0.mk (ho); clear BK427 BK442 BK444 HB HO_9; have BK427 := n0_; have BK442 := n1_; have BK444 := n2_; have HB := n3_; have HO452 := n4_; clear n0_ n1_ n2_ n3_ n4_; clear ho hb hg hat))
                          go_roundg k2
                          case measure => have := HJ3.out; have := HK2.out; omega
                          case rel => exact ⟨(y450), (wrap64 (x35_2 + 1)), (x443000_2), (x443001_2), (x443002_2), (x443003_2), (x443004_2), (by first | rfl | (simp; done) | (simp [*]; done)), H', ⟨by have := HJ3.out; have := HK2.out; omega⟩, ⟨by (with_reducible repeat (first | apply Kd.R_alloc | apply Kd.R_drewN | apply Kd.R_drew)); exact Kd.R_mono HO452.out (fun _ hk => hk.1)⟩, ⟨by (with_reducible repeat (first | refine blk_drewN ?_ _ | refine blk_drew ?_ | refine blk_alloc ?_ _)); exact BK427.out⟩, ⟨by (with_reducible repeat (first | refine blk_drewN ?_ _ | refine blk_drew ?_ | refine blk_alloc ?_ _)); exact BK442.out⟩, ⟨by repeat (first | (with_reducible first | exact HB.out | apply below_alloc | apply pw_below_drewN | apply below_drew1 | refine below_set ?_ GE427.out | refine below_set ?_ GE442.out | refine below_set ?_ GE444.out) | exact HB.out)⟩⟩
                        · rw [if_neg c43] at H
                          exact absurd H (by simp)
                    · rw [if_neg c31] at H
                      have c31b0 : decide ((wrap64 (((rd_T70 l0 x35_2).f1) - a2)) ≤ a1_2) = false := decide_eq_false c31
                      clear c31
                      by_cases c51 : x9_2.length < 3518437208883
                      · rw [if_pos c51] at H
                        have LMc51 := Aside0.mk c51
                        clear c51
                        obtain ⟨y453, hy453⟩ : ∃ y_ : List (S70), y_ = (x9_2 ++ [(⟨(rd_T70 l0 x35_2).f0, (rd_T70 l0 x35_2).f1, (rd_T70 l0 x35_2).f2, (rd_T70 l0 x35_2).f3, (rd_T70 l0 x35_2).f4⟩ : S70)]) := ⟨_, rfl⟩
                        replace H : (impl_AddToSessions.l0 k2 l0 a2 y453 l0 (l0.length : Int) (wrap64 (x35_2 + 1)) a1_0 a1_1 a1_2 a1_3 x443000_2 x443001_2 x443002_2 x443003_2 x443004_2) = some (r1, r2) := by first | (rw [hy453]; with_reducible exact H) | (have H2_ := (Option.bind_some _ _).symm.trans H; rw [hy453]; with_reducible exact H2_) | (have H2_ := (Option.bind_some _ _).symm.trans H; with_reducible exact H2_) | with_reducible exact H | (rw [hy453]; exact H) | exact H
                        have Ny453 := Aside0.mk hy453
                        clear hy453
                        have H' := Aside0.mk H
                        clear H
                        have p443 : 0 ≤ (x35_2 : Int) := of_decide_eq_true (by first | (with_reducible assumption) | assumption)
                        have q443 : x35_2 < (l0.length : Int) := of_decide_eq_true (by first | (with_reducible assumption) | assumption)
                        obtain ⟨ad443, e443, hx443_0, hx443_1, hx443_2, hx443_3, hx443_4⟩ := at_T70 HR0.out x35_2 p443 q443
                        cases e443
                        replace hx443_0 := (HB.out.cell (World.block_lt_of_cell? w _ hx443_0)).trans hx443_0
                        replace hx443_1 := (HB.out.cell (World.block_lt_of_cell? w _ hx443_1)).trans hx443_1
                        replace hx443_2 := (HB.out.cell (World.block_lt_of_cell? w _ hx443_2)).trans hx443_2
                        replace hx443_3 := (HB.out.cell (World.block_lt_of_cell? w _ hx443_3)).trans hx443_3
                        replace hx443_4 := (HB.out.cell (World.block_lt_of_cell? w _ hx443_4)).trans hx443_4
                        replace p443 := eq_true p443
                        replace q443 := eq_true q443
                        go_wp2_with (first | ((with_reducible refine gate_dst (N := 11) rfl ?_); refine box_event ?hg (N := 11) ?hd (cs := #[.int .i64 0, .int .i64 0, .int .i64 0, .int .i64 0, .int .i64 0]) (t := 70) ?hr ?_; (case hd => rfl); (case hg => rfl); (case hr => first | (go_simp; done) | (go_simp; rfl)); intro gb444 hg w52 hbox hb; have n0_ := Aside0.mk (Kd.R_below (Kd.R_elderB (by (with_reducible repeat (first | apply Kd.R_alloc | apply Kd.R_drewN | apply Kd.R_drew)); exact HO_9.out) gb444 (Nat.le_of_eq hg.symm)) hb); have n1_ := Aside0.mk (blk_below (g := gb427) (o := .cells #[.int .i64 a1_0, .int .i64 a1_1, .int .i64 a1_2, .int .i64 a1_3] 40 (0, 0)) (blkq BK427.out) hb); have n2_ := Aside0.mk (blk_below (g := gb442) (o := .cells #[.int .i64 x443000_2, .int .i64 x443001_2, .int .i64 x443002_2, .int .i64 x443003_2, .int .i64 x443004_2] 70 (0, 0)) (blkq BK442.out) hb); have n3_ := Aside0.mk (below_step bel hb); have n4_ := Aside0.mk (hbox); have n5_ := Aside0.mk ((by rw [hg]; exact (below_size bel) : w.heap.size ≤ gb444)); have n6_ := Aside0.mk ((by rw [hg]; exact (below_size bel) : w.heap.size ≤ gb444)); have n7_ := Aside0.mk ((by rw [hg]; exact Nat.ne_of_lt (blk_lt (g := gb427) (o := .cells #[.int .i64 a1_0, .int .i64 a1_1, .int .i64 a1_2, .int .i64 a1_3] 40 (0, 0)) (blkq BK427.out)) : gb427 ≠ gb444)); have n8_ := Aside0.mk ((by rw [hg]; exact Nat.ne_of_gt (blk_lt (g := gb427) (o := .cells #[.int .i64 a1_0, .int .i64 a1_1, .int .i64 a1_2, .int .i64 a1_3] 40 (0, 0)) (blkq BK427.out)) : gb444 ≠ gb427)); have n9_ := Aside0.mk ((by rw [hg]; exact Nat.ne_of_lt (blk_lt (g := gb442) (o := .cells #[.int .i64 x443000_2, .int .i64 x443001_2, .int .i64 x443002_2, .int .i64 x443003_2, .int .i64 x443004_2] 70 (0, 0)) (blkq BK442.out)) : gb442 ≠ gb444)); have n10_ := Aside0.mk ((by rw [hg]; exact Nat.ne_of_gt (blk_lt (g := gb442) (o := .cells #[.int .i64 x443000_2, .int .i64 x443001_2, .int .i64 x443002_2, .int .i64 x443003_2, .int .i64 x443004_2] 70 (0, 0)) (blkq BK442.out)) : gb444 ≠ gb442)); clear HO_9 BK427 BK442 HB; have HO_9 := n0_; have BK427 := n1_; have BK442 := n2_; have HB := n3_; have BK444 := n4_; have GW444 := n5_; have GE444 := n6_; have NB427_444 := n7_; have NB444_427 := n8_; have NB442_444 := n9_; have NB444_442 := n10_; clear n0_ n1_ n2_ n3_ n4_ n5_ n6_ n7_ n8_ n9_ n10_ hb hbox hg; have hnb53 := NB444_427.out; have hnc53 := NB427_444.out; have hnb54 := NB444_442.out; have hnc54 := NB442_444.out; obtain ⟨hcz55_0, hcz55_1, hcz55_2, hcz55_3, hcz55_4, hfz55_0, hfz55_1, hfz55_2, hfz55_3, hfz55_4⟩ := blkc5 BK444.out; have hnb56 := NB427_442.out; have hnc56 := NB442_427.out; obtain ⟨hcz57_0, hcz57_1, hcz57_2, hcz57_3, hfz57_0, hfz57_1, hfz57_2, hfz57_3⟩ := blkc4 BK427.out) | ((with_reducible refine gate_builtin (b := .append) (xs := #[.tmp 65, .tmp 67]) rfl ?_); at_builtin; refine Kd.R_append k70 (w0 := w) w.heap.size rfl (.tmp 65) (.tmp 67) 24 70 (.agg #[(.int .i64 0), (.int .i64 0), (.int .i64 0), (.int .i64 0), (.int .i64 0)]) 40 rfl Try.underlying24 info70 rfl (by decide) (by omega) u9 x9_2 (⟨(rd_T70 l0 x35_2).f0, (rd_T70 l0 x35_2).f1, (rd_T70 l0 x35_2).f2, (rd_T70 l0 x35_2).f3, (rd_T70 l0 x35_2).f4⟩ : S70) [.int .i64 ((rd_T70 l0 x35_2).f0), .int .i64 ((rd_T70 l0 x35_2).f1), .int .i64 ((rd_T70 l0 x35_2).f2), .int .i64 ((rd_T70 l0 x35_2).f3), .int .i64 ((rd_T70 l0 x35_2).f4)] (fun k_ => k_ ≠ gb442 ∧ k_ ≠ gb444) (fun _ => False) rfl (by first | (go_simp; done) | (go_simp; rfl)) ?aP (fun _ hk => hk.elim) ?aF ?aO ?aB ?aS ?aL ?_; (case aP => exact k70_mkM _ _ _ (⟨(rd_T70 l0 x35_2).f0, (rd_T70 l0 x35_2).f1, (rd_T70 l0 x35_2).f2, (rd_T70 l0 x35_2).f3, (rd_T70 l0 x35_2).f4⟩ : S70)); (case aB => exact bel); (case aF => exact (fun k_ hk => ⟨Kd.freshB (g := gb442) (o := .cells #[.int .i64 x443000_2, .int .i64 x443001_2, .int .i64 x443002_2, .int .i64 x443003_2, .int .i64 x443004_2] 70 (0, 0)) (by (with_reducible repeat (first | refine blk_drewN ?_ _ | refine blk_drew ?_ | refine blk_alloc ?_ _)); refine blk_far ?_ NB442_444.out _; (with_reducible repeat (first | refine blk_drewN ?_ _ | refine blk_drew ?_ | refine blk_alloc ?_ _)); refine blk_far ?_ NB442_444.out _; (with_reducible repeat (first | refine blk_drewN ?_ _ | refine blk_drew ?_ | refine blk_alloc ?_ _)); refine blk_far ?_ NB442_444.out _; (with_reducible repeat (first | refine blk_drewN ?_ _ | refine blk_drew ?_ | refine blk_alloc ?_ _)); refine blk_far ?_ NB442_444.out _; (with_reducible repeat (first | refine blk_drewN ?_ _ | refine blk_drew ?_ | refine blk_alloc ?_ _)); refine blk_far ?_ NB442_444.out _; (with_reducible repeat (first | refine blk_drewN ?_ _ | refine blk_drew ?_ | refine blk_alloc ?_ _)); exact BK442.out) k_ hk, Kd.freshB (g := gb444) (o := .cells #[.int .i64 ((rd_T70 l0 x35_2).f0), .int .i64 ((rd_T70 l0 x35_2).f1), .int .i64 ((rd_T70 l0 x35_2).f2), .int .i64 ((rd_T70 l0 x35_2).f3), .int .i64 ((rd_T70 l0 x35_2).f4)] 70 (0, 0)) (by (with_reducible repeat (first | refine blk_drewN ?_ _ | refine blk_drew ?_ | refine blk_alloc ?_ _)); refine blk_put (cs := #[.int .i64 ((rd_T70 l0 x35_2).f0), .int .i64 ((rd_T70 l0 x35_2).f1), .int .i64 ((rd_T70 l0 x35_2).f2), .int .i64 ((rd_T70 l0 x35_2).f3), .int .i64 0]) ?_ 4 _ rfl; (with_reducible repeat (first | refine blk_drewN ?_ _ | refine blk_drew ?_ | refine blk_alloc ?_ _)); refine blk_put (cs := #[.int .i64 ((rd_T70 l0 x35_2).f0), .int .i64 ((rd_T70 l0 x35_2).f1), .int .i64 ((rd_T70 l0 x35_2).f2), .int .i64 0, .int .i64 0]) ?_ 3 _ rfl; (with_reducible repeat (first | refine blk_drewN ?_ _ | refine blk_drew ?_ | refine blk_alloc ?_ _)); refine blk_put (cs := #[.int .i64 ((rd_T70 l0 x35_2).f0), .int .i64 ((rd_T70 l0 x35_2).f1), .int .i64 0, .int .i64 0, .int .i64 0]) ?_ 2 _ rfl; (with_reducible repeat (first | refine blk_drewN ?_ _ | refine blk_drew ?_ | refine blk_alloc ?_ _)); refine blk_put (cs := #[.int .i64 ((rd_T70 l0 x35_2).f0), .int .i64 0, .int .i64 0, .int .i64 0, .int .i64 0]) ?_ 1 _ rfl; (with_reducible repeat (first | refine blk_drewN ?_ _ | refine blk_drew ?_ | refine blk_alloc ?_ _)); refine blk_put (cs := #[.int .i64 0, .int .i64 0, .int .i64 0, .int .i64 0, .int .i64 0]) ?_ 0 _ rfl; (with_reducible repeat (first | refine blk_drewN ?_ _ | refine blk_drew ?_ | refine blk_alloc ?_ _)); exact BK444.out) k_ hk⟩)); (case aO => exact (by (with_reducible repeat (first | apply Kd.R_alloc | apply Kd.R_drewN | apply Kd.R_drew)); exact Kd.R_mono (Kd.R_far (p := ⟨gb444, 4, none⟩) (Kd.R_far (p := ⟨gb444, 3, none⟩) (Kd.R_far (p := ⟨gb444, 2, none⟩) (Kd.R_far (p := ⟨gb444, 1, none⟩) (Kd.R_far (p := ⟨gb444, 0, none⟩) (Kd.R_mono HO_9.out (fun k_ hk => (⟨hk, hk.2⟩ : _ ∧ k_ ≠ gb444))) (fun _ hk => hk.2) (.int .i64 ((rd_T70 l0 x35_2).f0))) (fun _ hk => hk.2) (.int .i64 ((rd_T70 l0 x35_2).f1))) (fun _ hk => hk.2) (.int .i64 ((rd_T70 l0 x35_2).f2))) (fun _ hk => hk.2) (.int .i64 ((rd_T70 l0 x35_2).f3))) (fun _ hk => hk.2) (.int .i64 ((rd_T70 l0 x35_2).f4))) (fun _ hk => ⟨hk.1.1, hk.1.2⟩))); (case aS => exact (below_size bel)); (case aL => have := LMc51.out; omega); intro v454 w58 ho hb hg hat; rw [← Ny453.out] at ho; have n0_ := Aside0.mk (blk_grown (g := gb427) (o := .cells #[.int .i64 a1_0, .int .i64 a1_1, .int .i64 a1_2, .int .i64 a1_3] 40 (0, 0)) (by (with_reducible repeat (first | refine blk_drewN ?_ _ | refine blk_drew ?_ | refine blk_alloc ?_ _)); refine blk_far ?_ NB427_444.out _; (with_reducible repeat (first | refine blk_drewN ?_ _ | refine blk_drew ?_ | refine blk_alloc ?_ _)); refine blk_far ?_ NB427_444.out _; (with_reducible repeat (first | refine blk_drewN ?_ _ | refine blk_drew ?_ | refine blk_alloc ?_ _)); refine blk_far ?_ NB427_444.out _; (with_reducible repeat (first | refine blk_drewN ?_ _ | refine blk_drew ?_ | refine blk_alloc ?_ _)); refine blk_far ?_ NB427_444.out _; (with_reducible repeat (first | refine blk_drewN ?_ _ | refine blk_drew ?_ | refine blk_alloc ?_ _)); refine blk_far ?_ NB427_444.out _; (with_reducible repeat (first | refine blk_drewN ?_ _ | refine blk_drew ?_ | refine blk_alloc ?_ _)); exact BK427.out) hg (Kd.R_ne HO_9.out BK427.out (by decide))); have n1_ := Aside0.mk (blk_grown (g := gb442) (o := .cells #[.int .i64 x443000_2, .int .i64 x443001_2, .int .i64 x443002_2, .int .i64 x443003_2, .int .i64 x443004_2] 70 (0, 0)) (by (with_reducible repeat (first | refine blk_drewN ?_ _ | refine blk_drew ?_ | refine blk_alloc ?_ _)); refine blk_far ?_ NB442_444.out _; (with_reducible repeat (first | refine blk_drewN ?_ _ | refine blk_drew ?_ | refine blk_alloc ?_ _)); refine blk_far ?_ NB442_444.out _; (with_reducible repeat (first | refine blk_drewN ?_ _ | refine blk_drew ?_ | refine blk_alloc ?_ _)); refine blk_far ?_ NB442_444.out _; (with_reducible repeat (first | refine blk_drewN ?_ _ | refine blk_drew ?_ | refine blk_alloc ?_ _)); refine blk_far ?_ NB442_444.out _; (with_reducible repeat (first | refine blk_drewN ?_ _ | refine blk_drew ?_ | refine blk_alloc ?_ _)); refine blk_far ?_ NB442_444.out _; (with_reducible repeat (first | refine blk_drewN ?_ _ | refine blk_drew ?_ | refine blk_alloc ?_ _)); exact BK442.out) hg (Kd.R_away HO_9.out (fun _ hk => hk.1))); have n2_ := Aside0.mk (blk_grown (g := gb444) (o := .cells #[.int .i64 ((rd_T70 l0 x35_2).f0), .int .i64 ((rd_T70 l0 x35_2).f1), .int .i64 ((rd_T70 l0 x35_2).f2), .int .i64 ((rd_T70 l0 x35_2).f3), .int .i64 ((rd_T70 l0 x35_2).f4)] 70 (0, 0)) (by (with_reducible repeat (first | refine blk_drewN ?_ _ | refine blk_drew ?_ | refine blk_alloc ?_ _)); refine blk_put (cs := #[.int .i64 ((rd_T70 l0 x35_2).f0), .int .i64 ((rd_T70 l0 x35_2).f1), .int .i64 ((rd_T70 l0 x35_2).f2), .int .i64 ((rd_T70 l0 x35_2).f3), .int .i64 0]) ?_ 4 _ rfl; (with_reducible repeat (first | refine blk_drewN ?_ _ | refine blk_drew ?_ | refine blk_alloc ?_ _)); refine blk_put (cs := #[.int .i64 ((rd_T70 l0 x35_2).f0), .int .i64 ((rd_T70 l0 x35_2).f1), .int .i64 ((rd_T70 l0 x35_2).f2), .int .i64 0, .int .i64 0]) ?_ 3 _ rfl; (with_reducible repeat (first | refine blk_drewN ?_ _ | refine blk_drew ?_ | refine blk_alloc ?_ _)); refine blk_put (cs := #[.int .i64 ((rd_T70 l0 x35_2).f0), .int .i64 ((rd_T70 l0 x35_2).f1), .int .i64 0, .int .i64 0, .int .i64 0]) ?_ 2 _ rfl; (with_reducible repeat (first | refine blk_drewN ?_ _ | refine blk_drew ?_ | refine blk_alloc ?_ _)); refine blk_put (cs := #[.int .i64 ((rd_T70 l0 x35_2).f0), .int .i64 0, .int .i64 0, .int .i64 0, .int .i64 0]) ?_ 1 _ rfl; (with_reducible repeat (first | refine blk_drewN ?_ _ | refine blk_drew ?_ | refine blk_alloc ?_ _)); refine blk_put (cs := #[.int .i64 0, .int .i64 0, .int .i64 0, .int .i64 0, .int .i64 0]) ?_ 0 _ rfl; (with_reducible repeat (first | refine blk_drewN ?_ _ | refine blk_drew ?_ | refine blk_alloc ?_ _)); exact BK444.out) hg (Kd.R_away HO_9.out (fun _ hk => hk.2))); have n3_ := Aside0.mk (hb); have n4_ := Aside0.mk (ho); clear BK427 BK442 BK444 HB HO_9; have BK427 := n0_; have BK442 := n1_; have BK444 := n2_; have HB := n3_; have HO455 := n4_; clear n0_ n1_ n2_ n3_ n4_; clear ho hb hg hat))
                        go_roundg k2
                        case measure => have := HJ3.out; have := HK2.out; omega
                        case rel => exact ⟨(y453), (wrap64 (x35_2 + 1)), (x443000_2), (x443001_2), (x443002_2), (x443003_2), (x443004_2), (by first | rfl | (simp; done) | (simp [*]; done)), H', ⟨by have := HJ3.out; have := HK2.out; omega⟩, ⟨by (with_reducible repeat (first | apply Kd.R_alloc | apply Kd.R_drewN | apply Kd.R_drew)); exact Kd.R_mono HO455.out (fun _ hk => hk.1)⟩, ⟨by (with_reducible repeat (first | refine blk_drewN ?_ _ | refine blk_drew ?_ | refine blk_alloc ?_ _)); exact BK427.out⟩, ⟨by (with_reducible repeat (first | refine blk_drewN ?_ _ | refine blk_drew ?_ | refine blk_alloc ?_ _)); exact BK442.out⟩, ⟨by repeat (first | (with_reducible first | exact HB.out | apply below_alloc | apply pw_below_drewN | apply below_drew1 | refine below_set ?_ GE427.out | refine below_set ?_ GE442.out | refine below_set ?_ GE444.out) | exact HB.out)⟩⟩
                      · rw [if_neg c51] at H
                        exact absurd H (by simp)
                  · rw [if_neg c30] at H
                    have c30b0 : (((rd_T70 l0 x35_2).f0) == a1_1) = false := beq_eq_false_iff_ne.mpr c30
                    have c30b1 : (((rd_T70 l0 x35_2).f0) != a1_1) = true := bne_iff_ne.mpr c30
                    by_cases c59 : x9_2.length < 3518437208883
                    · rw [if_pos c59] at H
                      have LMc59 := Aside0.mk c59
                      clear c59
                      obtain ⟨y456, hy456⟩ : ∃ y_ : List (S70), y_ = (x9_2 ++ [(⟨(rd_T70 l0 x35_2).f0, (rd_T70 l0 x35_2).f1, (rd_T70 l0 x35_2).f2, (rd_T70 l0 x35_2).f3, (rd_T70 l0 x35_2).f4⟩ : S70)]) := ⟨_, rfl⟩
                      replace H : (impl_AddToSessions.l0 k2 l0 a2 y456 l0 (l0.length : Int) (wrap64 (x35_2 + 1)) a1_0 a1_1 a1_2 a1_3 x443000_2 x443001_2 x443002_2 x443003_2 x443004_2) = some (r1, r2) := by first | (rw [hy456]; with_reducible exact H) | (have H2_ := (Option.bind_some _ _).symm.trans H; rw [hy456]; with_reducible exact H2_) | (have H2_ := (Option.bind_some _ _).symm.trans H; with_reducible exact H2_) | with_reducible exact H | (rw [hy456]; exact H) | exact H
                      have Ny456 := Aside0.mk hy456
                      clear hy456
                      have H' := Aside0.mk H
                      clear H
                      have p443 : 0 ≤ (x35_2 : Int) := of_decide_eq_true (by first | (with_reducible assumption) | assumption)
                      have q443 : x35_2 < (l0.length : Int) := of_decide_eq_true (by first | (with_reducible assumption) | assumption)
                      obtain ⟨ad443, e443, hx443_0, hx443_1, hx443_2, hx443_3, hx443_4⟩ := at_T70 HR0.out x35_2 p443 q443
                      cases e443
                      replace hx443_0 := (HB.out.cell (World.block_lt_of_cell? w _ hx443_0)).trans hx443_0
                      replace hx443_1 := (HB.out.cell (World.block_lt_of_cell? w _ hx443_1)).trans hx443_1
                      replace hx443_2 := (HB.out.cell (World.block_lt_of_cell? w _ hx443_2)).trans hx443_2
                      replace hx443_3 := (HB.out.cell (World.block_lt_of_cell? w _ hx443_3)).trans hx443_3
                      replace hx443_4 := (HB.out.cell (World.block_lt_of_cell? w _ hx443_4)).trans hx443_4
                      replace p443 := eq_true p443
                      replace q443 := eq_true q443
                      go_wp2_with (first | ((with_reducible refine gate_dst (N := 11) rfl ?_); refine box_event ?hg (N := 11) ?hd (cs := #[.int .i64 0, .int .i64 0, .int .i64 0, .int .i64 0, .int .i64 0]) (t := 70) ?hr ?_; (case hd => rfl); (case hg => rfl); (case hr => first | (go_simp; done) | (go_simp; rfl)); intro gb444 hg w60 hbox hb; have n0_ := Aside0.mk (Kd.R_below (Kd.R_elderB (by (with_reducible repeat (first | apply Kd.R_alloc | apply Kd.R_drewN | apply Kd.R_drew)); exact HO_9.out) gb444 (Nat.le_of_eq hg.symm)) hb); have n1_ := Aside0.mk (blk_below (g := gb427) (o := .cells #[.int .i64 a1_0, .int .i64 a1_1, .int .i64 a1_2, .int .i64 a1_3] 40 (0, 0)) (blkq BK427.out) hb); have n2_ := Aside0.mk (blk_below (g := gb442) (o := .cells #[.int .i64 x443000_2, .int .i64 x443001_2, .int .i64 x443002_2, .int .i64 x443003_2, .int .i64 x443004_2] 70 (0, 0)) (blkq BK442.out) hb); have n3_ := Aside0.mk (below_step bel hb); have n4_ := Aside0.mk (hbox); have n5_ := Aside0.mk ((by rw [hg]; exact (below_size bel) : w.heap.size ≤ gb444)); have n6_ := Aside0.mk ((by rw [hg]; exact (below_size bel) : w.heap.size ≤ gb444)); have n7_ := Aside0.mk ((by rw [hg]; exact Nat.ne_of_lt (blk_lt (g := gb427) (o := .cells #[.int .i64 a1_0, .int .i64 a1_1, .int .i64 a1_2, .int .i64 a1_3] 40 (0, 0)) (blkq BK427.out)) : gb427 ≠ gb444)); have n8_ := Aside0.mk ((by rw [hg]; exact Nat.ne_of_gt (blk_lt (g := gb427) (o := .cells #[.int .i64 a1_0, .int .i64 a1_1, .int .i64 a1_2, .int .i64 a1_3] 40 (0, 0)) (blkq BK427.out)) : gb444 ≠ gb427)); have n9_ := Aside0.mk ((by rw [hg]; exact Nat.ne_of_lt (blk_lt (g := gb442) (o := .cells #[.int .i64 x443000_2, .int .i64 x443001_2, .int .i64 x443002_2, .int .i64 x443003_2, .int .i64 x443004_2] 70 (0, 0)) (blkq BK442.out)) : gb442 ≠ gb444)); have n10_ := Aside0.mk ((by rw [hg]; exact Nat.ne_of_gt (blk_lt (g := gb442) (o := .cells #[.int .i64 x443000_2, .int .i64 x443001_2, .int .i64 x443002_2, .int .i64 x443003_2, .int .i64 x443004_2] 70 (0, 0)) (blkq BK442.out)) : gb444 ≠ gb442)); clear HO_9 BK427 BK442 HB; have HO_9 := n0_; have BK427 := n1_; have BK442 := n2_; have HB := n3_; have BK444 := n4_; have GW444 := n5_; have GE444 := n6_; have NB427_444 := n7_; have NB444_427 := n8_; have NB442_444 := n9_; have NB444_442 := n10_; clear n0_ n1_ n2_ n3_ n4_ n5_ n6_ n7_ n8_ n9_ n10_ hb hbox hg; have hnb61 := NB444_427.out; have hnc61 := NB427_444.out; have hnb62 := NB444_442.out; have hnc62 := NB442_444.out; obtain ⟨hcz63_0, hcz63_1, hcz63_2, hcz63_3, hcz63_4, hfz63_0, hfz63_1, hfz63_2, hfz63_3, hfz63_4⟩ := blkc5 BK444.out; have hnb64 := NB427_442.out; have hnc64 := NB442_427.out; obtain ⟨hcz65_0, hcz65_1, hcz65_2, hcz65_3, hfz65_0, hfz65_1, hfz65_2, hfz65_3⟩ := blkc4 BK427.out) | ((with_reducible refine gate_builtin (b := .append) (xs := #[.tmp 65, .tmp 67]) rfl ?_); at_builtin; refine Kd.R_append k70 (w0 := w) w.heap.size rfl (.tmp 65) (.tmp 67) 24 70 (.agg #[(.int .i64 0), (.int .i64 0), (.int .i64 0), (.int .i64 0), (.int .i64 0)]) 40 rfl Try.underlying24 info70 rfl (by decide) (by omega) u9 x9_2 (⟨(rd_T70 l0 x35_2).f0, (rd_T70 l0 x35_2).f1, (rd_T70 l0 x35_2).f2, (rd_T70 l0 x35_2).f3, (rd_T70 l0 x35_2).f4⟩ : S70) [.int .i64 ((rd_T70 l0 x35_2).f0), .int .i64 ((rd_T70 l0 x35_2).f1), .int .i64 ((rd_T70 l0 x35_2).f2), .int .i64 ((rd_T70 l0 x35_2).f3), .int .i64 ((rd_T70 l0 x35_2).f4)] (fun k_ => k_ ≠ gb442 ∧ k_ ≠ gb444) (fun _ => False) rfl (by first | (go_simp; done) | (go_simp; rfl)) ?aP (fun _ hk => hk.elim) ?aF ?aO ?aB ?aS ?aL ?_; (case aP => exact k70_mkM _ _ _ (⟨(rd_T70 l0 x35_2).f0, (rd_T70 l0 x35_2).f1, (rd_T70 l0 x35_2).f2, (rd_T70 l0 x35_2).f3, (rd_T70 l0 x35_2).f4⟩ : S70)); (case aB => exact bel); (case aF => exact (fun k_ hk => ⟨Kd.freshB (g := gb442) (o := .cells #[.int .i64 x443000_2, .int .i64 x443001_2, .int .i64 x443002_2, .int .i64 x443003_2, .int .i64 x443004_2] 70 (0, 0)) (by (with_reducible repeat (first | refine blk_drewN ?_ _ | refine blk_drew ?_ | refine blk_alloc ?_ _)); refine blk_far ?_ NB442_444.out _; (with_reducible repeat (first | refine blk_drewN ?_ _ | refine blk_drew ?_ | refine blk_alloc ?_ _)); refine blk_far ?_ NB442_444.out _; (with_reducible repeat (first | refine blk_drewN ?_ _ | refine blk_drew ?_ | refine blk_alloc ?_ _)); refine blk_far ?_ NB442_444.out _; (with_reducible repeat (first | refine blk_drewN ?_ _ | refine blk_drew ?_ | refine blk_alloc ?_ _)); refine blk_far ?_ NB442_444.out _; (with_reducible repeat (first | refine blk_drewN ?_ _ | refine blk_drew ?_ | refine blk_alloc ?_ _)); refine blk_far ?_ NB442_444.out _; (with_reducible repeat (first | refine blk_drewN ?_ _ | refine blk_drew ?_ | refine blk_alloc ?_ _)); exact BK442.out) k_ hk, Kd.freshB (g := gb444) (o := .cells #[.int .i64 ((rd_T70 l0 x35_2).f0), .int .i64 ((rd_T70 l0 x35_2).f1), .int .i64 ((rd_T70 l0 x35_2).f2), .int .i64 ((rd_T70 l0 x35_2).f3), .int .i64 ((rd_T70 l0 x35_2).f4)] 70 (0, 0)) (by (with_reducible repeat (first | refine blk_drewN ?_ _ | refine blk_drew ?_ | refine blk_alloc ?_ _)); refine blk_put (cs := #[.int .i64 ((rd_T70 l0 x35_2).f0), .int .i64 ((rd_T70 l0 x35_2).f1), .int .i64 ((rd_T70 l0 x35_2).f2), .int .i64 ((rd_T70 l0 x35_2).f3), .int .i64 0]) ?_ 4 _ rfl; (with_reducible repeat (first | refine blk_drewN ?_ _ | refine blk_drew ?_ | refine blk_alloc ?_ _)); refine blk_put (cs := #[.int .i64 ((rd_T70 l0 x35_2).f0), .int .i64 ((rd_T70 l0 x35_2).f1), .int .i64 ((rd_T70 l0 x35_2).f2), .int .i64 0, .int .i64 0]) ?_ 3 _ rfl; (with_reducible repeat (first | refine blk_drewN ?_ _ | refine blk_drew ?_ | refine blk_alloc ?_ _)); refine blk_put (cs := #[.int .i64 ((rd_T70 l0 x35_2).f0), .int .i64 ((rd_T70 l0 x35_2).f1), .int .i64 0, .int .i64 0, .int .i64 0]) ?_ 2 _ rfl; (with_reducible repeat (first | refine blk_drewN ?_ _ | refine blk_drew ?_ | refine blk_alloc ?_ _)); refine blk_put (cs := #[.int .i64 ((rd_T70 l0 x35_2).f0), .int .i64 0, .int .i64 0, .int .i64 0, .int .i64 0]) ?_ 1 _ rfl; (with_reducible repeat (first | refine blk_drewN ?_ _ | refine blk_drew ?_ | refine blk_alloc ?_ _)); refine blk_put (cs := #[.int .i64 0, .int .i64 0, .int .i64 0, .int .i64 0, .int .i64 0]) ?_ 0 _ rfl; (with_reducible repeat (first | refine blk_drewN ?_ _ | refine blk_drew ?_ | refine blk_alloc ?_ _)); exact BK444.out) k_ hk⟩)); (case aO => exact (by (with_reducible repeat (first | apply Kd.R_alloc | apply Kd.R_drewN | apply Kd.R_drew)); exact Kd.R_mono (Kd.R_far (p := ⟨gb444, 4, none⟩) (Kd.R_far (p := ⟨gb444, 3, none⟩) (Kd.R_far (p := ⟨gb444, 2, none⟩) (Kd.R_far (p := ⟨gb444, 1, none⟩) (Kd.R_far (p := ⟨gb444, 0, none⟩) (Kd.R_mono HO_9.out (fun k_ hk => (⟨hk, hk.2⟩ : _ ∧ k_ ≠ gb444))) (fun _ hk => hk.2) (.int .i64 ((rd_T70 l0 x35_2).f0))) (fun _ hk => hk.2) (.int .i64 ((rd_T70 l0 x35_2).f1))) (fun _ hk => hk.2) (.int .i64 ((rd_T70 l0 x35_2).f2))) (fun _ hk => hk.2) (.int .i64 ((rd_T70 l0 x35_2).f3))) (fun _ hk => hk.2) (.int .i64 ((rd_T70 l0 x35_2).f4))) (fun _ hk => ⟨hk.1.1, hk.1.2⟩))); (case aS => exact (below_size bel)); (case aL => have := LMc59.out; omega); intro v457 w66 ho hb hg hat; rw [← Ny456.out] at ho; have n0_ := Aside0.mk (blk_grown (g := gb427) (o := .cells #[.int .i64 a1_0, .int .i64 a1_1, .int .i64 a1_2, .int .i64 a1_3] 40 (0, 0)) (by (with_reducible repeat (first | refine blk_drewN ?_ _ | refine blk_drew ?_ | refine blk_alloc ?_ _)); refine blk_far ?_ NB427_444.out _; (with_reducible repeat (first | refine blk_drewN ?_ _ | refine blk_drew ?_ | refine blk_alloc ?_ _)); refine blk_far ?_ NB427_444.out _; (with_reducible repeat (first | refine blk_drewN ?_ _ | refine blk_drew ?_ | refine blk_alloc ?_ _)); refine blk_far ?_ NB427_444.out _; (with_reducible repeat (first | refine blk_drewN ?_ _ | refine blk_drew ?_ | refine blk_alloc ?_ _)); refine blk_far ?_ NB427_444.out _; (with_reducible repeat (first | refine blk_drewN ?_ _ | refine blk_drew ?_ | refine blk_alloc ?_ _)); refine blk_far ?_ NB427_444.out _; (with_reducible repeat (first | refine blk_drewN ?_ _ | refine blk_drew ?_ | refine blk_alloc ?_ _)); exact BK427.out) hg (Kd.R_ne HO_9.out BK427.out (by decide))); have n1_ := Aside0.mk (blk_grown (g := gb442) (o := .cells #[.int .i64 x443000_2, .int .i64 x443001_2, .int .i64 x443002_2, .int .i64 x443003_2, .int .i64 x443004_2] 70 (0, 0)) (by (with_reducible repeat (first | refine blk_drewN ?_ _ | refine blk_drew ?_ | refine blk_alloc ?_ _)); refine blk_far ?_ NB442_444.out _; (with_reducible repeat (first | refine blk_drewN ?_ _ | refine blk_drew ?_ | refine blk_alloc ?_ _)); refine blk_far ?_ NB442_444.out _; (with_reducible repeat (first | refine blk_drewN ?_ _ | refine blk_drew ?_ | refine blk_alloc ?_ _)); refine blk_far ?_ NB442_444.out _; (with_reducible repeat (first | refine blk_drewN ?_ _ | refine blk_drew ?_ | refine blk_alloc ?_ _)); refine blk_far ?_ NB442_444.out _; (with_reducible repeat (first | refine blk_drewN ?_ _ | refine blk_drew ?_ | refine blk_alloc ?_ _)); refine blk_far ?_ NB442_444.out _; (with_reducible repeat (first | refine blk_drewN ?_ _ | refine blk_drew ?_ | refine blk_alloc ?_ _)); exact BK442.out) hg (Kd.R_away HO_9.out (fun _ hk => hk.1))); have n2_ := Aside0.mk (blk_grown (g := gb444) (o := .cells #[.int .i64 ((rd_T70 l0 x35_2).f0), .int .i64 ((rd_T70 l0 x35_2).f1), .int .i64 ((rd_T70 l0 x35_2).f2), .int .i64 ((rd_T70 l0 x35_2).f3), .int .i64 ((rd_T70 l0 x35_2).f4)] 70 (0, 0)) (by (with_reducible repeat (first | refine blk_drewN ?_ _ | refine blk_drew ?_ | refine blk_alloc ?_ _)); refine blk_put (cs := #[.int .i64 ((rd_T70 l0 x35_2).f0), .int .i64 ((rd_T70 l0 x35_2).f1), .int .i64 ((rd_T70 l0 x35_2).f2), .int .i64 ((rd_T70 l0 x35_2).f3), .int .i64 0]) ?_ 4 _ rfl; (with_reducible repeat (first | refine blk_drewN ?_ _ | refine blk_drew ?_ | refine blk_alloc ?_ _)); refine blk_put (cs := #[.int .i64 ((rd_T70 l0 x35_2).f0), .int .i64 ((rd_T70 l0 x35_2).f1), .int .i64 ((rd_T70 l0 x35_2).f2), .int .i64 0, .int .i64 0]) ?_ 3 _ rfl; (with_reducible repeat (first | refine blk_drewN ?_ _ | refine blk_drew ?_ | refine blk_alloc ?_ _)); refine blk_put (cs := #[.int .i64 ((rd_T70 l0 x35_2).f0), .int .i64 ((rd_T70 l0 x35_2).f1), .int .i64 0, .int .i64 0, .int .i64 0]) ?_ 2 _ rfl; (with_reducible repeat (first | refine blk_drewN ?_ _ | refine blk_drew ?_ | refine blk_alloc ?_ _)); refine blk_put (cs := #[.int .i64 ((rd_T70 l0 x35_2).f0), .int .i64 0, .int .i64 0, .int .i64 0, .int .i64 0]) ?_ 1 _ rfl; (with_reducible repeat (first | refine blk_drewN ?_ _ | refine blk_drew ?_ | refine blk_alloc ?_ _)); refine blk_put (cs := #[.int .i64 0, .int .i64 0, .int .i64 0, .int .i64 0, .int .i64 0]) ?_ 0 _ rfl; (with_reducible repeat (first | refine blk_drewN ?_ _ | refine blk_drew ?_ | refine blk_alloc ?_ _)); exact BK444.out) hg (Kd.R_away HO_9.out (fun _ hk => hk.2))); have n3_ := Aside0.mk (hb); have n4_ := Aside0.mk (ho); clear BK427 BK442 BK444 HB HO_9; have BK427 := n0_; have BK442 := n1_; have BK444 := n2_; have HB := n3_; have HO458 := n4_; clear n0_ n1_ n2_ n3_ n4_; clear ho hb hg hat))
                      go_roundg k2
                      case measure => have := HJ3.out; have := HK2.out; omega
                      case rel => exact ⟨(y456), (wrap64 (x35_2 + 1)), (x443000_2), (x443001_2), (x443002_2), (x443003_2), (x443004_2), (by first | rfl | (simp; done) | (simp [*]; done)), H', ⟨by have := HJ3.out; have := HK2.out; omega⟩, ⟨by (with_reducible repeat (first | apply Kd.R_alloc | apply Kd.R_drewN | apply Kd.R_drew)); exact Kd.R_mono HO458.out (fun _ hk => hk.1)⟩, ⟨by (with_reducible repeat (first | refine blk_drewN ?_ _ | refine blk_drew ?_ | refine blk_alloc ?_ _)); exact BK427.out⟩, ⟨by (with_reducible repeat (first | refine blk_drewN ?_ _ | refine blk_drew ?_ | refine blk_alloc ?_ _)); exact BK442.out⟩, ⟨by repeat (first | (with_reducible first | exact HB.out | apply below_alloc | apply pw_below_drewN | apply below_drew1 | refine below_set ?_ GE427.out | refine below_set ?_ GE442.out | refine below_set ?_ GE444.out) | exact HB.out)⟩⟩
                    · rw [if_neg c59] at H
                      exact absurd H (by simp)
                · rw [if_neg c29] at H
                  exact absurd H (by simp)
              · rw [if_neg c28] at H
                exact absurd H (by simp)
            · rw [if_neg c27] at H
              have c27b0 : decide (x35_2 < (l0.length : Int)) = false := decide_eq_false c27
              clear c27
              replace H := Option.bind_eq_some_iff.mp H
              obtain ⟨⟨t459, t460⟩, A670, H⟩ := H
              replace H : ((impl_Session_58.f x9_2 t459 (([(⟨x443000_2, x443001_2, x443002_2, x443003_2, x443004_2⟩ : S70)] : List (S70)))).bind fun t464 => (if (t464.length : Int) > 200 then ((impl_Session_56.f l0).bind fun t467 => (some (t467, false))) else (some (t464, true)))) = some (r1, r2) := H
              have A67 := Aside0.mk A670
              clear A670
              obtain ⟨y461, hy461⟩ : ∃ y_ : List (S70), y_ = (([(⟨x443000_2, x443001_2, x443002_2, x443003_2, x443004_2⟩ : S70)] : List (S70))) := ⟨_, rfl⟩
              replace H : ((impl_Session_58.f x9_2 t459 y461).bind fun t464 => (if (t464.length : Int) > 200 then ((impl_Session_56.f l0).bind fun t467 => (some (t467, false))) else (some (t464, true)))) = some (r1, r2) := by first | (rw [hy461]; with_reducible exact H) | (have H2_ := (Option.bind_some _ _).symm.trans H; rw [hy461]; with_reducible exact H2_) | (have H2_ := (Option.bind_some _ _).symm.trans H; with_reducible exact H2_) | with_reducible exact H | (rw [hy461]; exact H) | exact H
              have Ny461 := Aside0.mk hy461
              clear hy461
              replace H := Option.bind_eq_some_iff.mp H
              obtain ⟨t464, A680, H⟩ := H
              replace H : (if (t464.length : Int) > 200 then ((impl_Session_56.f l0).bind fun t467 => (some (t467, false))) else (some (t464, true))) = some (r1, r2) := H
              have A68 := Aside0.mk A680
              clear A680
              by_cases c69 : (t464.length : Int) > 200
              · rw [if_pos c69] at H
                have c69b0 : decide (200 < (t464.length : Int)) = true := decide_eq_true c69
                have c69b1 : decide (200 < t464.length) = true := decide_eq_true (by omega)
                clear c69
                replace H := Option.bind_eq_some_iff.mp H
                obtain ⟨t467, A700, H⟩ := H
                replace H : (some (t467, false)) = some (r1, r2) := H
                have A70 := Aside0.mk A700
                clear A700
                simp only [Option.some.injEq, Prod.mk.injEq] at H
                obtain ⟨rfl, rfl⟩ := H
                have hnb71 := NB442_427.out
                have hnc71 := NB427_442.out
                have hcz72_0 : wr.cell? ⟨gb442, 0, none⟩ = some (.int .i64 x443000_2) := (blk_cell BK442.out 0).trans rfl
                have hcz72_1 : wr.cell? ⟨gb442, 1, none⟩ = some (.int .i64 x443001_2) := (blk_cell BK442.out 1).trans rfl
                have hcz72_2 : wr.cell? ⟨gb442, 2, none⟩ = some (.int .i64 x443002_2) := (blk_cell BK442.out 2).trans rfl
                have hcz72_3 : wr.cell? ⟨gb442, 3, none⟩ = some (.int .i64 x443003_2) := (blk_cell BK442.out 3).trans rfl
                have hcz72_4 : wr.cell? ⟨gb442, 4, none⟩ = some (.int .i64 x443004_2) := (blk_cell BK442.out 4).trans rfl
                have hfz72_0 := blk_frozen BK442.out 0
                have hfz72_1 := blk_frozen BK442.out 1
                have hfz72_2 := blk_frozen BK442.out 2
                have hfz72_3 := blk_frozen BK442.out 3
                have hfz72_4 := blk_frozen BK442.out 4
                obtain ⟨Ao73, co73, eo73⟩ := Kd.R_slice HO_9.out
                subst eo73
                go_wp2_with (first | ((with_reducible refine gate_callee (f := 57) rfl ?_); refine goesL1 73 Try.func57 #[.slice Ao73 x9_2.length co73, .agg #[.int .i64 x443000_2, .int .i64 x443001_2, .int .i64 x443002_2, .int .i64 x443003_2, .int .i64 x443004_2], .func (.func (49 : Nat)) #[] #[]] ?_; (with_reducible refine (impl_Session_57.calls k2 _ _ x9_2 x443000_2 x443001_2 x443002_2 x443003_2 x443004_2  t459 t460 _ ?side1 ?side2 A67.out).mono ?_); (case side1 => repeat (first | exact (Kd.R_reads' HO_9.out).2.2 | (with_reducible refine Kd.C_alloc ?_ _) | (with_reducible refine Kd.C_drewN ?_ _) | (with_reducible refine Kd.C_drew ?_))); (case side2 => exact (Kd.R_reads' HO_9.out).2.1); rintro e w74 ⟨rfl, hb⟩; refine ⟨_, rfl, ?_⟩; have n0_ := Aside0.mk (Kd.R_below (by (with_reducible repeat (first | apply Kd.R_alloc | apply Kd.R_drewN | apply Kd.R_drew)); exact HO_9.out) hb); have n1_ := Aside0.mk (blk_below (g := gb427) (o := .cells #[.int .i64 a1_0, .int .i64 a1_1, .int .i64 a1_2, .int .i64 a1_3] 40 (0, 0)) (blkq BK427.out) hb); have n2_ := Aside0.mk (blk_below (g := gb442) (o := .cells #[.int .i64 x443000_2, .int .i64 x443001_2, .int .i64 x443002_2, .int .i64 x443003_2, .int .i64 x443004_2] 70 (0, 0)) (blkq BK442.out) hb); have n3_ := Aside0.mk (below_step bel hb); clear HO_9 BK427 BK442 HB; have HO_9 := n0_; have BK427 := n1_; have BK442 := n2_; have HB := n3_; clear n0_ n1_ n2_ n3_; (try clear hb); (try clear hb2); (try clear hk); (try clear hi); obtain ⟨hcz75_0, hcz75_1, hcz75_2, hcz75_3, hcz75_4, hfz75_0, hfz75_1, hfz75_2, hfz75_3, hfz75_4⟩ := blkc5 BK442.out) | ((with_reducible refine gate_dst (N := 79) rfl ?_); refine Kd.R_lit k70 _ 70 ?hg (N := 79) ?hd (xs := ([(⟨x443000_2, x443001_2, x443002_2, x443003_2, x443004_2⟩ : S70)] : List (S70))) (inner := [.int .i64 x443000_2, .int .i64 x443001_2, .int .i64 x443002_2, .int .i64 x443003_2, .int .i64 x443004_2]) (ok := fun _ => True) (okp := fun _ => True) ?hr ?hp (fun _ hk => hk) trivial (Below.refl _ _) (Nat.le_refl _) (by simp) ?_; (case hd => rfl); (case hg => rfl); (case hr => first | (go_simp; done) | (go_simp; rfl)); (case hp => exact (Reps.c5 (show Kd.M k70 _ _ _ (⟨x443000_2, x443001_2, x443002_2, x443003_2, x443004_2⟩ : S70) [.int .i64 x443000_2, .int .i64 x443001_2, .int .i64 x443002_2, .int .i64 x443003_2, .int .i64 x443004_2] from (k70_mkM _ _ _ (⟨x443000_2, x443001_2, x443002_2, x443003_2, x443004_2⟩ : S70) )) (Reps.none _ _))); intro v462 w76 ho77 hb hg_ hnew_; clear hg_ hnew_; (first | rw [← Ny461.out] at ho77 | (simp only [Int.reduceToNat] at ho77; rw [← Ny461.out] at ho77)); have n0_ := Aside0.mk (Kd.R_elder' (by (with_reducible repeat (first | apply Kd.R_alloc | apply Kd.R_drewN | apply Kd.R_drew)); exact HO_9.out) (Kd.R_base ho77) hb); have n1_ := Aside0.mk (Kd.R_lower (Kd.R_newB (Kd.R_new' ho77 (Kd.R_lt (by (with_reducible repeat (first | apply Kd.R_alloc | apply Kd.R_drewN | apply Kd.R_drew)); exact HO_9.out))) (g := gb442) (o := .cells #[.int .i64 x443000_2, .int .i64 x443001_2, .int .i64 x443002_2, .int .i64 x443003_2, .int .i64 x443004_2] 70 (0, 0)) (blkq BK442.out)) (below_size bel)); have n2_ := Aside0.mk (blk_below (g := gb427) (o := .cells #[.int .i64 a1_0, .int .i64 a1_1, .int .i64 a1_2, .int .i64 a1_3] 40 (0, 0)) (blkq BK427.out) hb); have n3_ := Aside0.mk (blk_below (g := gb442) (o := .cells #[.int .i64 x443000_2, .int .i64 x443001_2, .int .i64 x443002_2, .int .i64 x443003_2, .int .i64 x443004_2] 70 (0, 0)) (blkq BK442.out) hb); have n4_ := Aside0.mk (below_step bel hb); clear HO_9 BK427 BK442 HB; have HO_9 := n0_; have HO463 := n1_; have BK427 := n2_; have BK442 := n3_; have HB := n4_; clear n0_ n1_ n2_ n3_ n4_ hb ho77; obtain ⟨Ao78, co78, eo78⟩ := Kd.R_slice HO463.out; subst eo78) | ((with_reducible refine gate_callee (f := 58) rfl ?_); refine goesL1 80 Try.func58 #[.slice Ao73 x9_2.length co73, .int .i64 t459, .slice Ao78 y461.length co78] ?_; (with_reducible refine (impl_Session_58.calls (fun k_ => some k_ = (.slice Ao73 x9_2.length co73 : Value).ownBlock) (.slice Ao73 x9_2.length co73) x9_2 t459 (fun k_ => some k_ = (.slice Ao78 y461.length co78 : Value).ownBlock) (.slice Ao78 y461.length co78) y461 t464 w _ ?side1 ?side2 ?side3 ?side4 ?side5 A68.out).mono ?_); (case side1 => exact bel); (case side2 => exact Kd.R_tight rfl HO_9.out); (case side3 => exact fun k_ e_ => (HO_9.out.1 k_ e_.symm).2); (case side4 => exact Kd.R_tight rfl HO463.out); (case side5 => exact fun k_ e_ => (HO463.out.1 k_ e_.symm).1.2); rintro e w79 ⟨v465, rfl, ho0, hb, hkp⟩; refine ⟨_, rfl, ?_⟩; have n0_ := Aside0.mk (blk_kept (blkq BK427.out) hkp (fun hs_ => Or.elim hs_ (fun e_ => (fun e_ => (Kd.R_ne HO_9.out BK427.out (by decide)) e_) e_) (fun e_ => (fun e_ => (Kd.R_ne HO463.out BK427.out (by decide)) e_) e_))); have n1_ := Aside0.mk (blk_kept (blkq BK442.out) hkp (fun hs_ => Or.elim hs_ (fun e_ => (fun e_ => (Kd.R_away HO_9.out (fun _ hk => hk.1)) e_) e_) (fun e_ => (fun e_ => (Kd.R_away HO463.out (fun _ hk => hk.2)) e_) e_))); have n2_ := Aside0.mk (Kd.R_mono (ok' := fun k_ => k_ ≠ gb442) ho0 (fun k_ hk_ => Or.elim hk_ (fun hs_ => Or.elim hs_ (fun hs_ => fun e_ => (Kd.R_away HO_9.out (fun _ hk => hk.1)) (by rw [← e_]; exact hs_)) (fun hs_ => fun e_ => (Kd.R_away HO463.out (fun _ hk => hk.2)) (by rw [← e_]; exact hs_))) (fun hn_ => (Kd.freshB (g := gb442) (o := .cells #[.int .i64 x443000_2, .int .i64 x443001_2, .int .i64 x443002_2, .int .i64 x443003_2, .int .i64 x443004_2] 70 (0, 0)) (blkq BK442.out) k_ hn_)))); have n3_ := Aside0.mk (hb); clear BK427 BK442 HB HO463 HO_9; have BK427 := n0_; have BK442 := n1_; have HO466 := n2_; have HB := n3_; clear n0_ n1_ n2_ n3_; (try clear hb); (try clear hkp); (try clear ho0); obtain ⟨Ao80, co80, eo80⟩ := Kd.R_slice HO466.out; subst eo80) | ((with_reducible refine gate_callee (f := 56) rfl ?_); refine goesL1 85 Try.func56 #[.slice A0 l0.length c0] ?_; (with_reducible refine (impl_Session_56.calls _ _ l0 t467 _ ?side1 ?side2 A70.out).mono ?_); (case side1 => repeat (first | exact (Kd.C_below HR0.out HB.out) | (with_reducible refine Kd.C_alloc ?_ _) | (with_reducible refine Kd.C_drewN ?_ _) | (with_reducible refine Kd.C_drew ?_))); (case side2 => exact HC0.out); rintro e w81 ⟨v468, rfl, ho0, hb⟩; refine ⟨_, rfl, ?_⟩; have n0_ := Aside0.mk (Kd.R_elder' (by (with_reducible repeat (first | apply Kd.R_alloc | apply Kd.R_drewN | apply Kd.R_drew)); exact HO466.out) (Kd.R_base ho0) hb); have n1_ := Aside0.mk (Kd.R_lower (Kd.R_newB (Kd.R_new' ho0 (Kd.R_lt (by (with_reducible repeat (first | apply Kd.R_alloc | apply Kd.R_drewN | apply Kd.R_drew)); exact HO466.out))) (g := gb442) (o := .cells #[.int .i64 x443000_2, .int .i64 x443001_2, .int .i64 x443002_2, .int .i64 x443003_2, .int .i64 x443004_2] 70 (0, 0)) (blkq BK442.out)) (below_size bel)); have n2_ := Aside0.mk (blk_below (g := gb427) (o := .cells #[.int .i64 a1_0, .int .i64 a1_1, .int .i64 a1_2, .int .i64 a1_3] 40 (0, 0)) (blkq BK427.out) hb); have n3_ := Aside0.mk (blk_below (g := gb442) (o := .cells #[.int .i64 x443000_2, .int .i64 x443001_2, .int .i64 x443002_2, .int .i64 x443003_2, .int .i64 x443004_2] 70 (0, 0)) (blkq BK442.out) hb); have n4_ := Aside0.mk (below_step bel hb); clear HO466 BK427 BK442 HB; have HO466 := n0_; have HO469 := n1_; have BK427 := n2_; have BK442 := n3_; have HB := n4_; clear n0_ n1_ n2_ n3_ n4_; (try clear hb); (try clear hb2); (try clear hk); (try clear hi); (try clear ho0)))
                go_ret2
                exact ⟨_, by first | rfl | (simp [errW_none, errW_some] <;> rfl) | (simp [*, errW_none, errW_some] <;> rfl), by (with_reducible repeat (first | apply Kd.R_alloc | apply Kd.R_drewN | apply Kd.R_drew)); exact Kd.R_mono HO469.out (fun _ hk => trivial), by repeat (first | (with_reducible first | exact HB.out | apply below_alloc | apply pw_below_drewN | apply below_drew1 | refine below_set ?_ GE427.out | refine below_set ?_ GE442.out) | exact HB.out)⟩
              · rw [if_neg c69] at H
                have c69b0 : decide (200 < (t464.length : Int)) = false := decide_eq_false c69
                have c69b1 : decide (200 < t464.length) = false := decide_eq_false (by omega)
                clear c69
                simp only [Option.some.injEq, Prod.mk.injEq] at H
                obtain ⟨rfl, rfl⟩ := H
                have hnb82 := NB442_427.out
                have hnc82 := NB427_442.out
                have hcz83_0 : wr.cell? ⟨gb442, 0, none⟩ = some (.int .i64 x443000_2) := (blk_cell BK442.out 0).trans rfl
                have hcz83_1 : wr.cell? ⟨gb442, 1, none⟩ = some (.int .i64 x443001_2) := (blk_cell BK442.out 1).trans rfl
                have hcz83_2 : wr.cell? ⟨gb442, 2, none⟩ = some (.int .i64 x443002_2) := (blk_cell BK442.out 2).trans rfl
                have hcz83_3 : wr.cell? ⟨gb442, 3, none⟩ = some (.int .i64 x443003_2) := (blk_cell BK442.out 3).trans rfl
                have hcz83_4 : wr.cell? ⟨gb442, 4, none⟩ = some (.int .i64 x443004_2) := (blk_cell BK442.out 4).trans rfl
                have hfz83_0 := blk_frozen BK442.out 0
                have hfz83_1 := blk_frozen BK442.out 1
                have hfz83_2 := blk_frozen BK442.out 2
                have hfz83_3 := blk_frozen BK442.out 3
                have hfz83_4 := blk_frozen BK442.out 4
                obtain ⟨Ao84, co84, eo84⟩ := Kd.R_slice HO_9.out
                subst eo84
                go_wp2_with (first | ((with_reducible refine gate_callee (f := 57) rfl ?_); refine goesL1 73 Try.func57 #[.slice Ao84 x9_2.length co84, .agg #[.int .i64 x443000_2, .int .i64 x443001_2, .int .i64 x443002_2, .int .i64 x443003_2, .int .i64 x443004_2], .func (.func (49 : Nat)) #[] #[]] ?_; (with_reducible refine (impl_Session_57.calls k2 _ _ x9_2 x443000_2 x443001_2 x443002_2 x443003_2 x443004_2  t459 t460 _ ?side1 ?side2 A67.out).mono ?_); (case side1 => repeat (first | exact (Kd.R_reads' HO_9.out).2.2 | (with_reducible refine Kd.C_alloc ?_ _) | (with_reducible refine Kd.C_drewN ?_ _) | (with_reducible refine Kd.C_drew ?_))); (case side2 => exact (Kd.R_reads' HO_9.out).2.1); rintro e w85 ⟨rfl, hb⟩; refine ⟨_, rfl, ?_⟩; have n0_ := Aside0.mk (Kd.R_below (by (with_reducible repeat (first | apply Kd.R_alloc | apply Kd.R_drewN | apply Kd.R_drew)); exact HO_9.out) hb); have n1_ := Aside0.mk (blk_below (g := gb427) (o := .cells #[.int .i64 a1_0, .int .i64 a1_1, .int .i64 a1_2, .int .i64 a1_3] 40 (0, 0)) (blkq BK427.out) hb); have n2_ := Aside0.mk (blk_below (g := gb442) (o := .cells #[.int .i64 x443000_2, .int .i64 x443001_2, .int .i64 x443002_2, .int .i64 x443003_2, .int .i64 x443004_2] 70 (0, 0)) (blkq BK442.out) hb); have n3_ := Aside0.mk (below_step bel hb); clear HO_9 BK427 BK442 HB; have HO_9 := n0_; have BK427 := n1_; have BK442 := n2_; have HB := n3_; clear n0_ n1_ n2_ n3_; (try clear hb); (try clear hb2); (try clear hk); (try clear hi); obtain ⟨hcz86_0, hcz86_1, hcz86_2, hcz86_3, hcz86_4, hfz86_0, hfz86_1, hfz86_2, hfz86_3, hfz86_4⟩ := blkc5 BK442.out) | ((with_reducible refine gate_dst (N := 79) rfl ?_); refine Kd.R_lit k70 _ 70 ?hg (N := 79) ?hd (xs := ([(⟨x443000_2, x443001_2, x443002_2, x443003_2, x443004_2⟩ : S70)] : List (S70))) (inner := [.int .i64 x443000_2, .int .i64 x443001_2, .int .i64 x443002_2, .int .i64 x443003_2, .int .i64 x443004_2]) (ok := fun _ => True) (okp := fun _ => True) ?hr ?hp (fun _ hk => hk) trivial (Below.refl _ _) (Nat.le_refl _) (by simp) ?_; (case hd => rfl); (case hg => rfl); (case hr => first | (go_simp; done) | (go_simp; rfl)); (case hp => exact (Reps.c5 (show Kd.M k70 _ _ _ (⟨x443000_2, x443001_2, x443002_2, x443003_2, x443004_2⟩ : S70) [.int .i64 x443000_2, .int .i64 x443001_2, .int .i64 x443002_2, .int .i64 x443003_2, .int .i64 x443004_2] from (k70_mkM _ _ _ (⟨x443000_2, x443001_2, x443002_2, x443003_2, x443004_2⟩ : S70) )) (Reps.none _ _))); intro v462 w87 ho88 hb hg_ hnew_; clear hg_ hnew_; (first | rw [← Ny461.out] at ho88 | (simp only [Int.reduceToNat] at ho88; rw [← Ny461.out] at ho88)); have n0_ := Aside0.mk (Kd.R_elder' (by (with_reducible repeat (first | apply Kd.R_alloc | apply Kd.R_drewN | apply Kd.R_drew)); exact HO_9.out) (Kd.R_base ho88) hb); have n1_ := Aside0.mk (Kd.R_lower (Kd.R_newB (Kd.R_new' ho88 (Kd.R_lt (by (with_reducible repeat (first | apply Kd.R_alloc | apply Kd.R_drewN | apply Kd.R_drew)); exact HO_9.out))) (g := gb442) (o := .cells #[.int .i64 x443000_2, .int .i64 x443001_2, .int .i64 x443002_2, .int .i64 x443003_2, .int .i64 x443004_2] 70 (0, 0)) (blkq BK442.out)) (below_size bel)); have n2_ := Aside0.mk (blk_below (g := gb427) (o := .cells #[.int .i64 a1_0, .int .i64 a1_1, .int .i64 a1_2, .int .i64 a1_3] 40 (0, 0)) (blkq BK427.out) hb); have n3_ := Aside0.mk (blk_below (g := gb442) (o := .cells #[.int .i64 x443000_2, .int .i64 x443001_2, .int .i64 x443002_2, .int .i64 x443003_2, .int .i64 x443004_2] 70 (0, 0)) (blkq BK442.out) hb); have n4_ := Aside0.mk (below_step bel hb); clear HO_9 BK427 BK442 HB; have HO_9 := n0_; have HO463 := n1_; have BK427 := n2_; have BK442 := n3_; have HB := n4_; clear n0_ n1_ n2_ n3_ n4_ hb ho88; obtain ⟨Ao89, co89, eo89⟩ := Kd.R_slice HO463.out; subst eo89) | ((with_reducible refine gate_callee (f := 58) rfl ?_); refine goesL1 80 Try.func58 #[.slice Ao84 x9_2.length co84, .int .i64 t459, .slice Ao89 y461.length co89] ?_; (with_reducible refine (impl_Session_58.calls (fun k_ => some k_ = (.slice Ao84 x9_2.length co84 : Value).ownBlock) (.slice Ao84 x9_2.length co84) x9_2 t459 (fun k_ => some k_ = (.slice Ao89 y461.length co89 : Value).ownBlock) (.slice Ao89 y461.length co89) y461 t464 w _ ?side1 ?side2 ?side3 ?side4 ?side5 A68.out).mono ?_); (case side1 => exact bel); (case side2 => exact Kd.R_tight rfl HO_9.out); (case side3 => exact fun k_ e_ => (HO_9.out.1 k_ e_.symm).2); (case side4 => exact Kd.R_tight rfl HO463.out); (case side5 => exact fun k_ e_ => (HO463.out.1 k_ e_.symm).1.2); rintro e w90 ⟨v465, rfl, ho0, hb, hkp⟩; refine ⟨_, rfl, ?_⟩; have n0_ := Aside0.mk (blk_kept (blkq BK427.out) hkp (fun hs_ => Or.elim hs_ (fun e_ => (fun e_ => (Kd.R_ne HO_9.out BK427.out (by decide)) e_) e_) (fun e_ => (fun e_ => (Kd.R_ne HO463.out BK427.out (by decide)) e_) e_))); have n1_ := Aside0.mk (blk_kept (blkq BK442.out) hkp (fun hs_ => Or.elim hs_ (fun e_ => (fun e_ => (Kd.R_away HO_9.out (fun _ hk => hk.1)) e_) e_) (fun e_ => (fun e_ => (Kd.R_away HO463.out (fun _ hk => hk.2)) e_) e_))); have n2_ := Aside0.mk (Kd.R_mono (ok' := fun k_ => k_ ≠ gb442) ho0 (fun k_ hk_ => Or.elim hk_ (fun hs_ => Or.elim hs_ (fun hs_ => fun e_ => (Kd.R_away HO_9.out (fun _ hk => hk.1)) (by rw [← e_]; exact hs_)) (fun hs_ => fun e_ => (Kd.R_away HO463.out (fun _ hk => hk.2)) (by rw [← e_]; exact hs_))) (fun hn_ => (Kd.freshB (g := gb442) (o := .cells #[.int .i64 x443000_2, .int .i64 x443001_2, .int .i64 x443002_2, .int .i64 x443003_2, .int .i64 x443004_2] 70 (0, 0)) (blkq BK442.out) k_ hn_)))); have n3_ := Aside0.mk (hb); clear BK427 BK442 HB HO463 HO_9; have BK427 := n0_; have BK442 := n1_; have HO466 := n2_; have HB := n3_; clear n0_ n1_ n2_ n3_; (try clear hb); (try clear hkp); (try clear ho0); obtain ⟨Ao91, co91, eo91⟩ := Kd.R_slice HO466.out; subst eo91))
                go_ret2
                exact ⟨_, by first | rfl | (simp [errW_none, errW_some] <;> rfl) | (simp [*, errW_none, errW_some] <;> rfl), by (with_reducible repeat (first | apply Kd.R_alloc | apply Kd.R_drewN | apply Kd.R_drew)); exact Kd.R_mono HO466.out (fun _ hk => trivial), by repeat (first | (with_reducible first | exact HB.out | apply below_alloc | apply pw_below_drewN | apply below_drew1 | refine below_set ?_ GE427.out | refine below_set ?_ GE442.out) | exact HB.out)⟩
end Go.Proofs.Ytdjfnclheohhiaa.K
