/- Part 7 of a proof: walks of the given functions and laws over lists. -/
import Derived.Test.YthjdjknlcknkdaaCa6
namespace Go.Proofs.Ythjdjknlcknkdaa.K
open Go.RowKit Go.Proofs.YthjdjknlcknkdaaW.PrintWords Go.Proofs.YthjdjknlcknkdaaW.PrintLast Go.Proofs.YthjdjknlcknkdaaW.PrintMore Go.Proofs.YthjdjknlcknkdaaV
attribute [local go_sem] isSome_setCell max2_int min2_int max_two min_two max_three min_three max_four min_four   
set_option linter.unusedVariables false
set_option linter.unusedSimpArgs false
def laws_FnExactAddJoin.f (k : Nat) (l0_0 : List (S26)) (l0_1 : List (S26)) (a0_2 : Int) (a1 : Int) (a2 : Bool) (a3_0 : Int) (a3_1 : Int) (a3_2 : Int) (a3_3 : Int) : Option (Bool) := (laws_szJoin.f l0_0 l0_1 a0_2 1048576).bind fun t351 => (if t351 < 0 then (some true) else ((laws_toJoin.f k l0_0 l0_1 a0_2).bind fun bt352 => ((laws_toFrame.f a3_0 a3_1 a3_2 a3_3).bind fun bt359 => ((spec_AddJoin.f k bt352.1 bt352.2.1 bt352.2.2 a1 a2 bt359.1 bt359.2.1 bt359.2.2.1 bt359.2.2.2).bind fun bt363 => ((laws_toJoin.f k l0_0 l0_1 a0_2).bind fun bt375 => ((laws_toFrame.f a3_0 a3_1 a3_2 a3_3).bind fun bt383 => ((impl_AddJoin.f k bt375.1 bt375.2.1 bt375.2.2 a1 a2 bt383.1 bt383.2.1 bt383.2.2.1 bt383.2.2.2).bind fun bt387 => ((laws_eqJoin.f k bt387.1 bt387.2.1 bt387.2.2.1 bt363.1 bt363.2.1 bt363.2.2.1).bind fun t399 => (if t399 = true then ((laws_eqPairS.f k bt387.2.2.2.1 bt363.2.2.2.1).bind fun t400 => (if t400 = true then (if bt387.2.2.2.2 = bt363.2.2.2.2 then ((laws_toJoin.f k l0_0 l0_1 a0_2).bind fun bt401 => ((laws_eqJoin.f k bt375.1 bt375.2.1 bt375.2.2 bt401.1 bt401.2.1 bt401.2.2).bind fun t408 => (if t408 = true then ((laws_markJoin.f k bt375.1 bt375.2.1 bt375.2.2 1).bind fun bt409 => (if bt409.1 < 0 then (none) else ((laws_eqJoin.f k bt387.1 bt387.2.1 bt387.2.2.1 bt363.1 bt363.2.1 bt363.2.2.1).bind fun t412 => (if t412 = true then ((laws_eqPairS.f k bt387.2.2.2.1 bt363.2.2.2.1).bind fun t413 => (if t413 = true then ((laws_markJoin.f k bt387.1 bt387.2.1 bt387.2.2.1 1).bind fun bt414 => ((laws_markPairS.f k bt387.2.2.2.1 bt414.1).bind fun bt417 => ((laws_heldJoin.f k bt414.2.1 bt414.2.2 bt387.2.2.1 1).bind fun t419 => (if t419 < 0 then (none) else ((laws_heldPairS.f k bt417.2 t419).bind fun t420 => (if t420 < 0 then (none) else (if t420 = bt417.1 then ((laws_toJoin.f k l0_0 l0_1 a0_2).bind fun bt421 => ((laws_toFrame.f a3_0 a3_1 a3_2 a3_3).bind fun bt428 => ((impl_AddJoin.f k bt421.1 bt421.2.1 bt421.2.2 a1 a2 bt428.1 bt428.2.1 bt428.2.2.1 bt428.2.2.2).bind fun bt432 => ((laws_eqJoin.f k bt432.1 bt432.2.1 bt432.2.2.1 bt363.1 bt363.2.1 bt363.2.2.1).bind fun t444 => (if t444 = true then ((laws_eqPairS.f k bt432.2.2.2.1 bt363.2.2.2.1).bind fun t445 => (if t445 = true then (if bt432.2.2.2.2 = bt363.2.2.2.2 then ((laws_heldJoin.f k bt414.2.1 bt414.2.2 bt387.2.2.1 1).bind fun t446 => (if t446 < 0 then (none) else ((laws_heldPairS.f k bt417.2 t446).bind fun t447 => (if t447 < 0 then (none) else (if t447 = bt417.1 then (some true) else (none)))))) else (none)) else (none))) else (none)))))) else (none)))))))) else (none))) else (none))))) else (none)))) else (none)) else (none))) else (none))))))))))
theorem laws_FnExactAddJoin.mono : ∀ a0 a1 a2 a3 a4 a5 a6 a7 a8 k, LeO (laws_FnExactAddJoin.f k a0 a1 a2 a3 a4 a5 a6 a7 a8) (laws_FnExactAddJoin.f (k + 1) a0 a1 a2 a3 a4 a5 a6 a7 a8) := by
  intro a0 a1 a2 a3 a4 a5 a6 a7 a8 k
  unfold laws_FnExactAddJoin.f
  repeat' first
      | (with_reducible exact impl_AddJoin.mono _ _ _ _ _ _ _ _ _ _)
      | (with_reducible exact laws_eqJoin.mono _ _ _ _ _ _ _)
      | (with_reducible exact laws_eqPairS.mono _ _ _)
      | (with_reducible exact laws_heldJoin.mono _ _ _ _ _)
      | (with_reducible exact laws_heldPairS.mono _ _ _)
      | (with_reducible exact laws_markJoin.mono _ _ _ _ _)
      | (with_reducible exact laws_markPairS.mono _ _ _)
      | (with_reducible exact laws_toJoin.mono _ _ _ _)
      | (with_reducible exact spec_AddJoin.mono _ _ _ _ _ _ _ _ _ _)
      | (with_reducible exact LeO.refl _)
      | (with_reducible exact LeO.none _)
      | (with_reducible refine LeO.ite ?_ ?_)
      | (with_reducible refine LeO.bind ?_ (fun _ => ?_))
      | exact impl_AddJoin.mono _ _ _ _ _ _ _ _ _ _
      | exact laws_eqJoin.mono _ _ _ _ _ _ _
      | exact laws_eqPairS.mono _ _ _
      | exact laws_heldJoin.mono _ _ _ _ _
      | exact laws_heldPairS.mono _ _ _
      | exact laws_markJoin.mono _ _ _ _ _
      | exact laws_markPairS.mono _ _ _
      | exact laws_toJoin.mono _ _ _ _
      | exact spec_AddJoin.mono _ _ _ _ _ _ _ _ _ _
      | exact LeO.none _
      | refine LeO.ite ?_ ?_
      | refine LeO.bind ?_ (fun _ => ?_)
def laws_FnExactAddJoin.T5 : Bool × List (List Nat × List Nat) := (true, [([], []), ([0], [0]), ([], []), ([], []), ([], []), ([4, 1], [4]), ([1, 2, 3, 5, 5], [1, 2, 3, 5]), ([6], [6]), ([7], [7]), ([7], [7]), ([7], [7]), ([], []), ([11, 8, 6, 0, 1, 2, 3, 4, 5, 6, 7, 8, 11], [8, 11]), ([9, 12, 0, 1, 2, 3, 4, 5, 6, 7, 8, 9, 11, 12], [9]), ([10, 13, 0, 1, 2, 3, 4, 5, 6, 7, 8, 9, 10, 11, 12, 13], [10])])
def laws_FnExactAddJoin.B5 : List Nat := [0, 1, 0, 0, 0, 19, 63, 127, 255, 255, 255, 0, 2559, 7167, 16383]
theorem laws_FnExactAddJoin.tab5 : rtab .any (opsOf Try.f3 5) = laws_FnExactAddJoin.T5 := by kernel_rfl
theorem laws_FnExactAddJoin.bits5 : waitsOk laws_FnExactAddJoin.T5.2 laws_FnExactAddJoin.B5 = true := by kernel_rfl
def laws_FnExactAddJoin.T7 : Bool × List (List Nat × List Nat) := (true, [([], []), ([], []), ([], []), ([], []), ([3], [3]), ([0, 1, 2, 4, 4], [0, 1, 2, 4]), ([5], [5]), ([6], [6]), ([6], [6]), ([6], [6]), ([], []), ([10, 7, 5, 0, 1, 2, 3, 4, 5, 6, 7, 10], [7, 10]), ([8, 11, 0, 1, 2, 3, 4, 5, 6, 7, 8, 10, 11], [8]), ([9, 12, 0, 1, 2, 3, 4, 5, 6, 7, 8, 9, 10, 11, 12], [9])])
def laws_FnExactAddJoin.B7 : List Nat := [0, 0, 0, 0, 8, 31, 63, 127, 127, 127, 0, 1279, 3583, 8191]
theorem laws_FnExactAddJoin.tab7 : rtab .any (opsOf Try.f3 7) = laws_FnExactAddJoin.T7 := by kernel_rfl
theorem laws_FnExactAddJoin.bits7 : waitsOk laws_FnExactAddJoin.T7.2 laws_FnExactAddJoin.B7 = true := by kernel_rfl
def laws_FnExactAddJoin.T28 : Bool × List (List Nat × List Nat) := (true, [([], []), ([0], [0]), ([], []), ([], []), ([], []), ([4, 1], [4]), ([1, 2, 3, 5, 5], [1, 2, 3, 5]), ([6], [6]), ([7], [7]), ([7], [7]), ([7], [7]), ([], []), ([11, 8, 6, 0, 1, 2, 3, 4, 5, 6, 7, 8, 11], [8, 11]), ([9, 12, 0, 1, 2, 3, 4, 5, 6, 7, 8, 9, 11, 12], [9]), ([10, 13, 0, 1, 2, 3, 4, 5, 6, 7, 8, 9, 10, 11, 12, 13], [10])])
def laws_FnExactAddJoin.B28 : List Nat := [0, 1, 0, 0, 0, 19, 63, 127, 255, 255, 255, 0, 2559, 7167, 16383]
theorem laws_FnExactAddJoin.tab28 : rtab .any (opsOf Try.f3 28) = laws_FnExactAddJoin.T28 := by kernel_rfl
theorem laws_FnExactAddJoin.bits28 : waitsOk laws_FnExactAddJoin.T28.2 laws_FnExactAddJoin.B28 = true := by kernel_rfl
set_option maxHeartbeats 8000000 in
set_option maxRecDepth 100000 in
theorem laws_FnExactAddJoin.calls (k : Nat) (A0_0 : Option Addr) (c0_0 : Nat) (l0_0 : List (S26)) (A0_1 : Option Addr) (c0_1 : Nat) (l0_1 : List (S26)) (a0_2 : Int) (a1 : Int) (a2 : Bool) (a3_0 : Int) (a3_1 : Int) (a3_2 : Int) (a3_3 : Int) (r : Bool) (w : World) (hr0_0 : Kd.C k26 w A0_0 l0_0.length l0_0) (hc0_0 : l0_0.length ≤ c0_0) (hr0_1 : Kd.C k26 w A0_1 l0_1.length l0_1) (hc0_1 : l0_1.length ≤ c0_1) (h : laws_FnExactAddJoin.f k l0_0 l0_1 a0_2 a1 a2 a3_0 a3_1 a3_2 a3_3 = some r) :
    Calls Try.prog 3 #[.agg #[.slice A0_0 l0_0.length c0_0, .slice A0_1 l0_1.length c0_1, .int .i64 a0_2], .int .i64 a1, .bool a2, .agg #[.int .i64 a3_0, .int .i64 a3_1, .int .i64 a3_2, .int .i64 a3_3]] w fun e w' => e = .returned (.bool r) ∧ Below w.heap.size w w' := by
  have hu24 := Try.underlying24
  have hu26 := Try.underlying26
  have hu30 := Try.underlying30
  have HR0_0 := Aside0.mk hr0_0
  have HC0_0 := Aside0.mk hc0_0
  clear hr0_0 hc0_0
  have HR0_1 := Aside0.mk hr0_1
  have HC0_1 := Aside0.mk hc0_1
  clear hr0_1 hc0_1
  have HB := am (Below.refl w.heap.size w)
  have H : ((laws_szJoin.f l0_0 l0_1 a0_2 1048576).bind fun t351 => (if t351 < 0 then (some true) else ((laws_toJoin.f k l0_0 l0_1 a0_2).bind fun bt352 => ((laws_toFrame.f a3_0 a3_1 a3_2 a3_3).bind fun bt359 => ((spec_AddJoin.f k bt352.1 bt352.2.1 bt352.2.2 a1 a2 bt359.1 bt359.2.1 bt359.2.2.1 bt359.2.2.2).bind fun bt363 => ((laws_toJoin.f k l0_0 l0_1 a0_2).bind fun bt375 => ((laws_toFrame.f a3_0 a3_1 a3_2 a3_3).bind fun bt383 => ((impl_AddJoin.f k bt375.1 bt375.2.1 bt375.2.2 a1 a2 bt383.1 bt383.2.1 bt383.2.2.1 bt383.2.2.2).bind fun bt387 => ((laws_eqJoin.f k bt387.1 bt387.2.1 bt387.2.2.1 bt363.1 bt363.2.1 bt363.2.2.1).bind fun t399 => (if t399 = true then ((laws_eqPairS.f k bt387.2.2.2.1 bt363.2.2.2.1).bind fun t400 => (if t400 = true then (if bt387.2.2.2.2 = bt363.2.2.2.2 then ((laws_toJoin.f k l0_0 l0_1 a0_2).bind fun bt401 => ((laws_eqJoin.f k bt375.1 bt375.2.1 bt375.2.2 bt401.1 bt401.2.1 bt401.2.2).bind fun t408 => (if t408 = true then ((laws_markJoin.f k bt375.1 bt375.2.1 bt375.2.2 1).bind fun bt409 => (if bt409.1 < 0 then (none) else ((laws_eqJoin.f k bt387.1 bt387.2.1 bt387.2.2.1 bt363.1 bt363.2.1 bt363.2.2.1).bind fun t412 => (if t412 = true then ((laws_eqPairS.f k bt387.2.2.2.1 bt363.2.2.2.1).bind fun t413 => (if t413 = true then ((laws_markJoin.f k bt387.1 bt387.2.1 bt387.2.2.1 1).bind fun bt414 => ((laws_markPairS.f k bt387.2.2.2.1 bt414.1).bind fun bt417 => ((laws_heldJoin.f k bt414.2.1 bt414.2.2 bt387.2.2.1 1).bind fun t419 => (if t419 < 0 then (none) else ((laws_heldPairS.f k bt417.2 t419).bind fun t420 => (if t420 < 0 then (none) else (if t420 = bt417.1 then ((laws_toJoin.f k l0_0 l0_1 a0_2).bind fun bt421 => ((laws_toFrame.f a3_0 a3_1 a3_2 a3_3).bind fun bt428 => ((impl_AddJoin.f k bt421.1 bt421.2.1 bt421.2.2 a1 a2 bt428.1 bt428.2.1 bt428.2.2.1 bt428.2.2.2).bind fun bt432 => ((laws_eqJoin.f k bt432.1 bt432.2.1 bt432.2.2.1 bt363.1 bt363.2.1 bt363.2.2.1).bind fun t444 => (if t444 = true then ((laws_eqPairS.f k bt432.2.2.2.1 bt363.2.2.2.1).bind fun t445 => (if t445 = true then (if bt432.2.2.2.2 = bt363.2.2.2.2 then ((laws_heldJoin.f k bt414.2.1 bt414.2.2 bt387.2.2.1 1).bind fun t446 => (if t446 < 0 then (none) else ((laws_heldPairS.f k bt417.2 t446).bind fun t447 => (if t447 < 0 then (none) else (if t447 = bt417.1 then (some true) else (none)))))) else (none)) else (none))) else (none)))))) else (none)))))))) else (none))) else (none))))) else (none)))) else (none)) else (none))) else (none))))))))))) = some r := h
  clear h
  replace H := Option.bind_eq_some_iff.mp H
  obtain ⟨t351, A50, H⟩ := H
  (try dsimp only at H)
  have A5 := Aside0.mk A50
  clear A50
  by_cases c6 : t351 < 0
  · rw [if_pos c6] at H
    have c6b0 : decide (t351 < 0) = true := decide_eq_true c6
    clear c6
    obtain rfl := Option.some.inj H
    go_enter Try.func3, Try.ntmps3
    go_wp2_with (first | ((with_reducible refine gate_dst (N := 4) rfl ?_); refine box_event ?hg (N := 4) ?hd (cs := #[.slice A0_0 l0_0.length c0_0, .slice A0_1 l0_1.length c0_1, .int .i64 a0_2]) (t := 24) ?hr ?_; (case hd => rfl); (case hg => rfl); (case hr => first | (go_simp; done) | (go_simp; rfl)); intro gb349 hg w7 hbox hb; have BK349 := am (hbox); have GW349 := am ((by rw [hg]; exact (below_size bel) : w.heap.size ≤ gb349)); have GE349 := am ((by rw [hg]; exact (below_size bel) : w.heap.size ≤ gb349)); replace HB := am (below_step bel hb); clear hb hbox hg) | ((with_reducible refine gate_dst (N := 7) rfl ?_); refine box_event ?hg (N := 7) ?hd (cs := #[.int .i64 a3_0, .int .i64 a3_1, .int .i64 a3_2, .int .i64 a3_3]) (t := 26) ?hr ?_; (case hd => rfl); (case hg => rfl); (case hr => first | (go_simp; done) | (go_simp; rfl)); intro gb350 hg w8 hbox hb; have BK350 := am (hbox); have GW350 := am ((by rw [hg]; exact (below_size bel) : w.heap.size ≤ gb350)); have GE350 := am ((by rw [hg]; exact (below_size bel) : w.heap.size ≤ gb350)); replace HB := am (below_step bel hb); have NB349_350 := am ((by rw [hg]; exact Nat.ne_of_lt (blk_lt (blkq BK349.out)) : gb349 ≠ gb350)); have NB350_349 := am ((by rw [hg]; exact Nat.ne_of_gt (blk_lt (blkq BK349.out)) : gb350 ≠ gb349)); replace BK349 := am (blk_below (blkq BK349.out) hb); clear hb hbox hg; obtain ⟨hcz9_0, hcz9_1, hcz9_2, hfz9_0, hfz9_1, hfz9_2⟩ := blkc3 BK349.out) | ((with_reducible refine gate_callee (f := 8) rfl ?_); refine goesL1 25 Try.func8 #[.agg #[.slice A0_0 l0_0.length c0_0, .slice A0_1 l0_1.length c0_1, .int .i64 a0_2], .int .i64 1048576] ?_; (with_reducible refine (laws_szJoin.calls _ _ l0_0 _ _ l0_1 a0_2 1048576 t351 _ ?side1 ?side2 ?side3 ?side4 A5.out).mono ?_); (case side1 => repeat (first | exact (Kd.C_below HR0_0.out HB.out) | (with_reducible refine Kd.C_alloc ?_ _) | (with_reducible refine Kd.C_drewN ?_ _) | (with_reducible refine Kd.C_drew ?_))); (case side2 => exact HC0_0.out); (case side3 => repeat (first | exact (Kd.C_below HR0_1.out HB.out) | (with_reducible refine Kd.C_alloc ?_ _) | (with_reducible refine Kd.C_drewN ?_ _) | (with_reducible refine Kd.C_drew ?_))); (case side4 => exact HC0_1.out); rintro e w10 ⟨rfl, hb⟩; refine ⟨_, rfl, ?_⟩; replace HB := am (below_step bel hb); (try clear hb)))
    go_ret
    exact ⟨by first | rfl | (simp [errW_none, errW_some] <;> rfl) | (simp [*, errW_none, errW_some] <;> rfl), by repeat (first | (with_reducible first | exact HB.out | apply below_alloc | apply pw_below_drewN | apply below_drew1) | exact HB.out)⟩
  rw [if_neg c6] at H
  have c6b0 : decide (t351 < 0) = false := decide_eq_false c6
  clear c6
  replace H := Option.bind_eq_some_iff.mp H
  obtain ⟨⟨t352, t355, t358⟩, A110, H⟩ := H
  (try dsimp only at H)
  have A11 := Aside0.mk A110
  clear A110
  replace H := Option.bind_eq_some_iff.mp H
  obtain ⟨⟨t359, t360, t361, t362⟩, A120, H⟩ := H
  (try dsimp only at H)
  have A12 := Aside0.mk A120
  clear A120
  replace H := Option.bind_eq_some_iff.mp H
  obtain ⟨⟨t363, t366, t369, t370, t373⟩, A130, H⟩ := H
  (try dsimp only at H)
  have A13 := Aside0.mk A130
  clear A130
  replace H := Option.bind_eq_some_iff.mp H
  obtain ⟨⟨t375, t378, t381⟩, A140, H⟩ := H
  (try dsimp only at H)
  have A14 := Aside0.mk A140
  clear A140
  replace H := Option.bind_eq_some_iff.mp H
  obtain ⟨⟨t383, t384, t385, t386⟩, A150, H⟩ := H
  (try dsimp only at H)
  have A15 := Aside0.mk A150
  clear A150
  replace H := Option.bind_eq_some_iff.mp H
  obtain ⟨⟨t387, t390, t393, t394, t397⟩, A160, H⟩ := H
  (try dsimp only at H)
  have A16 := Aside0.mk A160
  clear A160
  replace H := Option.bind_eq_some_iff.mp H
  obtain ⟨t399, A170, H⟩ := H
  (try dsimp only at H)
  have A17 := Aside0.mk A170
  clear A170
  by_cases c18 : t399 = true
  rotate_left
  · replace c18 := Bool.eq_false_iff.mpr c18
    subst c18
    have H1 : (none) = some r := by rw [if_neg (show ¬ (false = true) by decide)] at H; exact H
    clear H
    have H := H1
    clear H1
    exact absurd H (by simp)
  subst c18
  have H1 : ((laws_eqPairS.f k t394 t370).bind fun t400 => (if t400 = true then (if t397 = t373 then ((laws_toJoin.f k l0_0 l0_1 a0_2).bind fun bt401 => ((laws_eqJoin.f k t375 t378 t381 bt401.1 bt401.2.1 bt401.2.2).bind fun t408 => (if t408 = true then ((laws_markJoin.f k t375 t378 t381 1).bind fun bt409 => (if bt409.1 < 0 then (none) else ((laws_eqJoin.f k t387 t390 t393 t363 t366 t369).bind fun t412 => (if t412 = true then ((laws_eqPairS.f k t394 t370).bind fun t413 => (if t413 = true then ((laws_markJoin.f k t387 t390 t393 1).bind fun bt414 => ((laws_markPairS.f k t394 bt414.1).bind fun bt417 => ((laws_heldJoin.f k bt414.2.1 bt414.2.2 t393 1).bind fun t419 => (if t419 < 0 then (none) else ((laws_heldPairS.f k bt417.2 t419).bind fun t420 => (if t420 < 0 then (none) else (if t420 = bt417.1 then ((laws_toJoin.f k l0_0 l0_1 a0_2).bind fun bt421 => ((laws_toFrame.f a3_0 a3_1 a3_2 a3_3).bind fun bt428 => ((impl_AddJoin.f k bt421.1 bt421.2.1 bt421.2.2 a1 a2 bt428.1 bt428.2.1 bt428.2.2.1 bt428.2.2.2).bind fun bt432 => ((laws_eqJoin.f k bt432.1 bt432.2.1 bt432.2.2.1 t363 t366 t369).bind fun t444 => (if t444 = true then ((laws_eqPairS.f k bt432.2.2.2.1 t370).bind fun t445 => (if t445 = true then (if bt432.2.2.2.2 = t373 then ((laws_heldJoin.f k bt414.2.1 bt414.2.2 t393 1).bind fun t446 => (if t446 < 0 then (none) else ((laws_heldPairS.f k bt417.2 t446).bind fun t447 => (if t447 < 0 then (none) else (if t447 = bt417.1 then (some true) else (none)))))) else (none)) else (none))) else (none)))))) else (none)))))))) else (none))) else (none))))) else (none)))) else (none)) else (none))) = some r := by rw [if_pos rfl] at H; exact H
  clear H
  have H := H1
  clear H1
  replace H := Option.bind_eq_some_iff.mp H
  obtain ⟨t400, A190, H⟩ := H
  (try dsimp only at H)
  have A19 := Aside0.mk A190
  clear A190
  by_cases c20 : t400 = true
  rotate_left
  · replace c20 := Bool.eq_false_iff.mpr c20
    subst c20
    have H1 : (none) = some r := by rw [if_neg (show ¬ (false = true) by decide)] at H; exact H
    clear H
    have H := H1
    clear H1
    exact absurd H (by simp)
  subst c20
  have H1 : (if t397 = t373 then ((laws_toJoin.f k l0_0 l0_1 a0_2).bind fun bt401 => ((laws_eqJoin.f k t375 t378 t381 bt401.1 bt401.2.1 bt401.2.2).bind fun t408 => (if t408 = true then ((laws_markJoin.f k t375 t378 t381 1).bind fun bt409 => (if bt409.1 < 0 then (none) else ((laws_eqJoin.f k t387 t390 t393 t363 t366 t369).bind fun t412 => (if t412 = true then ((laws_eqPairS.f k t394 t370).bind fun t413 => (if t413 = true then ((laws_markJoin.f k t387 t390 t393 1).bind fun bt414 => ((laws_markPairS.f k t394 bt414.1).bind fun bt417 => ((laws_heldJoin.f k bt414.2.1 bt414.2.2 t393 1).bind fun t419 => (if t419 < 0 then (none) else ((laws_heldPairS.f k bt417.2 t419).bind fun t420 => (if t420 < 0 then (none) else (if t420 = bt417.1 then ((laws_toJoin.f k l0_0 l0_1 a0_2).bind fun bt421 => ((laws_toFrame.f a3_0 a3_1 a3_2 a3_3).bind fun bt428 => ((impl_AddJoin.f k bt421.1 bt421.2.1 bt421.2.2 a1 a2 bt428.1 bt428.2.1 bt428.2.2.1 bt428.2.2.2).bind fun bt432 => ((laws_eqJoin.f k bt432.1 bt432.2.1 bt432.2.2.1 t363 t366 t369).bind fun t444 => (if t444 = true then ((laws_eqPairS.f k bt432.2.2.2.1 t370).bind fun t445 => (if t445 = true then (if bt432.2.2.2.2 = t373 then ((laws_heldJoin.f k bt414.2.1 bt414.2.2 t393 1).bind fun t446 => (if t446 < 0 then (none) else ((laws_heldPairS.f k bt417.2 t446).bind fun t447 => (if t447 < 0 then (none) else (if t447 = bt417.1 then (some true) else (none)))))) else (none)) else (none))) else (none)))))) else (none)))))))) else (none))) else (none))))) else (none)))) else (none)) = some r := by rw [if_pos rfl] at H; exact H
  clear H
  have H := H1
  clear H1
  by_cases c21 : t397 = t373
  rotate_left
  · rw [if_neg c21] at H
    exact absurd H (by simp)
  rw [if_pos c21] at H
  have c21b0 : (t397 == t373) = true := beq_iff_eq.mpr c21
  have c21b1 : (t397 != t373) = false := bne_eq_false_iff_eq.mpr c21
  clear c21
  replace H := Option.bind_eq_some_iff.mp H
  obtain ⟨⟨t401, t404, t407⟩, A220, H⟩ := H
  (try dsimp only at H)
  have A22 := Aside0.mk A220
  clear A220
  replace H := Option.bind_eq_some_iff.mp H
  obtain ⟨t408, A230, H⟩ := H
  (try dsimp only at H)
  have A23 := Aside0.mk A230
  clear A230
  by_cases c24 : t408 = true
  rotate_left
  · replace c24 := Bool.eq_false_iff.mpr c24
    subst c24
    have H1 : (none) = some r := by rw [if_neg (show ¬ (false = true) by decide)] at H; exact H
    clear H
    have H := H1
    clear H1
    exact absurd H (by simp)
  subst c24
  have H1 : ((laws_markJoin.f k t375 t378 t381 1).bind fun bt409 => (if bt409.1 < 0 then (none) else ((laws_eqJoin.f k t387 t390 t393 t363 t366 t369).bind fun t412 => (if t412 = true then ((laws_eqPairS.f k t394 t370).bind fun t413 => (if t413 = true then ((laws_markJoin.f k t387 t390 t393 1).bind fun bt414 => ((laws_markPairS.f k t394 bt414.1).bind fun bt417 => ((laws_heldJoin.f k bt414.2.1 bt414.2.2 t393 1).bind fun t419 => (if t419 < 0 then (none) else ((laws_heldPairS.f k bt417.2 t419).bind fun t420 => (if t420 < 0 then (none) else (if t420 = bt417.1 then ((laws_toJoin.f k l0_0 l0_1 a0_2).bind fun bt421 => ((laws_toFrame.f a3_0 a3_1 a3_2 a3_3).bind fun bt428 => ((impl_AddJoin.f k bt421.1 bt421.2.1 bt421.2.2 a1 a2 bt428.1 bt428.2.1 bt428.2.2.1 bt428.2.2.2).bind fun bt432 => ((laws_eqJoin.f k bt432.1 bt432.2.1 bt432.2.2.1 t363 t366 t369).bind fun t444 => (if t444 = true then ((laws_eqPairS.f k bt432.2.2.2.1 t370).bind fun t445 => (if t445 = true then (if bt432.2.2.2.2 = t373 then ((laws_heldJoin.f k bt414.2.1 bt414.2.2 t393 1).bind fun t446 => (if t446 < 0 then (none) else ((laws_heldPairS.f k bt417.2 t446).bind fun t447 => (if t447 < 0 then (none) else (if t447 = bt417.1 then (some true) else (none)))))) else (none)) else (none))) else (none)))))) else (none)))))))) else (none))) else (none))))) = some r := by rw [if_pos rfl] at H; exact H
  clear H
  have H := H1
  clear H1
  replace H := Option.bind_eq_some_iff.mp H
  obtain ⟨⟨t409, t410, t411⟩, A250, H⟩ := H
  (try dsimp only at H)
  have A25 := Aside0.mk A250
  clear A250
  by_cases c26 : t409 < 0
  · rw [if_pos c26] at H
    exact absurd H (by simp)
  rw [if_neg c26] at H
  have c26b0 : decide (t409 < 0) = false := decide_eq_false c26
  clear c26
  replace H := Option.bind_eq_some_iff.mp H
  obtain ⟨t412, A270, H⟩ := H
  (try dsimp only at H)
  have A27 := Aside0.mk A270
  clear A270
  by_cases c28 : t412 = true
  rotate_left
  · replace c28 := Bool.eq_false_iff.mpr c28
    subst c28
    have H1 : (none) = some r := by rw [if_neg (show ¬ (false = true) by decide)] at H; exact H
    clear H
    have H := H1
    clear H1
    exact absurd H (by simp)
  subst c28
  have H1 : ((laws_eqPairS.f k t394 t370).bind fun t413 => (if t413 = true then ((laws_markJoin.f k t387 t390 t393 1).bind fun bt414 => ((laws_markPairS.f k t394 bt414.1).bind fun bt417 => ((laws_heldJoin.f k bt414.2.1 bt414.2.2 t393 1).bind fun t419 => (if t419 < 0 then (none) else ((laws_heldPairS.f k bt417.2 t419).bind fun t420 => (if t420 < 0 then (none) else (if t420 = bt417.1 then ((laws_toJoin.f k l0_0 l0_1 a0_2).bind fun bt421 => ((laws_toFrame.f a3_0 a3_1 a3_2 a3_3).bind fun bt428 => ((impl_AddJoin.f k bt421.1 bt421.2.1 bt421.2.2 a1 a2 bt428.1 bt428.2.1 bt428.2.2.1 bt428.2.2.2).bind fun bt432 => ((laws_eqJoin.f k bt432.1 bt432.2.1 bt432.2.2.1 t363 t366 t369).bind fun t444 => (if t444 = true then ((laws_eqPairS.f k bt432.2.2.2.1 t370).bind fun t445 => (if t445 = true then (if bt432.2.2.2.2 = t373 then ((laws_heldJoin.f k bt414.2.1 bt414.2.2 t393 1).bind fun t446 => (if t446 < 0 then (none) else ((laws_heldPairS.f k bt417.2 t446).bind fun t447 => (if t447 < 0 then (none) else (if t447 = bt417.1 then (some true) else (none)))))) else (none)) else (none))) else (none)))))) else (none)))))))) else (none))) = some r := by rw [if_pos rfl] at H; exact H
  clear H
  have H := H1
  clear H1
  replace H := Option.bind_eq_some_iff.mp H
  obtain ⟨t413, A290, H⟩ := H
  (try dsimp only at H)
  have A29 := Aside0.mk A290
  clear A290
  by_cases c30 : t413 = true
  rotate_left
  · replace c30 := Bool.eq_false_iff.mpr c30
    subst c30
    have H1 : (none) = some r := by rw [if_neg (show ¬ (false = true) by decide)] at H; exact H
    clear H
    have H := H1
    clear H1
    exact absurd H (by simp)
  subst c30
  have H1 : ((laws_markJoin.f k t387 t390 t393 1).bind fun bt414 => ((laws_markPairS.f k t394 bt414.1).bind fun bt417 => ((laws_heldJoin.f k bt414.2.1 bt414.2.2 t393 1).bind fun t419 => (if t419 < 0 then (none) else ((laws_heldPairS.f k bt417.2 t419).bind fun t420 => (if t420 < 0 then (none) else (if t420 = bt417.1 then ((laws_toJoin.f k l0_0 l0_1 a0_2).bind fun bt421 => ((laws_toFrame.f a3_0 a3_1 a3_2 a3_3).bind fun bt428 => ((impl_AddJoin.f k bt421.1 bt421.2.1 bt421.2.2 a1 a2 bt428.1 bt428.2.1 bt428.2.2.1 bt428.2.2.2).bind fun bt432 => ((laws_eqJoin.f k bt432.1 bt432.2.1 bt432.2.2.1 t363 t366 t369).bind fun t444 => (if t444 = true then ((laws_eqPairS.f k bt432.2.2.2.1 t370).bind fun t445 => (if t445 = true then (if bt432.2.2.2.2 = t373 then ((laws_heldJoin.f k bt414.2.1 bt414.2.2 t393 1).bind fun t446 => (if t446 < 0 then (none) else ((laws_heldPairS.f k bt417.2 t446).bind fun t447 => (if t447 < 0 then (none) else (if t447 = bt417.1 then (some true) else (none)))))) else (none)) else (none))) else (none)))))) else (none)))))))) = some r := by rw [if_pos rfl] at H; exact H
  clear H
  have H := H1
  clear H1
  replace H := Option.bind_eq_some_iff.mp H
  obtain ⟨⟨t414, t415, t416⟩, A310, H⟩ := H
  (try dsimp only at H)
  have A31 := Aside0.mk A310
  clear A310
  replace H := Option.bind_eq_some_iff.mp H
  obtain ⟨⟨t417, t418⟩, A320, H⟩ := H
  (try dsimp only at H)
  have A32 := Aside0.mk A320
  clear A320
  replace H := Option.bind_eq_some_iff.mp H
  obtain ⟨t419, A330, H⟩ := H
  (try dsimp only at H)
  have A33 := Aside0.mk A330
  clear A330
  by_cases c34 : t419 < 0
  · rw [if_pos c34] at H
    exact absurd H (by simp)
  rw [if_neg c34] at H
  have c34b0 : decide (t419 < 0) = false := decide_eq_false c34
  clear c34
  replace H := Option.bind_eq_some_iff.mp H
  obtain ⟨t420, A350, H⟩ := H
  (try dsimp only at H)
  have A35 := Aside0.mk A350
  clear A350
  by_cases c36 : t420 < 0
  · rw [if_pos c36] at H
    exact absurd H (by simp)
  rw [if_neg c36] at H
  have c36b0 : decide (t420 < 0) = false := decide_eq_false c36
  clear c36
  by_cases c37 : t420 = t417
  rotate_left
  · rw [if_neg c37] at H
    exact absurd H (by simp)
  rw [if_pos c37] at H
  have c37b0 : (t420 == t417) = true := beq_iff_eq.mpr c37
  have c37b1 : (t420 != t417) = false := bne_eq_false_iff_eq.mpr c37
  clear c37
  replace H := Option.bind_eq_some_iff.mp H
  obtain ⟨⟨t421, t424, t427⟩, A380, H⟩ := H
  (try dsimp only at H)
  have A38 := Aside0.mk A380
  clear A380
  replace H := Option.bind_eq_some_iff.mp H
  obtain ⟨⟨t428, t429, t430, t431⟩, A390, H⟩ := H
  (try dsimp only at H)
  have A39 := Aside0.mk A390
  clear A390
  replace H := Option.bind_eq_some_iff.mp H
  obtain ⟨⟨t432, t435, t438, t439, t442⟩, A400, H⟩ := H
  (try dsimp only at H)
  have A40 := Aside0.mk A400
  clear A400
  replace H := Option.bind_eq_some_iff.mp H
  obtain ⟨t444, A410, H⟩ := H
  (try dsimp only at H)
  have A41 := Aside0.mk A410
  clear A410
  by_cases c42 : t444 = true
  rotate_left
  · replace c42 := Bool.eq_false_iff.mpr c42
    subst c42
    have H1 : (none) = some r := by rw [if_neg (show ¬ (false = true) by decide)] at H; exact H
    clear H
    have H := H1
    clear H1
    exact absurd H (by simp)
  subst c42
  have H1 : ((laws_eqPairS.f k t439 t370).bind fun t445 => (if t445 = true then (if t442 = t373 then ((laws_heldJoin.f k t415 t416 t393 1).bind fun t446 => (if t446 < 0 then (none) else ((laws_heldPairS.f k t418 t446).bind fun t447 => (if t447 < 0 then (none) else (if t447 = t417 then (some true) else (none)))))) else (none)) else (none))) = some r := by rw [if_pos rfl] at H; exact H
  clear H
  have H := H1
  clear H1
  replace H := Option.bind_eq_some_iff.mp H
  obtain ⟨t445, A430, H⟩ := H
  (try dsimp only at H)
  have A43 := Aside0.mk A430
  clear A430
  by_cases c44 : t445 = true
  rotate_left
  · replace c44 := Bool.eq_false_iff.mpr c44
    subst c44
    have H1 : (none) = some r := by rw [if_neg (show ¬ (false = true) by decide)] at H; exact H
    clear H
    have H := H1
    clear H1
    exact absurd H (by simp)
  subst c44
  have H1 : (if t442 = t373 then ((laws_heldJoin.f k t415 t416 t393 1).bind fun t446 => (if t446 < 0 then (none) else ((laws_heldPairS.f k t418 t446).bind fun t447 => (if t447 < 0 then (none) else (if t447 = t417 then (some true) else (none)))))) else (none)) = some r := by rw [if_pos rfl] at H; exact H
  clear H
  have H := H1
  clear H1
  by_cases c45 : t442 = t373
  rotate_left
  · rw [if_neg c45] at H
    exact absurd H (by simp)
  rw [if_pos c45] at H
  have c45b0 : (t442 == t373) = true := beq_iff_eq.mpr c45
  have c45b1 : (t442 != t373) = false := bne_eq_false_iff_eq.mpr c45
  clear c45
  replace H := Option.bind_eq_some_iff.mp H
  obtain ⟨t446, A460, H⟩ := H
  (try dsimp only at H)
  have A46 := Aside0.mk A460
  clear A460
  by_cases c47 : t446 < 0
  · rw [if_pos c47] at H
    exact absurd H (by simp)
  rw [if_neg c47] at H
  have c47b0 : decide (t446 < 0) = false := decide_eq_false c47
  clear c47
  replace H := Option.bind_eq_some_iff.mp H
  obtain ⟨t447, A480, H⟩ := H
  (try dsimp only at H)
  have A48 := Aside0.mk A480
  clear A480
  by_cases c49 : t447 < 0
  · rw [if_pos c49] at H
    exact absurd H (by simp)
  rw [if_neg c49] at H
  have c49b0 : decide (t447 < 0) = false := decide_eq_false c49
  clear c49
  by_cases c50 : t447 = t417
  rotate_left
  · rw [if_neg c50] at H
    exact absurd H (by simp)
  rw [if_pos c50] at H
  have c50b0 : (t447 == t417) = true := beq_iff_eq.mpr c50
  have c50b1 : (t447 != t417) = false := bne_eq_false_iff_eq.mpr c50
  clear c50
  obtain rfl := Option.some.inj H
  go_enter Try.func3, Try.ntmps3
  try go_wp2_with (first | ((with_reducible refine gate_dst (N := 4) rfl ?_); refine box_event ?hg (N := 4) ?hd (cs := #[.slice A0_0 l0_0.length c0_0, .slice A0_1 l0_1.length c0_1, .int .i64 a0_2]) (t := 24) ?hr ?_; (case hd => rfl); (case hg => rfl); (case hr => first | (go_simp; done) | (go_simp; rfl)); intro gb349 hg w51 hbox hb; have BK349 := am (hbox); have GW349 := am ((by rw [hg]; exact (below_size bel) : w.heap.size ≤ gb349)); have GE349 := am ((by rw [hg]; exact (below_size bel) : w.heap.size ≤ gb349)); replace HB := am (below_step bel hb); clear hb hbox hg) | ((with_reducible refine gate_dst (N := 7) rfl ?_); refine box_event ?hg (N := 7) ?hd (cs := #[.int .i64 a3_0, .int .i64 a3_1, .int .i64 a3_2, .int .i64 a3_3]) (t := 26) ?hr ?_; (case hd => rfl); (case hg => rfl); (case hr => first | (go_simp; done) | (go_simp; rfl)); intro gb350 hg w52 hbox hb; have BK350 := am (hbox); have GW350 := am ((by rw [hg]; exact (below_size bel) : w.heap.size ≤ gb350)); have GE350 := am ((by rw [hg]; exact (below_size bel) : w.heap.size ≤ gb350)); replace HB := am (below_step bel hb); have NB349_350 := am ((by rw [hg]; exact Nat.ne_of_lt (blk_lt (blkq BK349.out)) : gb349 ≠ gb350)); have NB350_349 := am ((by rw [hg]; exact Nat.ne_of_gt (blk_lt (blkq BK349.out)) : gb350 ≠ gb349)); replace BK349 := am (blk_below (blkq BK349.out) hb); clear hb hbox hg; have hnb53 := NB349_350.out; have hnc53 := NB350_349.out; obtain ⟨hcz54_0, hcz54_1, hcz54_2, hfz54_0, hfz54_1, hfz54_2⟩ := blkc3 BK349.out) | ((with_reducible refine gate_callee (f := 8) rfl ?_); refine goesL1 25 Try.func8 #[.agg #[.slice A0_0 l0_0.length c0_0, .slice A0_1 l0_1.length c0_1, .int .i64 a0_2], .int .i64 1048576] ?_; (with_reducible refine (laws_szJoin.calls _ _ l0_0 _ _ l0_1 a0_2 1048576 t351 _ ?side1 ?side2 ?side3 ?side4 A5.out).mono ?_); (case side1 => repeat (first | exact (Kd.C_below HR0_0.out HB.out) | (with_reducible refine Kd.C_alloc ?_ _) | (with_reducible refine Kd.C_drewN ?_ _) | (with_reducible refine Kd.C_drew ?_))); (case side2 => exact HC0_0.out); (case side3 => repeat (first | exact (Kd.C_below HR0_1.out HB.out) | (with_reducible refine Kd.C_alloc ?_ _) | (with_reducible refine Kd.C_drewN ?_ _) | (with_reducible refine Kd.C_drew ?_))); (case side4 => exact HC0_1.out); rintro e w55 ⟨rfl, hb⟩; refine ⟨_, rfl, ?_⟩; replace BK349 := am (blk_below (blkq BK349.out) hb); replace BK350 := am (blk_below (blkq BK350.out) hb); replace HB := am (below_step bel hb); (try clear hb)))
  replace BK349 := am (blk_drew BK349.out)
  replace BK350 := am (blk_drew BK350.out)
  replace HB := am (below_drew1 HB.out)
  refine start_ (n := 15) (S := fun w' => w'.cell? ⟨gb349, 0, none⟩ = some (.slice A0_0 l0_0.length c0_0) ∧ w'.cell? ⟨gb349, 1, none⟩ = some (.slice A0_1 l0_1.length c0_1) ∧ w'.cell? ⟨gb349, 2, none⟩ = some (.int .i64 a0_2) ∧ w'.cell? ⟨gb350, 0, none⟩ = some (.int .i64 a3_0) ∧ w'.cell? ⟨gb350, 1, none⟩ = some (.int .i64 a3_1) ∧ w'.cell? ⟨gb350, 2, none⟩ = some (.int .i64 a3_2) ∧ w'.cell? ⟨gb350, 3, none⟩ = some (.int .i64 a3_3)) (ds := []) #[false, false, false, false, false, false, false, false, false, false, false, false, false, false, false] (by kernel_rfl) rfl rfl ⟨(blk_cell BK349.out 0).trans rfl, (blk_cell BK349.out 1).trans rfl, (blk_cell BK349.out 2).trans rfl, (blk_cell BK350.out 0).trans rfl, (blk_cell BK350.out 1).trans rfl, (blk_cell BK350.out 2).trans rfl, (blk_cell BK350.out 3).trans rfl⟩ (fun hHeld => ?_); refine with_tabW laws_FnExactAddJoin.tab5 laws_FnExactAddJoin.bits5 (fun HT_ HW_ => ?_)
  generalize w55.drew = w56 at BK349 BK350 HB hHeld ⊢
  refine pure_ (i := 2) (N := some 31) (v := ?_) (a' := ?_) #[false, false, true, false, false, false, false, false, false, false, false, false, false, false, false] rfl rfl (any_of HT_.out (by kernel_rfl)) (fun _ _ _ h => h) (Or.inl ⟨by rfl, ?_⟩) ?_ ?_
  rotate_left
  · intro w'
    go_simp
    with_reducible rfl
  rotate_left
  · simp only [Act.put, List.setIfInBounds_toArray, List.set_cons_zero, List.set_cons_succ, i64_w, i32_w]
    rfl
  refine pure_ (i := 3) (N := some 32) (v := ?_) (a' := ?_) #[false, false, true, true, false, false, false, false, false, false, false, false, false, false, false] rfl rfl (any_of HT_.out (by kernel_rfl)) (fun _ _ _ h => h) (Or.inl ⟨by rfl, ?_⟩) ?_ ?_
  rotate_left
  · intro w'
    go_simp
    with_reducible rfl
  rotate_left
  · simp only [Act.put, List.setIfInBounds_toArray, List.set_cons_zero, List.set_cons_succ, i64_w, i32_w]
    rfl
  refine take_ (i := 0) (N := some 29) (v := ?_) (a' := ?_) #[true, false, true, true, false, false, false, false, false, false, false, false, false, false, false] rfl rfl (take_ofW HT_.out HW_.out (by kernel_rfl)) (fun _ _ _ h => h) (Or.inl ⟨by rfl, ?_⟩) hHeld ?_ ?_
  rotate_left
  · rintro w' ⟨s0, s1, s2, s3, s4, s5, s6⟩
    go_simp
    with_reducible rfl
  rotate_left
  · simp only [Act.put, List.setIfInBounds_toArray, List.set_cons_zero, List.set_cons_succ, i64_w, i32_w]
    rfl
  refine take_ (i := 4) (N := some 33) (v := ?_) (a' := ?_) #[true, false, true, true, true, false, false, false, false, false, false, false, false, false, false] rfl rfl (take_ofW HT_.out HW_.out (by kernel_rfl)) (fun _ _ _ h => h) (Or.inl ⟨by rfl, ?_⟩) hHeld ?_ ?_
  rotate_left
  · rintro w' ⟨s0, s1, s2, s3, s4, s5, s6⟩
    go_simp
    with_reducible rfl
  rotate_left
  · simp only [Act.put, List.setIfInBounds_toArray, List.set_cons_zero, List.set_cons_succ, i64_w, i32_w]
    rfl
  refine join_ (σ := Value × Value × Value × Value × Value × Nat) 3 #[true, true, true, true, true, true, true, true, true, true, true, true, false, false, false] (fun s_ => [(30, .agg #[s_.1, s_.2.1, .int .i64 t358]), (34, .agg #[.int .i64 t359, .int .i64 t360, .int .i64 t361, .int .i64 t362]), (35, .tuple #[.agg #[s_.2.2.1, s_.2.2.2.1, .int .i64 t369], s_.2.2.2.2.1, .int .i64 t373]), (10, .pointer (some ⟨s_.2.2.2.2.2, 0, none⟩)), (28, .tuple #[.agg #[s_.2.2.1, s_.2.2.2.1, .int .i64 t369], s_.2.2.2.2.1, .int .i64 t373]), (36, .agg #[s_.2.2.1, s_.2.2.2.1, .int .i64 t369]), (37, s_.2.2.2.2.1), (38, .int .i64 t373)]) (fun s_ w' => (w'.cell? ⟨gb349, 0, none⟩ = some (.slice A0_0 l0_0.length c0_0) ∧ w'.cell? ⟨gb349, 1, none⟩ = some (.slice A0_1 l0_1.length c0_1) ∧ w'.cell? ⟨gb349, 2, none⟩ = some (.int .i64 a0_2) ∧ w'.cell? ⟨gb350, 0, none⟩ = some (.int .i64 a3_0) ∧ w'.cell? ⟨gb350, 1, none⟩ = some (.int .i64 a3_1) ∧ w'.cell? ⟨gb350, 2, none⟩ = some (.int .i64 a3_2) ∧ w'.cell? ⟨gb350, 3, none⟩ = some (.int .i64 a3_3)) ∧ (Kd.R k35 35 w' w.heap.size (fun k_ => some k_ ≠ (s_.2.1 : Value).ownBlock ∧ some k_ ≠ (s_.2.2.1 : Value).ownBlock ∧ some k_ ≠ (s_.2.2.2.1 : Value).ownBlock) s_.1 t352) ∧ (Kd.R k35 35 w' w.heap.size (fun k_ => some k_ ≠ (s_.1 : Value).ownBlock ∧ some k_ ≠ (s_.2.2.1 : Value).ownBlock ∧ some k_ ≠ (s_.2.2.2.1 : Value).ownBlock) s_.2.1 t355) ∧ (Kd.R k35 35 w' w.heap.size (fun k_ => some k_ ≠ (s_.1 : Value).ownBlock ∧ some k_ ≠ (s_.2.1 : Value).ownBlock ∧ some k_ ≠ (s_.2.2.2.1 : Value).ownBlock) s_.2.2.1 t363) ∧ (Kd.R k35 35 w' w.heap.size (fun k_ => some k_ ≠ (s_.1 : Value).ownBlock ∧ some k_ ≠ (s_.2.1 : Value).ownBlock ∧ some k_ ≠ (s_.2.2.1 : Value).ownBlock) s_.2.2.2.1 t366) ∧ (Kd.R k75 75 w' w.heap.size (fun _ => True) s_.2.2.2.2.1 t370) ∧ (w'.heap[gb349]? = some (.cells #[.slice A0_0 l0_0.length c0_0, .slice A0_1 l0_1.length c0_1, .int .i64 a0_2] 24 (0, 0))) ∧ (w'.heap[gb350]? = some (.cells #[.int .i64 a3_0, .int .i64 a3_1, .int .i64 a3_2, .int .i64 a3_3] 26 (0, 0))) ∧ (w'.heap[s_.2.2.2.2.2]? = some (.cells #[.slice none 0 0, .slice none 0 0, .int .i64 0] 30 (0, 0))) ∧ (w.heap.size ≤ s_.2.2.2.2.2) ∧ (w.heap.size ≤ s_.2.2.2.2.2) ∧ (gb349 ≠ s_.2.2.2.2.2) ∧ (s_.2.2.2.2.2 ≠ gb349) ∧ (gb350 ≠ s_.2.2.2.2.2) ∧ (s_.2.2.2.2.2 ≠ gb350) ∧ (Below w.heap.size w w')) ?_ ?_
  rotate_left
  · intro hCont
    refine two_ (i := 1) (j := 11) (Ni := some 30) (Nj := some 10) #[true, true, true, true, true, false, false, false, false, false, false, false, false, false, false] #[true, false, true, true, true, false, false, false, false, false, false, true, false, false, false] rfl rfl rfl rfl (two_of HT_.out (by kernel_rfl)) (by decide) (by decide) (fun K hK => ?_) (fun K hK => ?_)
    · skip
      refine goes_ Try.func10 (by kernel_rfl) rfl #[.agg #[.slice A0_0 l0_0.length c0_0, .slice A0_1 l0_1.length c0_1, .int .i64 a0_2]] (by rfl) rfl rfl (by (try simp only [List.map_toArray, List.map_cons, List.map_nil]); first | done | rfl | (simp only [List.length_drop, List.length_take]; rfl)) ?_
      with_reducible refine (laws_toJoin.calls k _ _ l0_0 _ _ l0_1 a0_2 t352 t355 t358 _ ?side1 ?side2 ?side3 ?side4 A11.out).mono ?_
      (case side1 => repeat (first | exact (Kd.C_below HR0_0.out HB.out) | (with_reducible refine Kd.C_alloc ?_ _) | (with_reducible refine Kd.C_drewN ?_ _) | (with_reducible refine Kd.C_drew ?_)))
      (case side2 => exact HC0_0.out)
      (case side3 => repeat (first | exact (Kd.C_below HR0_1.out HB.out) | (with_reducible refine Kd.C_alloc ?_ _) | (with_reducible refine Kd.C_drewN ?_ _) | (with_reducible refine Kd.C_drew ?_)))
      (case side4 => exact HC0_1.out)
      rintro e w57 ⟨v353, v356, rfl, ho0, ho1, hb⟩
      refine ⟨_, rfl, ?_⟩
      have HO354 := am (Kd.R_lower ho0 (below_size bel))
      have HO357 := am (Kd.R_lower ho1 (below_size bel))
      replace BK349 := am (blk_below (blkq BK349.out) hb)
      replace BK350 := am (blk_below (blkq BK350.out) hb)
      replace HB := am (below_step bel hb)
      (try clear hb)
      (try clear ho0)
      (try clear ho1)
      refine hK.out _ _ ⟨(blk_cell BK349.out 0).trans rfl, (blk_cell BK349.out 1).trans rfl, (blk_cell BK349.out 2).trans rfl, (blk_cell BK350.out 0).trans rfl, (blk_cell BK350.out 1).trans rfl, (blk_cell BK350.out 2).trans rfl, (blk_cell BK350.out 3).trans rfl⟩ (fun hHeld => ?_)
      clear hK K
      refine norm_ (a' := ?_) ?_ ?_
      rotate_left
      · show Act.put _ (some 30) _ = _
        simp only [Act.put, List.setIfInBounds_toArray, List.set_cons_zero, List.set_cons_succ, i64_w, i32_w]
        rfl
      refine two_ (i := 5) (j := 11) (Ni := some 34) (Nj := some 10) #[true, true, true, true, true, true, false, false, false, false, false, false, false, false, false] #[true, true, true, true, true, false, false, false, false, false, false, true, false, false, false] rfl rfl rfl rfl (two_of HT_.out (by kernel_rfl)) (by decide) (by decide) (fun K hK => ?_) (fun K hK => ?_)
      · skip
        refine goes_ Try.func11 (by kernel_rfl) rfl #[.agg #[.int .i64 a3_0, .int .i64 a3_1, .int .i64 a3_2, .int .i64 a3_3]] (by rfl) rfl rfl (by (try simp only [List.map_toArray, List.map_cons, List.map_nil]); first | done | rfl | (simp only [List.length_drop, List.length_take]; rfl)) ?_
        with_reducible refine (laws_toFrame.calls a3_0 a3_1 a3_2 a3_3 t359 t360 t361 t362 _ A12.out).mono ?_
        rintro e w58 ⟨rfl, hb⟩
        refine ⟨_, rfl, ?_⟩
        replace HO354 := am (Kd.R_below (rq HO354.out) hb)
        replace HO357 := am (Kd.R_below (rq HO357.out) hb)
        replace BK349 := am (blk_below (blkq BK349.out) hb)
        replace BK350 := am (blk_below (blkq BK350.out) hb)
        replace HB := am (below_step bel hb)
        (try clear hb)
        obtain ⟨Ao59, co59, eo59⟩ := Kd.R_slice HO354.out
        (first | subst eo59 | (injection eo59 with f1_ f2_ f3_; have f4_ := f1_.symm; have f5_ := f3_.symm; clear f1_ f2_ f3_; subst f4_; subst f5_))
        obtain ⟨Ao60, co60, eo60⟩ := Kd.R_slice HO357.out
        (first | subst eo60 | (injection eo60 with f1_ f2_ f3_; have f4_ := f1_.symm; have f5_ := f3_.symm; clear f1_ f2_ f3_; subst f4_; subst f5_))
        refine hK.out _ _ ⟨(blk_cell BK349.out 0).trans rfl, (blk_cell BK349.out 1).trans rfl, (blk_cell BK349.out 2).trans rfl, (blk_cell BK350.out 0).trans rfl, (blk_cell BK350.out 1).trans rfl, (blk_cell BK350.out 2).trans rfl, (blk_cell BK350.out 3).trans rfl⟩ (fun hHeld => ?_)
        clear hK K
        refine norm_ (a' := ?_) ?_ ?_
        rotate_left
        · show Act.put _ (some 34) _ = _
          simp only [Act.put, List.setIfInBounds_toArray, List.set_cons_zero, List.set_cons_succ, i64_w, i32_w]
          rfl
        refine two_ (i := 6) (j := 11) (Ni := some 35) (Nj := some 10) #[true, true, true, true, true, true, true, false, false, false, false, false, false, false, false] #[true, true, true, true, true, true, false, false, false, false, false, true, false, false, false] rfl rfl rfl rfl (two_of HT_.out (by kernel_rfl)) (by decide) (by decide) (fun K hK => ?_) (fun K hK => ?_)
        · skip
          refine goes_ Try.func9 (by kernel_rfl) rfl #[.agg #[.slice Ao59 t352.length co59, .slice Ao60 t355.length co60, .int .i64 t358], .int .i64 a1, .bool a2, .agg #[.int .i64 t359, .int .i64 t360, .int .i64 t361, .int .i64 t362]] (by rfl) rfl rfl (by (try simp only [List.map_toArray, List.map_cons, List.map_nil]); first | done | rfl | (simp only [List.length_drop, List.length_take]; rfl)) ?_
          with_reducible refine (spec_AddJoin.calls k (ob (sv Ao59 t352 co59)) _ _ t352 (ob (sv Ao60 t355 co60)) _ _ t355 t358 a1 a2 t359 t360 t361 t362 t363 t366 t369 t370 t373 _ ?side1 ?side2 A13.out).mono ?_
          (case side1 => exact Kd.R_V (Kd.R_tight rfl (Kd.R_types (Kd.R_types (HO354.out) BK349.out (by decide)) BK350.out (by decide))))
          (case side2 => exact Kd.R_V (Kd.R_tight rfl (Kd.R_types (Kd.R_types (HO357.out) BK349.out (by decide)) BK350.out (by decide))))
          rintro e w61 ⟨v364, v367, v371, rfl, ho0, ho1, ho2, hb⟩
          refine ⟨_, rfl, ?_⟩
          have HO365 := am (Kd.R_lower (Kd.R_new' (Kd.R_new' (Kd.R_mono (ok' := fun k_ => nb k_ v367) ho0 (fun _ hk_ => hk_.2)) (Kd.R_lt (rq HO354.out))) (Kd.R_lt (rq HO357.out))) (below_size bel))
          have HO368 := am (Kd.R_lower (Kd.R_new' (Kd.R_new' (Kd.R_mono (ok' := fun k_ => nb k_ v364) ho1 (fun _ hk_ => hk_.2)) (Kd.R_lt (rq HO354.out))) (Kd.R_lt (rq HO357.out))) (below_size bel))
          replace HO354 := am (Kd.R_mono (Kd.R_told (Kd.R_told (Kd.R_old (rq HO354.out) hb) (Kd.R_base ho0)) (Kd.R_base ho1)) (fun _ h_ => h_.1))
          replace HO357 := am (Kd.R_mono (Kd.R_told (Kd.R_told (Kd.R_old (rq HO357.out) hb) (Kd.R_base ho0)) (Kd.R_base ho1)) (fun _ h_ => h_.1))
          have HO372 := am (Kd.R_lower (Kd.R_mono (ok' := fun k_ => True) ho2 (fun _ hk_ => trivial)) (below_size bel))
          replace BK349 := am (blk_below (blkq BK349.out) hb)
          replace BK350 := am (blk_below (blkq BK350.out) hb)
          replace HB := am (below_step bel hb)
          (try clear hb)
          (try clear ho0)
          (try clear ho1)
          (try clear ho2)
          refine hK.out _ _ ⟨(blk_cell BK349.out 0).trans rfl, (blk_cell BK349.out 1).trans rfl, (blk_cell BK349.out 2).trans rfl, (blk_cell BK350.out 0).trans rfl, (blk_cell BK350.out 1).trans rfl, (blk_cell BK350.out 2).trans rfl, (blk_cell BK350.out 3).trans rfl⟩ (fun hHeld => ?_)
          clear hK K
          refine norm_ (a' := ?_) ?_ ?_
          rotate_left
          · show Act.put _ (some 35) _ = _
            simp only [Act.put, List.setIfInBounds_toArray, List.set_cons_zero, List.set_cons_succ, i64_w, i32_w]
            rfl
          refine pure_ (i := 7) (N := some 28) (v := ?_) (a' := ?_) #[true, true, true, true, true, true, true, true, false, false, false, false, false, false, false] rfl rfl (any_of HT_.out (by kernel_rfl)) (fun _ _ _ h => h) (Or.inl ⟨by rfl, ?_⟩) ?_ ?_
          rotate_left
          · intro w'
            go_simp
            with_reducible rfl
          rotate_left
          · simp only [Act.put, List.setIfInBounds_toArray, List.set_cons_zero, List.set_cons_succ, i64_w, i32_w]
            rfl
          refine pure_ (i := 8) (N := some 36) (v := ?_) (a' := ?_) #[true, true, true, true, true, true, true, true, true, false, false, false, false, false, false] rfl rfl (any_of HT_.out (by kernel_rfl)) (fun _ _ _ h => h) (Or.inl ⟨by rfl, ?_⟩) ?_ ?_
          rotate_left
          · intro w'
            go_simp
            with_reducible rfl
          rotate_left
          · simp only [Act.put, List.setIfInBounds_toArray, List.set_cons_zero, List.set_cons_succ, i64_w, i32_w]
            rfl
          refine pure_ (i := 9) (N := some 37) (v := ?_) (a' := ?_) #[true, true, true, true, true, true, true, true, true, true, false, false, false, false, false] rfl rfl (any_of HT_.out (by kernel_rfl)) (fun _ _ _ h => h) (Or.inl ⟨by rfl, ?_⟩) ?_ ?_
          rotate_left
          · intro w'
            go_simp
            with_reducible rfl
          rotate_left
          · simp only [Act.put, List.setIfInBounds_toArray, List.set_cons_zero, List.set_cons_succ, i64_w, i32_w]
            rfl
          refine pure_ (i := 10) (N := some 38) (v := ?_) (a' := ?_) #[true, true, true, true, true, true, true, true, true, true, true, false, false, false, false] rfl rfl (any_of HT_.out (by kernel_rfl)) (fun _ _ _ h => h) (Or.inl ⟨by rfl, ?_⟩) ?_ ?_
          rotate_left
          · intro w'
            go_simp
            with_reducible rfl
          rotate_left
          · simp only [Act.put, List.setIfInBounds_toArray, List.set_cons_zero, List.set_cons_succ, i64_w, i32_w]
            rfl
          refine one_ (i := 11) (N := some 10) #[true, true, true, true, true, true, true, true, true, true, true, true, false, false, false] rfl rfl (one_of HT_.out (by kernel_rfl)) (by decide) (fun K hK => ?_)
          refine box_step ?hg (N := 10) ?hd (cs := #[.slice none 0 0, .slice none 0 0, .int .i64 0]) (t := 30) ?hr ?_; (case hd => rfl); (case hg => rfl); (case hr => first | (go_simp; done) | (go_simp; rfl))
          intro gb374 hg w62 hbox hb
          replace HO354 := am (Kd.R_below (rq HO354.out) hb)
          replace HO357 := am (Kd.R_below (rq HO357.out) hb)
          replace HO365 := am (Kd.R_below (rq HO365.out) hb)
          replace HO368 := am (Kd.R_below (rq HO368.out) hb)
          replace HO372 := am (Kd.R_below (rq HO372.out) hb)
          have BK374 := am (hbox)
          have GW374 := am ((by rw [hg]; exact (below_size bel) : w.heap.size ≤ gb374))
          have GE374 := am ((by rw [hg]; exact (below_size bel) : w.heap.size ≤ gb374))
          replace HB := am (below_step bel hb)
          have NB349_374 := am ((by rw [hg]; exact Nat.ne_of_lt (blk_lt (blkq BK349.out)) : gb349 ≠ gb374))
          have NB374_349 := am ((by rw [hg]; exact Nat.ne_of_gt (blk_lt (blkq BK349.out)) : gb374 ≠ gb349))
          replace BK349 := am (blk_below (blkq BK349.out) hb)
          have NB350_374 := am ((by rw [hg]; exact Nat.ne_of_lt (blk_lt (blkq BK350.out)) : gb350 ≠ gb374))
          have NB374_350 := am ((by rw [hg]; exact Nat.ne_of_gt (blk_lt (blkq BK350.out)) : gb374 ≠ gb350))
          replace BK350 := am (blk_below (blkq BK350.out) hb)
          clear hb hbox hg
          refine hK.out _ _ ⟨(blk_cell BK349.out 0).trans rfl, (blk_cell BK349.out 1).trans rfl, (blk_cell BK349.out 2).trans rfl, (blk_cell BK350.out 0).trans rfl, (blk_cell BK350.out 1).trans rfl, (blk_cell BK350.out 2).trans rfl, (blk_cell BK350.out 3).trans rfl⟩ (fun hHeld => ?_)
          clear hK K
          refine norm_ (a' := ?_) ?_ ?_
          rotate_left
          · show Act.put _ (some 10) _ = _
            simp only [Act.put, List.setIfInBounds_toArray, List.set_cons_zero, List.set_cons_succ, i64_w, i32_w]
            rfl
          exact norm_ (by simp only [putAll, Act.put, List.setIfInBounds_toArray, List.set_cons_zero, List.set_cons_succ]) (hCont (.slice Ao59 t352.length co59, .slice Ao60 t355.length co60, v364, v367, v371, gb374) _ ⟨hHeld, (by (with_reducible repeat (first | apply Kd.R_alloc | apply Kd.R_drewN | apply Kd.R_drew)); exact Kd.R_mono HO354.out (fun _ hk => ⟨hk.1.1, ⟨hk.1.2, hk.2⟩⟩)), (by (with_reducible repeat (first | apply Kd.R_alloc | apply Kd.R_drewN | apply Kd.R_drew)); exact Kd.R_mono HO357.out (fun _ hk => ⟨hk.1.1, ⟨hk.1.2, hk.2⟩⟩)), (by (with_reducible repeat (first | apply Kd.R_alloc | apply Kd.R_drewN | apply Kd.R_drew)); exact Kd.R_mono HO365.out (fun _ hk => ⟨hk.1.2, ⟨hk.2, hk.1.1⟩⟩)), (by (with_reducible repeat (first | apply Kd.R_alloc | apply Kd.R_drewN | apply Kd.R_drew)); exact Kd.R_mono HO368.out (fun _ hk => ⟨hk.1.2, ⟨hk.2, hk.1.1⟩⟩)), (rq HO372.out), (blkq BK349.out), (blkq BK350.out), (blkq BK374.out), GW374.out, GE374.out, NB349_374.out, NB374_349.out, NB350_374.out, NB374_350.out, bel⟩)
        · skip
          refine box_step ?hg (N := 10) ?hd (cs := #[.slice none 0 0, .slice none 0 0, .int .i64 0]) (t := 30) ?hr ?_; (case hd => rfl); (case hg => rfl); (case hr => first | (go_simp; done) | (go_simp; rfl))
          intro gb374 hg w59 hbox hb
          replace HO354 := am (Kd.R_below (rq HO354.out) hb)
          replace HO357 := am (Kd.R_below (rq HO357.out) hb)
          have BK374 := am (hbox)
          have GW374 := am ((by rw [hg]; exact (below_size bel) : w.heap.size ≤ gb374))
          have GE374 := am ((by rw [hg]; exact (below_size bel) : w.heap.size ≤ gb374))
          replace HB := am (below_step bel hb)
          have NB349_374 := am ((by rw [hg]; exact Nat.ne_of_lt (blk_lt (blkq BK349.out)) : gb349 ≠ gb374))
          have NB374_349 := am ((by rw [hg]; exact Nat.ne_of_gt (blk_lt (blkq BK349.out)) : gb374 ≠ gb349))
          replace BK349 := am (blk_below (blkq BK349.out) hb)
          have NB350_374 := am ((by rw [hg]; exact Nat.ne_of_lt (blk_lt (blkq BK350.out)) : gb350 ≠ gb374))
          have NB374_350 := am ((by rw [hg]; exact Nat.ne_of_gt (blk_lt (blkq BK350.out)) : gb374 ≠ gb350))
          replace BK350 := am (blk_below (blkq BK350.out) hb)
          clear hb hbox hg
          obtain ⟨Ao60, co60, eo60⟩ := Kd.R_slice HO354.out
          (first | subst eo60 | (injection eo60 with f1_ f2_ f3_; have f4_ := f1_.symm; have f5_ := f3_.symm; clear f1_ f2_ f3_; subst f4_; subst f5_))
          obtain ⟨Ao61, co61, eo61⟩ := Kd.R_slice HO357.out
          (first | subst eo61 | (injection eo61 with f1_ f2_ f3_; have f4_ := f1_.symm; have f5_ := f3_.symm; clear f1_ f2_ f3_; subst f4_; subst f5_))
          refine hK.out _ _ ⟨(blk_cell BK349.out 0).trans rfl, (blk_cell BK349.out 1).trans rfl, (blk_cell BK349.out 2).trans rfl, (blk_cell BK350.out 0).trans rfl, (blk_cell BK350.out 1).trans rfl, (blk_cell BK350.out 2).trans rfl, (blk_cell BK350.out 3).trans rfl⟩ (fun hHeld => ?_)
          clear hK K
          refine norm_ (a' := ?_) ?_ ?_
          rotate_left
          · show Act.put _ (some 10) _ = _
            simp only [Act.put, List.setIfInBounds_toArray, List.set_cons_zero, List.set_cons_succ, i64_w, i32_w]
            rfl
          refine one_ (i := 6) (N := some 35) #[true, true, true, true, true, true, true, false, false, false, false, true, false, false, false] rfl rfl (one_of HT_.out (by kernel_rfl)) (by decide) (fun K hK => ?_)
          refine goes_ Try.func9 (by kernel_rfl) rfl #[.agg #[.slice Ao60 t352.length co60, .slice Ao61 t355.length co61, .int .i64 t358], .int .i64 a1, .bool a2, .agg #[.int .i64 t359, .int .i64 t360, .int .i64 t361, .int .i64 t362]] (by rfl) rfl rfl (by (try simp only [List.map_toArray, List.map_cons, List.map_nil]); first | done | rfl | (simp only [List.length_drop, List.length_take]; rfl)) ?_
          with_reducible refine (spec_AddJoin.calls k (ob (sv Ao60 t352 co60)) _ _ t352 (ob (sv Ao61 t355 co61)) _ _ t355 t358 a1 a2 t359 t360 t361 t362 t363 t366 t369 t370 t373 _ ?side1 ?side2 A13.out).mono ?_
          (case side1 => exact Kd.R_V (Kd.R_tight rfl (Kd.R_types (Kd.R_types (Kd.R_types (HO354.out) BK349.out (by decide)) BK350.out (by decide)) BK374.out (by decide))))
          (case side2 => exact Kd.R_V (Kd.R_tight rfl (Kd.R_types (Kd.R_types (Kd.R_types (HO357.out) BK349.out (by decide)) BK350.out (by decide)) BK374.out (by decide))))
          rintro e w62 ⟨v364, v367, v371, rfl, ho0, ho1, ho2, hb⟩
          refine ⟨_, rfl, ?_⟩
          have HO365 := am (Kd.R_lower (Kd.R_new' (Kd.R_new' (Kd.R_mono (ok' := fun k_ => nb k_ v367) ho0 (fun _ hk_ => hk_.2)) (Kd.R_lt (rq HO354.out))) (Kd.R_lt (rq HO357.out))) (below_size bel))
          have HO368 := am (Kd.R_lower (Kd.R_new' (Kd.R_new' (Kd.R_mono (ok' := fun k_ => nb k_ v364) ho1 (fun _ hk_ => hk_.2)) (Kd.R_lt (rq HO354.out))) (Kd.R_lt (rq HO357.out))) (below_size bel))
          replace HO354 := am (Kd.R_mono (Kd.R_told (Kd.R_told (Kd.R_old (rq HO354.out) hb) (Kd.R_base ho0)) (Kd.R_base ho1)) (fun _ h_ => h_.1))
          replace HO357 := am (Kd.R_mono (Kd.R_told (Kd.R_told (Kd.R_old (rq HO357.out) hb) (Kd.R_base ho0)) (Kd.R_base ho1)) (fun _ h_ => h_.1))
          have HO372 := am (Kd.R_lower (Kd.R_mono (ok' := fun k_ => True) ho2 (fun _ hk_ => trivial)) (below_size bel))
          replace BK349 := am (blk_below (blkq BK349.out) hb)
          replace BK350 := am (blk_below (blkq BK350.out) hb)
          replace BK374 := am (blk_below (blkq BK374.out) hb)
          replace HB := am (below_step bel hb)
          (try clear hb)
          (try clear ho0)
          (try clear ho1)
          (try clear ho2)
          refine hK.out _ _ ⟨(blk_cell BK349.out 0).trans rfl, (blk_cell BK349.out 1).trans rfl, (blk_cell BK349.out 2).trans rfl, (blk_cell BK350.out 0).trans rfl, (blk_cell BK350.out 1).trans rfl, (blk_cell BK350.out 2).trans rfl, (blk_cell BK350.out 3).trans rfl⟩ (fun hHeld => ?_)
          clear hK K
          refine norm_ (a' := ?_) ?_ ?_
          rotate_left
          · show Act.put _ (some 35) _ = _
            simp only [Act.put, List.setIfInBounds_toArray, List.set_cons_zero, List.set_cons_succ, i64_w, i32_w]
            rfl
          refine pure_ (i := 7) (N := some 28) (v := ?_) (a' := ?_) #[true, true, true, true, true, true, true, true, false, false, false, true, false, false, false] rfl rfl (any_of HT_.out (by kernel_rfl)) (fun _ _ _ h => h) (Or.inl ⟨by rfl, ?_⟩) ?_ ?_
          rotate_left
          · intro w'
            go_simp
            with_reducible rfl
          rotate_left
          · simp only [Act.put, List.setIfInBounds_toArray, List.set_cons_zero, List.set_cons_succ, i64_w, i32_w]
            rfl
          refine pure_ (i := 8) (N := some 36) (v := ?_) (a' := ?_) #[true, true, true, true, true, true, true, true, true, false, false, true, false, false, false] rfl rfl (any_of HT_.out (by kernel_rfl)) (fun _ _ _ h => h) (Or.inl ⟨by rfl, ?_⟩) ?_ ?_
          rotate_left
          · intro w'
            go_simp
            with_reducible rfl
          rotate_left
          · simp only [Act.put, List.setIfInBounds_toArray, List.set_cons_zero, List.set_cons_succ, i64_w, i32_w]
            rfl
          refine pure_ (i := 9) (N := some 37) (v := ?_) (a' := ?_) #[true, true, true, true, true, true, true, true, true, true, false, true, false, false, false] rfl rfl (any_of HT_.out (by kernel_rfl)) (fun _ _ _ h => h) (Or.inl ⟨by rfl, ?_⟩) ?_ ?_
          rotate_left
          · intro w'
            go_simp
            with_reducible rfl
          rotate_left
          · simp only [Act.put, List.setIfInBounds_toArray, List.set_cons_zero, List.set_cons_succ, i64_w, i32_w]
            rfl
          refine pure_ (i := 10) (N := some 38) (v := ?_) (a' := ?_) #[true, true, true, true, true, true, true, true, true, true, true, true, false, false, false] rfl rfl (any_of HT_.out (by kernel_rfl)) (fun _ _ _ h => h) (Or.inl ⟨by rfl, ?_⟩) ?_ ?_
          rotate_left
          · intro w'
            go_simp
            with_reducible rfl
          rotate_left
          · simp only [Act.put, List.setIfInBounds_toArray, List.set_cons_zero, List.set_cons_succ, i64_w, i32_w]
            rfl
          exact norm_ (by simp only [putAll, Act.put, List.setIfInBounds_toArray, List.set_cons_zero, List.set_cons_succ]) (hCont (.slice Ao60 t352.length co60, .slice Ao61 t355.length co61, v364, v367, v371, gb374) _ ⟨hHeld, (by (with_reducible repeat (first | apply Kd.R_alloc | apply Kd.R_drewN | apply Kd.R_drew)); exact Kd.R_mono HO354.out (fun _ hk => ⟨hk.1.1, ⟨hk.1.2, hk.2⟩⟩)), (by (with_reducible repeat (first | apply Kd.R_alloc | apply Kd.R_drewN | apply Kd.R_drew)); exact Kd.R_mono HO357.out (fun _ hk => ⟨hk.1.1, ⟨hk.1.2, hk.2⟩⟩)), (by (with_reducible repeat (first | apply Kd.R_alloc | apply Kd.R_drewN | apply Kd.R_drew)); exact Kd.R_mono HO365.out (fun _ hk => ⟨hk.1.2, ⟨hk.2, hk.1.1⟩⟩)), (by (with_reducible repeat (first | apply Kd.R_alloc | apply Kd.R_drewN | apply Kd.R_drew)); exact Kd.R_mono HO368.out (fun _ hk => ⟨hk.1.2, ⟨hk.2, hk.1.1⟩⟩)), (rq HO372.out), (blkq BK349.out), (blkq BK350.out), (blkq BK374.out), GW374.out, GE374.out, NB349_374.out, NB374_349.out, NB350_374.out, NB374_350.out, bel⟩)
      · skip
        refine box_step ?hg (N := 10) ?hd (cs := #[.slice none 0 0, .slice none 0 0, .int .i64 0]) (t := 30) ?hr ?_; (case hd => rfl); (case hg => rfl); (case hr => first | (go_simp; done) | (go_simp; rfl))
        intro gb374 hg w58 hbox hb
        replace HO354 := am (Kd.R_below (rq HO354.out) hb)
        replace HO357 := am (Kd.R_below (rq HO357.out) hb)
        have BK374 := am (hbox)
        have GW374 := am ((by rw [hg]; exact (below_size bel) : w.heap.size ≤ gb374))
        have GE374 := am ((by rw [hg]; exact (below_size bel) : w.heap.size ≤ gb374))
        replace HB := am (below_step bel hb)
        have NB349_374 := am ((by rw [hg]; exact Nat.ne_of_lt (blk_lt (blkq BK349.out)) : gb349 ≠ gb374))
        have NB374_349 := am ((by rw [hg]; exact Nat.ne_of_gt (blk_lt (blkq BK349.out)) : gb374 ≠ gb349))
        replace BK349 := am (blk_below (blkq BK349.out) hb)
        have NB350_374 := am ((by rw [hg]; exact Nat.ne_of_lt (blk_lt (blkq BK350.out)) : gb350 ≠ gb374))
        have NB374_350 := am ((by rw [hg]; exact Nat.ne_of_gt (blk_lt (blkq BK350.out)) : gb374 ≠ gb350))
        replace BK350 := am (blk_below (blkq BK350.out) hb)
        clear hb hbox hg
        refine hK.out _ _ ⟨(blk_cell BK349.out 0).trans rfl, (blk_cell BK349.out 1).trans rfl, (blk_cell BK349.out 2).trans rfl, (blk_cell BK350.out 0).trans rfl, (blk_cell BK350.out 1).trans rfl, (blk_cell BK350.out 2).trans rfl, (blk_cell BK350.out 3).trans rfl⟩ (fun hHeld => ?_)
        clear hK K
        refine norm_ (a' := ?_) ?_ ?_
        rotate_left
        · show Act.put _ (some 10) _ = _
          simp only [Act.put, List.setIfInBounds_toArray, List.set_cons_zero, List.set_cons_succ, i64_w, i32_w]
          rfl
        refine one_ (i := 5) (N := some 34) #[true, true, true, true, true, true, false, false, false, false, false, true, false, false, false] rfl rfl (one_of HT_.out (by kernel_rfl)) (by decide) (fun K hK => ?_)
        refine goes_ Try.func11 (by kernel_rfl) rfl #[.agg #[.int .i64 a3_0, .int .i64 a3_1, .int .i64 a3_2, .int .i64 a3_3]] (by rfl) rfl rfl (by (try simp only [List.map_toArray, List.map_cons, List.map_nil]); first | done | rfl | (simp only [List.length_drop, List.length_take]; rfl)) ?_
        with_reducible refine (laws_toFrame.calls a3_0 a3_1 a3_2 a3_3 t359 t360 t361 t362 _ A12.out).mono ?_
        rintro e w59 ⟨rfl, hb⟩
        refine ⟨_, rfl, ?_⟩
        replace HO354 := am (Kd.R_below (rq HO354.out) hb)
        replace HO357 := am (Kd.R_below (rq HO357.out) hb)
        replace BK349 := am (blk_below (blkq BK349.out) hb)
        replace BK350 := am (blk_below (blkq BK350.out) hb)
        replace BK374 := am (blk_below (blkq BK374.out) hb)
        replace HB := am (below_step bel hb)
        (try clear hb)
        obtain ⟨Ao60, co60, eo60⟩ := Kd.R_slice HO354.out
        (first | subst eo60 | (injection eo60 with f1_ f2_ f3_; have f4_ := f1_.symm; have f5_ := f3_.symm; clear f1_ f2_ f3_; subst f4_; subst f5_))
        obtain ⟨Ao61, co61, eo61⟩ := Kd.R_slice HO357.out
        (first | subst eo61 | (injection eo61 with f1_ f2_ f3_; have f4_ := f1_.symm; have f5_ := f3_.symm; clear f1_ f2_ f3_; subst f4_; subst f5_))
        refine hK.out _ _ ⟨(blk_cell BK349.out 0).trans rfl, (blk_cell BK349.out 1).trans rfl, (blk_cell BK349.out 2).trans rfl, (blk_cell BK350.out 0).trans rfl, (blk_cell BK350.out 1).trans rfl, (blk_cell BK350.out 2).trans rfl, (blk_cell BK350.out 3).trans rfl⟩ (fun hHeld => ?_)
        clear hK K
        refine norm_ (a' := ?_) ?_ ?_
        rotate_left
        · show Act.put _ (some 34) _ = _
          simp only [Act.put, List.setIfInBounds_toArray, List.set_cons_zero, List.set_cons_succ, i64_w, i32_w]
          rfl
        refine one_ (i := 6) (N := some 35) #[true, true, true, true, true, true, true, false, false, false, false, true, false, false, false] rfl rfl (one_of HT_.out (by kernel_rfl)) (by decide) (fun K hK => ?_)
        refine goes_ Try.func9 (by kernel_rfl) rfl #[.agg #[.slice Ao60 t352.length co60, .slice Ao61 t355.length co61, .int .i64 t358], .int .i64 a1, .bool a2, .agg #[.int .i64 t359, .int .i64 t360, .int .i64 t361, .int .i64 t362]] (by rfl) rfl rfl (by (try simp only [List.map_toArray, List.map_cons, List.map_nil]); first | done | rfl | (simp only [List.length_drop, List.length_take]; rfl)) ?_
        with_reducible refine (spec_AddJoin.calls k (ob (sv Ao60 t352 co60)) _ _ t352 (ob (sv Ao61 t355 co61)) _ _ t355 t358 a1 a2 t359 t360 t361 t362 t363 t366 t369 t370 t373 _ ?side1 ?side2 A13.out).mono ?_
        (case side1 => exact Kd.R_V (Kd.R_tight rfl (Kd.R_types (Kd.R_types (Kd.R_types (HO354.out) BK349.out (by decide)) BK350.out (by decide)) BK374.out (by decide))))
        (case side2 => exact Kd.R_V (Kd.R_tight rfl (Kd.R_types (Kd.R_types (Kd.R_types (HO357.out) BK349.out (by decide)) BK350.out (by decide)) BK374.out (by decide))))
        rintro e w62 ⟨v364, v367, v371, rfl, ho0, ho1, ho2, hb⟩
        refine ⟨_, rfl, ?_⟩
        have HO365 := am (Kd.R_lower (Kd.R_new' (Kd.R_new' (Kd.R_mono (ok' := fun k_ => nb k_ v367) ho0 (fun _ hk_ => hk_.2)) (Kd.R_lt (rq HO354.out))) (Kd.R_lt (rq HO357.out))) (below_size bel))
        have HO368 := am (Kd.R_lower (Kd.R_new' (Kd.R_new' (Kd.R_mono (ok' := fun k_ => nb k_ v364) ho1 (fun _ hk_ => hk_.2)) (Kd.R_lt (rq HO354.out))) (Kd.R_lt (rq HO357.out))) (below_size bel))
        replace HO354 := am (Kd.R_mono (Kd.R_told (Kd.R_told (Kd.R_old (rq HO354.out) hb) (Kd.R_base ho0)) (Kd.R_base ho1)) (fun _ h_ => h_.1))
        replace HO357 := am (Kd.R_mono (Kd.R_told (Kd.R_told (Kd.R_old (rq HO357.out) hb) (Kd.R_base ho0)) (Kd.R_base ho1)) (fun _ h_ => h_.1))
        have HO372 := am (Kd.R_lower (Kd.R_mono (ok' := fun k_ => True) ho2 (fun _ hk_ => trivial)) (below_size bel))
        replace BK349 := am (blk_below (blkq BK349.out) hb)
        replace BK350 := am (blk_below (blkq BK350.out) hb)
        replace BK374 := am (blk_below (blkq BK374.out) hb)
        replace HB := am (below_step bel hb)
        (try clear hb)
        (try clear ho0)
        (try clear ho1)
        (try clear ho2)
        refine hK.out _ _ ⟨(blk_cell BK349.out 0).trans rfl, (blk_cell BK349.out 1).trans rfl, (blk_cell BK349.out 2).trans rfl, (blk_cell BK350.out 0).trans rfl, (blk_cell BK350.out 1).trans rfl, (blk_cell BK350.out 2).trans rfl, (blk_cell BK350.out 3).trans rfl⟩ (fun hHeld => ?_)
        clear hK K
        refine norm_ (a' := ?_) ?_ ?_
        rotate_left
        · show Act.put _ (some 35) _ = _
          simp only [Act.put, List.setIfInBounds_toArray, List.set_cons_zero, List.set_cons_succ, i64_w, i32_w]
          rfl
        refine pure_ (i := 7) (N := some 28) (v := ?_) (a' := ?_) #[true, true, true, true, true, true, true, true, false, false, false, true, false, false, false] rfl rfl (any_of HT_.out (by kernel_rfl)) (fun _ _ _ h => h) (Or.inl ⟨by rfl, ?_⟩) ?_ ?_
        rotate_left
        · intro w'
          go_simp
          with_reducible rfl
        rotate_left
        · simp only [Act.put, List.setIfInBounds_toArray, List.set_cons_zero, List.set_cons_succ, i64_w, i32_w]
          rfl
        refine pure_ (i := 8) (N := some 36) (v := ?_) (a' := ?_) #[true, true, true, true, true, true, true, true, true, false, false, true, false, false, false] rfl rfl (any_of HT_.out (by kernel_rfl)) (fun _ _ _ h => h) (Or.inl ⟨by rfl, ?_⟩) ?_ ?_
        rotate_left
        · intro w'
          go_simp
          with_reducible rfl
        rotate_left
        · simp only [Act.put, List.setIfInBounds_toArray, List.set_cons_zero, List.set_cons_succ, i64_w, i32_w]
          rfl
        refine pure_ (i := 9) (N := some 37) (v := ?_) (a' := ?_) #[true, true, true, true, true, true, true, true, true, true, false, true, false, false, false] rfl rfl (any_of HT_.out (by kernel_rfl)) (fun _ _ _ h => h) (Or.inl ⟨by rfl, ?_⟩) ?_ ?_
        rotate_left
        · intro w'
          go_simp
          with_reducible rfl
        rotate_left
        · simp only [Act.put, List.setIfInBounds_toArray, List.set_cons_zero, List.set_cons_succ, i64_w, i32_w]
          rfl
        refine pure_ (i := 10) (N := some 38) (v := ?_) (a' := ?_) #[true, true, true, true, true, true, true, true, true, true, true, true, false, false, false] rfl rfl (any_of HT_.out (by kernel_rfl)) (fun _ _ _ h => h) (Or.inl ⟨by rfl, ?_⟩) ?_ ?_
        rotate_left
        · intro w'
          go_simp
          with_reducible rfl
        rotate_left
        · simp only [Act.put, List.setIfInBounds_toArray, List.set_cons_zero, List.set_cons_succ, i64_w, i32_w]
          rfl
        exact norm_ (by simp only [putAll, Act.put, List.setIfInBounds_toArray, List.set_cons_zero, List.set_cons_succ]) (hCont (.slice Ao60 t352.length co60, .slice Ao61 t355.length co61, v364, v367, v371, gb374) _ ⟨hHeld, (by (with_reducible repeat (first | apply Kd.R_alloc | apply Kd.R_drewN | apply Kd.R_drew)); exact Kd.R_mono HO354.out (fun _ hk => ⟨hk.1.1, ⟨hk.1.2, hk.2⟩⟩)), (by (with_reducible repeat (first | apply Kd.R_alloc | apply Kd.R_drewN | apply Kd.R_drew)); exact Kd.R_mono HO357.out (fun _ hk => ⟨hk.1.1, ⟨hk.1.2, hk.2⟩⟩)), (by (with_reducible repeat (first | apply Kd.R_alloc | apply Kd.R_drewN | apply Kd.R_drew)); exact Kd.R_mono HO365.out (fun _ hk => ⟨hk.1.2, ⟨hk.2, hk.1.1⟩⟩)), (by (with_reducible repeat (first | apply Kd.R_alloc | apply Kd.R_drewN | apply Kd.R_drew)); exact Kd.R_mono HO368.out (fun _ hk => ⟨hk.1.2, ⟨hk.2, hk.1.1⟩⟩)), (rq HO372.out), (blkq BK349.out), (blkq BK350.out), (blkq BK374.out), GW374.out, GE374.out, NB349_374.out, NB374_349.out, NB350_374.out, NB374_350.out, bel⟩)
    · skip
      refine box_step ?hg (N := 10) ?hd (cs := #[.slice none 0 0, .slice none 0 0, .int .i64 0]) (t := 30) ?hr ?_; (case hd => rfl); (case hg => rfl); (case hr => first | (go_simp; done) | (go_simp; rfl))
      intro gb374 hg w57 hbox hb
      have BK374 := am (hbox)
      have GW374 := am ((by rw [hg]; exact (below_size bel) : w.heap.size ≤ gb374))
      have GE374 := am ((by rw [hg]; exact (below_size bel) : w.heap.size ≤ gb374))
      replace HB := am (below_step bel hb)
      have NB349_374 := am ((by rw [hg]; exact Nat.ne_of_lt (blk_lt (blkq BK349.out)) : gb349 ≠ gb374))
      have NB374_349 := am ((by rw [hg]; exact Nat.ne_of_gt (blk_lt (blkq BK349.out)) : gb374 ≠ gb349))
      replace BK349 := am (blk_below (blkq BK349.out) hb)
      have NB350_374 := am ((by rw [hg]; exact Nat.ne_of_lt (blk_lt (blkq BK350.out)) : gb350 ≠ gb374))
      have NB374_350 := am ((by rw [hg]; exact Nat.ne_of_gt (blk_lt (blkq BK350.out)) : gb374 ≠ gb350))
      replace BK350 := am (blk_below (blkq BK350.out) hb)
      clear hb hbox hg
      refine hK.out _ _ ⟨(blk_cell BK349.out 0).trans rfl, (blk_cell BK349.out 1).trans rfl, (blk_cell BK349.out 2).trans rfl, (blk_cell BK350.out 0).trans rfl, (blk_cell BK350.out 1).trans rfl, (blk_cell BK350.out 2).trans rfl, (blk_cell BK350.out 3).trans rfl⟩ (fun hHeld => ?_)
      clear hK K
      refine norm_ (a' := ?_) ?_ ?_
      rotate_left
      · show Act.put _ (some 10) _ = _
        simp only [Act.put, List.setIfInBounds_toArray, List.set_cons_zero, List.set_cons_succ, i64_w, i32_w]
        rfl
      refine one_ (i := 1) (N := some 30) #[true, true, true, true, true, false, false, false, false, false, false, true, false, false, false] rfl rfl (one_of HT_.out (by kernel_rfl)) (by decide) (fun K hK => ?_)
      refine goes_ Try.func10 (by kernel_rfl) rfl #[.agg #[.slice A0_0 l0_0.length c0_0, .slice A0_1 l0_1.length c0_1, .int .i64 a0_2]] (by rfl) rfl rfl (by (try simp only [List.map_toArray, List.map_cons, List.map_nil]); first | done | rfl | (simp only [List.length_drop, List.length_take]; rfl)) ?_
      with_reducible refine (laws_toJoin.calls k _ _ l0_0 _ _ l0_1 a0_2 t352 t355 t358 _ ?side1 ?side2 ?side3 ?side4 A11.out).mono ?_
      (case side1 => repeat (first | exact (Kd.C_below HR0_0.out HB.out) | (with_reducible refine Kd.C_alloc ?_ _) | (with_reducible refine Kd.C_drewN ?_ _) | (with_reducible refine Kd.C_drew ?_)))
      (case side2 => exact HC0_0.out)
      (case side3 => repeat (first | exact (Kd.C_below HR0_1.out HB.out) | (with_reducible refine Kd.C_alloc ?_ _) | (with_reducible refine Kd.C_drewN ?_ _) | (with_reducible refine Kd.C_drew ?_)))
      (case side4 => exact HC0_1.out)
      rintro e w58 ⟨v353, v356, rfl, ho0, ho1, hb⟩
      refine ⟨_, rfl, ?_⟩
      have HO354 := am (Kd.R_lower ho0 (below_size bel))
      have HO357 := am (Kd.R_lower ho1 (below_size bel))
      replace BK349 := am (blk_below (blkq BK349.out) hb)
      replace BK350 := am (blk_below (blkq BK350.out) hb)
      replace BK374 := am (blk_below (blkq BK374.out) hb)
      replace HB := am (below_step bel hb)
      (try clear hb)
      (try clear ho0)
      (try clear ho1)
      refine hK.out _ _ ⟨(blk_cell BK349.out 0).trans rfl, (blk_cell BK349.out 1).trans rfl, (blk_cell BK349.out 2).trans rfl, (blk_cell BK350.out 0).trans rfl, (blk_cell BK350.out 1).trans rfl, (blk_cell BK350.out 2).trans rfl, (blk_cell BK350.out 3).trans rfl⟩ (fun hHeld => ?_)
      clear hK K
      refine norm_ (a' := ?_) ?_ ?_
      rotate_left
      · show Act.put _ (some 30) _ = _
        simp only [Act.put, List.setIfInBounds_toArray, List.set_cons_zero, List.set_cons_succ, i64_w, i32_w]
        rfl
      refine one_ (i := 5) (N := some 34) #[true, true, true, true, true, true, false, false, false, false, false, true, false, false, false] rfl rfl (one_of HT_.out (by kernel_rfl)) (by decide) (fun K hK => ?_)
      refine goes_ Try.func11 (by kernel_rfl) rfl #[.agg #[.int .i64 a3_0, .int .i64 a3_1, .int .i64 a3_2, .int .i64 a3_3]] (by rfl) rfl rfl (by (try simp only [List.map_toArray, List.map_cons, List.map_nil]); first | done | rfl | (simp only [List.length_drop, List.length_take]; rfl)) ?_
      with_reducible refine (laws_toFrame.calls a3_0 a3_1 a3_2 a3_3 t359 t360 t361 t362 _ A12.out).mono ?_
      rintro e w59 ⟨rfl, hb⟩
      refine ⟨_, rfl, ?_⟩
      replace HO354 := am (Kd.R_below (rq HO354.out) hb)
      replace HO357 := am (Kd.R_below (rq HO357.out) hb)
      replace BK349 := am (blk_below (blkq BK349.out) hb)
      replace BK350 := am (blk_below (blkq BK350.out) hb)
      replace BK374 := am (blk_below (blkq BK374.out) hb)
      replace HB := am (below_step bel hb)
      (try clear hb)
      obtain ⟨Ao60, co60, eo60⟩ := Kd.R_slice HO354.out
      (first | subst eo60 | (injection eo60 with f1_ f2_ f3_; have f4_ := f1_.symm; have f5_ := f3_.symm; clear f1_ f2_ f3_; subst f4_; subst f5_))
      obtain ⟨Ao61, co61, eo61⟩ := Kd.R_slice HO357.out
      (first | subst eo61 | (injection eo61 with f1_ f2_ f3_; have f4_ := f1_.symm; have f5_ := f3_.symm; clear f1_ f2_ f3_; subst f4_; subst f5_))
      refine hK.out _ _ ⟨(blk_cell BK349.out 0).trans rfl, (blk_cell BK349.out 1).trans rfl, (blk_cell BK349.out 2).trans rfl, (blk_cell BK350.out 0).trans rfl, (blk_cell BK350.out 1).trans rfl, (blk_cell BK350.out 2).trans rfl, (blk_cell BK350.out 3).trans rfl⟩ (fun hHeld => ?_)
      clear hK K
      refine norm_ (a' := ?_) ?_ ?_
      rotate_left
      · show Act.put _ (some 34) _ = _
        simp only [Act.put, List.setIfInBounds_toArray, List.set_cons_zero, List.set_cons_succ, i64_w, i32_w]
        rfl
      refine one_ (i := 6) (N := some 35) #[true, true, true, true, true, true, true, false, false, false, false, true, false, false, false] rfl rfl (one_of HT_.out (by kernel_rfl)) (by decide) (fun K hK => ?_)
      refine goes_ Try.func9 (by kernel_rfl) rfl #[.agg #[.slice Ao60 t352.length co60, .slice Ao61 t355.length co61, .int .i64 t358], .int .i64 a1, .bool a2, .agg #[.int .i64 t359, .int .i64 t360, .int .i64 t361, .int .i64 t362]] (by rfl) rfl rfl (by (try simp only [List.map_toArray, List.map_cons, List.map_nil]); first | done | rfl | (simp only [List.length_drop, List.length_take]; rfl)) ?_
      with_reducible refine (spec_AddJoin.calls k (ob (sv Ao60 t352 co60)) _ _ t352 (ob (sv Ao61 t355 co61)) _ _ t355 t358 a1 a2 t359 t360 t361 t362 t363 t366 t369 t370 t373 _ ?side1 ?side2 A13.out).mono ?_
      (case side1 => exact Kd.R_V (Kd.R_tight rfl (Kd.R_types (Kd.R_types (Kd.R_types (HO354.out) BK349.out (by decide)) BK350.out (by decide)) BK374.out (by decide))))
      (case side2 => exact Kd.R_V (Kd.R_tight rfl (Kd.R_types (Kd.R_types (Kd.R_types (HO357.out) BK349.out (by decide)) BK350.out (by decide)) BK374.out (by decide))))
      rintro e w62 ⟨v364, v367, v371, rfl, ho0, ho1, ho2, hb⟩
      refine ⟨_, rfl, ?_⟩
      have HO365 := am (Kd.R_lower (Kd.R_new' (Kd.R_new' (Kd.R_mono (ok' := fun k_ => nb k_ v367) ho0 (fun _ hk_ => hk_.2)) (Kd.R_lt (rq HO354.out))) (Kd.R_lt (rq HO357.out))) (below_size bel))
      have HO368 := am (Kd.R_lower (Kd.R_new' (Kd.R_new' (Kd.R_mono (ok' := fun k_ => nb k_ v364) ho1 (fun _ hk_ => hk_.2)) (Kd.R_lt (rq HO354.out))) (Kd.R_lt (rq HO357.out))) (below_size bel))
      replace HO354 := am (Kd.R_mono (Kd.R_told (Kd.R_told (Kd.R_old (rq HO354.out) hb) (Kd.R_base ho0)) (Kd.R_base ho1)) (fun _ h_ => h_.1))
      replace HO357 := am (Kd.R_mono (Kd.R_told (Kd.R_told (Kd.R_old (rq HO357.out) hb) (Kd.R_base ho0)) (Kd.R_base ho1)) (fun _ h_ => h_.1))
      have HO372 := am (Kd.R_lower (Kd.R_mono (ok' := fun k_ => True) ho2 (fun _ hk_ => trivial)) (below_size bel))
      replace BK349 := am (blk_below (blkq BK349.out) hb)
      replace BK350 := am (blk_below (blkq BK350.out) hb)
      replace BK374 := am (blk_below (blkq BK374.out) hb)
      replace HB := am (below_step bel hb)
      (try clear hb)
      (try clear ho0)
      (try clear ho1)
      (try clear ho2)
      refine hK.out _ _ ⟨(blk_cell BK349.out 0).trans rfl, (blk_cell BK349.out 1).trans rfl, (blk_cell BK349.out 2).trans rfl, (blk_cell BK350.out 0).trans rfl, (blk_cell BK350.out 1).trans rfl, (blk_cell BK350.out 2).trans rfl, (blk_cell BK350.out 3).trans rfl⟩ (fun hHeld => ?_)
      clear hK K
      refine norm_ (a' := ?_) ?_ ?_
      rotate_left
      · show Act.put _ (some 35) _ = _
        simp only [Act.put, List.setIfInBounds_toArray, List.set_cons_zero, List.set_cons_succ, i64_w, i32_w]
        rfl
      refine pure_ (i := 7) (N := some 28) (v := ?_) (a' := ?_) #[true, true, true, true, true, true, true, true, false, false, false, true, false, false, false] rfl rfl (any_of HT_.out (by kernel_rfl)) (fun _ _ _ h => h) (Or.inl ⟨by rfl, ?_⟩) ?_ ?_
      rotate_left
      · intro w'
        go_simp
        with_reducible rfl
      rotate_left
      · simp only [Act.put, List.setIfInBounds_toArray, List.set_cons_zero, List.set_cons_succ, i64_w, i32_w]
        rfl
      refine pure_ (i := 8) (N := some 36) (v := ?_) (a' := ?_) #[true, true, true, true, true, true, true, true, true, false, false, true, false, false, false] rfl rfl (any_of HT_.out (by kernel_rfl)) (fun _ _ _ h => h) (Or.inl ⟨by rfl, ?_⟩) ?_ ?_
      rotate_left
      · intro w'
        go_simp
        with_reducible rfl
      rotate_left
      · simp only [Act.put, List.setIfInBounds_toArray, List.set_cons_zero, List.set_cons_succ, i64_w, i32_w]
        rfl
      refine pure_ (i := 9) (N := some 37) (v := ?_) (a' := ?_) #[true, true, true, true, true, true, true, true, true, true, false, true, false, false, false] rfl rfl (any_of HT_.out (by kernel_rfl)) (fun _ _ _ h => h) (Or.inl ⟨by rfl, ?_⟩) ?_ ?_
      rotate_left
      · intro w'
        go_simp
        with_reducible rfl
      rotate_left
      · simp only [Act.put, List.setIfInBounds_toArray, List.set_cons_zero, List.set_cons_succ, i64_w, i32_w]
        rfl
      refine pure_ (i := 10) (N := some 38) (v := ?_) (a' := ?_) #[true, true, true, true, true, true, true, true, true, true, true, true, false, false, false] rfl rfl (any_of HT_.out (by kernel_rfl)) (fun _ _ _ h => h) (Or.inl ⟨by rfl, ?_⟩) ?_ ?_
      rotate_left
      · intro w'
        go_simp
        with_reducible rfl
      rotate_left
      · simp only [Act.put, List.setIfInBounds_toArray, List.set_cons_zero, List.set_cons_succ, i64_w, i32_w]
        rfl
      exact norm_ (by simp only [putAll, Act.put, List.setIfInBounds_toArray, List.set_cons_zero, List.set_cons_succ]) (hCont (.slice Ao60 t352.length co60, .slice Ao61 t355.length co61, v364, v367, v371, gb374) _ ⟨hHeld, (by (with_reducible repeat (first | apply Kd.R_alloc | apply Kd.R_drewN | apply Kd.R_drew)); exact Kd.R_mono HO354.out (fun _ hk => ⟨hk.1.1, ⟨hk.1.2, hk.2⟩⟩)), (by (with_reducible repeat (first | apply Kd.R_alloc | apply Kd.R_drewN | apply Kd.R_drew)); exact Kd.R_mono HO357.out (fun _ hk => ⟨hk.1.1, ⟨hk.1.2, hk.2⟩⟩)), (by (with_reducible repeat (first | apply Kd.R_alloc | apply Kd.R_drewN | apply Kd.R_drew)); exact Kd.R_mono HO365.out (fun _ hk => ⟨hk.1.2, ⟨hk.2, hk.1.1⟩⟩)), (by (with_reducible repeat (first | apply Kd.R_alloc | apply Kd.R_drewN | apply Kd.R_drew)); exact Kd.R_mono HO368.out (fun _ hk => ⟨hk.1.2, ⟨hk.2, hk.1.1⟩⟩)), (rq HO372.out), (blkq BK349.out), (blkq BK350.out), (blkq BK374.out), GW374.out, GE374.out, NB349_374.out, NB374_349.out, NB350_374.out, NB374_350.out, bel⟩)
  rintro ⟨v353, v356, v364, v367, v371, gb374⟩ w63 ⟨hS_, h0_, h1_, h2_, h3_, h4_, h5_, h6_, h7_, h8_, h9_, h10_, h11_, h12_, h13_, h14_⟩
  have n0_ : Aside0 (Kd.R k35 35 w63 w.heap.size (fun k_ => nb k_ v356 ∧ nb k_ v364 ∧ nb k_ v367) v353 t352) := ⟨h0_⟩
  have n1_ : Aside0 (Kd.R k35 35 w63 w.heap.size (fun k_ => nb k_ v353 ∧ nb k_ v364 ∧ nb k_ v367) v356 t355) := ⟨h1_⟩
  have n2_ : Aside0 (Kd.R k35 35 w63 w.heap.size (fun k_ => nb k_ v353 ∧ nb k_ v356 ∧ nb k_ v367) v364 t363) := ⟨h2_⟩
  have n3_ : Aside0 (Kd.R k35 35 w63 w.heap.size (fun k_ => nb k_ v353 ∧ nb k_ v356 ∧ nb k_ v364) v367 t366) := ⟨h3_⟩
  have n4_ : Aside0 (Kd.R k75 75 w63 w.heap.size (fun _ => True) v371 t370) := ⟨h4_⟩
  have n5_ : Aside0 (w63.heap[gb349]? = some (.cells #[.slice A0_0 l0_0.length c0_0, .slice A0_1 l0_1.length c0_1, .int .i64 a0_2] 24 (0, 0))) := ⟨h5_⟩
  have n6_ : Aside0 (w63.heap[gb350]? = some (.cells #[.int .i64 a3_0, .int .i64 a3_1, .int .i64 a3_2, .int .i64 a3_3] 26 (0, 0))) := ⟨h6_⟩
  have n7_ : Aside0 (w63.heap[gb374]? = some (.cells #[.slice none 0 0, .slice none 0 0, .int .i64 0] 30 (0, 0))) := ⟨h7_⟩
  have n8_ : Aside0 (w.heap.size ≤ gb374) := ⟨h8_⟩
  have n9_ : Aside0 (w.heap.size ≤ gb374) := ⟨h9_⟩
  have n10_ : Aside0 (gb349 ≠ gb374) := ⟨h10_⟩
  have n11_ : Aside0 (gb374 ≠ gb349) := ⟨h11_⟩
  have n12_ : Aside0 (gb350 ≠ gb374) := ⟨h12_⟩
  have n13_ : Aside0 (gb374 ≠ gb350) := ⟨h13_⟩
  have n14_ : Aside0 (Below w.heap.size w w63) := ⟨h14_⟩
  clear BK349 BK350 HB h0_ h1_ h2_ h3_ h4_ h5_ h6_ h7_ h8_ h9_ h10_ h11_ h12_ h13_ h14_
  have HO354 := n0_
  have HO357 := n1_
  have HO365 := n2_
  have HO368 := n3_
  have HO372 := n4_
  have BK349 := n5_
  have BK350 := n6_
  have BK374 := n7_
  have GW374 := n8_
  have GE374 := n9_
  have NB349_374 := n10_
  have NB374_349 := n11_
  have NB350_374 := n12_
  have NB374_350 := n13_
  have HB := n14_
  clear n0_ n1_ n2_ n3_ n4_ n5_ n6_ n7_ n8_ n9_ n10_ n11_ n12_ n13_ n14_
  have hHeld : w63.cell? ⟨gb349, 0, none⟩ = some (.slice A0_0 l0_0.length c0_0) ∧ w63.cell? ⟨gb349, 1, none⟩ = some (.slice A0_1 l0_1.length c0_1) ∧ w63.cell? ⟨gb349, 2, none⟩ = some (.int .i64 a0_2) ∧ w63.cell? ⟨gb350, 0, none⟩ = some (.int .i64 a3_0) ∧ w63.cell? ⟨gb350, 1, none⟩ = some (.int .i64 a3_1) ∧ w63.cell? ⟨gb350, 2, none⟩ = some (.int .i64 a3_2) ∧ w63.cell? ⟨gb350, 3, none⟩ = some (.int .i64 a3_3) := hS_
  obtain ⟨Ao64, co64, eo64⟩ := Kd.R_slice HO365.out
  (first | subst eo64 | (injection eo64 with f1_ f2_ f3_; have f4_ := f1_.symm; have f5_ := f3_.symm; clear f1_ f2_ f3_; subst f4_; subst f5_))
  obtain ⟨Ao66, co66, eo66⟩ := Kd.R_slice HO368.out
  (first | subst eo66 | (injection eo66 with f1_ f2_ f3_; have f4_ := f1_.symm; have f5_ := f3_.symm; clear f1_ f2_ f3_; subst f4_; subst f5_))
  refine norm_ (a' := ?_) ?_ ?_
  rotate_left
  · simp only [putAll, Act.put, List.setIfInBounds_toArray, List.set_cons_zero, List.set_cons_succ]
    rfl
  refine one_ (i := 12) (N := none) #[true, true, true, true, true, true, true, true, true, true, true, true, true, false, false] rfl rfl (one_of HT_.out (by kernel_rfl)) (by decide) (fun K hK => ?_)
  have hs65 : w63.cell? ⟨gb374, 0, none⟩ = some (.slice none 0 0) := (blk_cell BK374.out 0).trans rfl
  have hfs65 := blk_frozen BK374.out 0
  have hns65_0 := NB349_374.out
  have hns65_1 := NB350_374.out
  have hms65_0 := NB374_349.out
  have hms65_1 := NB374_350.out
  have hs67 : w63.cell? ⟨gb374, 1, none⟩ = some (.slice none 0 0) := (blk_cell BK374.out 1).trans rfl
  have hfs67 := blk_frozen BK374.out 1
  have hns67_0 := NB349_374.out
  have hns67_1 := NB350_374.out
  have hms67_0 := NB374_349.out
  have hms67_1 := NB374_350.out
  have hs68 : w63.cell? ⟨gb374, 2, none⟩ = some (.int .i64 0) := (blk_cell BK374.out 2).trans rfl
  have hfs68 := blk_frozen BK374.out 2
  have hns68_0 := NB349_374.out
  have hns68_1 := NB350_374.out
  have hms68_0 := NB374_349.out
  have hms68_1 := NB374_350.out
  refine skip_ (w1 := ?_) (by rfl) rfl ?_ ?_
  rotate_left
  · go_simp
    rfl
  refine hK.out _ _ ⟨((cell_far (p := ⟨gb374, _, none⟩) NB349_374.out _).trans (((cell_far (p := ⟨gb374, _, none⟩) NB349_374.out _).trans (((cell_far (p := ⟨gb374, _, none⟩) NB349_374.out _).trans (hHeld.1)))))), ((cell_far (p := ⟨gb374, _, none⟩) NB349_374.out _).trans (((cell_far (p := ⟨gb374, _, none⟩) NB349_374.out _).trans (((cell_far (p := ⟨gb374, _, none⟩) NB349_374.out _).trans (hHeld.2.1)))))), ((cell_far (p := ⟨gb374, _, none⟩) NB349_374.out _).trans (((cell_far (p := ⟨gb374, _, none⟩) NB349_374.out _).trans (((cell_far (p := ⟨gb374, _, none⟩) NB349_374.out _).trans (hHeld.2.2.1)))))), ((cell_far (p := ⟨gb374, _, none⟩) NB350_374.out _).trans (((cell_far (p := ⟨gb374, _, none⟩) NB350_374.out _).trans (((cell_far (p := ⟨gb374, _, none⟩) NB350_374.out _).trans (hHeld.2.2.2.1)))))), ((cell_far (p := ⟨gb374, _, none⟩) NB350_374.out _).trans (((cell_far (p := ⟨gb374, _, none⟩) NB350_374.out _).trans (((cell_far (p := ⟨gb374, _, none⟩) NB350_374.out _).trans (hHeld.2.2.2.2.1)))))), ((cell_far (p := ⟨gb374, _, none⟩) NB350_374.out _).trans (((cell_far (p := ⟨gb374, _, none⟩) NB350_374.out _).trans (((cell_far (p := ⟨gb374, _, none⟩) NB350_374.out _).trans (hHeld.2.2.2.2.2.1)))))), ((cell_far (p := ⟨gb374, _, none⟩) NB350_374.out _).trans (((cell_far (p := ⟨gb374, _, none⟩) NB350_374.out _).trans (((cell_far (p := ⟨gb374, _, none⟩) NB350_374.out _).trans (hHeld.2.2.2.2.2.2))))))⟩ (fun hHeld => ?_)
  clear hK K
  refine pure_ (i := 13) (N := some 11) (v := ?_) (a' := ?_) #[true, true, true, true, true, true, true, true, true, true, true, true, true, true, false] rfl rfl (any_of HT_.out (by kernel_rfl)) (fun _ _ _ h => h) (Or.inl ⟨by rfl, ?_⟩) ?_ ?_
  rotate_left
  · intro w'
    go_simp
    with_reducible rfl
  rotate_left
  · simp only [Act.put, List.setIfInBounds_toArray, List.set_cons_zero, List.set_cons_succ, i64_w, i32_w]
    rfl
  refine pure_ (i := 14) (N := some 12) (v := ?_) (a' := ?_) #[true, true, true, true, true, true, true, true, true, true, true, true, true, true, true] rfl rfl (any_of HT_.out (by kernel_rfl)) (fun _ _ _ h => h) (Or.inl ⟨by rfl, ?_⟩) ?_ ?_
  rotate_left
  · intro w'
    go_simp
    with_reducible rfl
  rotate_left
  · simp only [Act.put, List.setIfInBounds_toArray, List.set_cons_zero, List.set_cons_succ, i64_w, i32_w]
    rfl
  refine done_ (done_of HT_.out (by kernel_rfl)) ?_
  have hnb69 := NB349_374.out
  have hnc69 := NB374_349.out
  have hcz70_0 : w63.cell? ⟨gb349, 0, none⟩ = some (.slice A0_0 l0_0.length c0_0) := (blk_cell BK349.out 0).trans rfl
  have hcz70_1 : w63.cell? ⟨gb349, 1, none⟩ = some (.slice A0_1 l0_1.length c0_1) := (blk_cell BK349.out 1).trans rfl
  have hcz70_2 : w63.cell? ⟨gb349, 2, none⟩ = some (.int .i64 a0_2) := (blk_cell BK349.out 2).trans rfl
  have hfz70_0 := blk_frozen BK349.out 0
  have hfz70_1 := blk_frozen BK349.out 1
  have hfz70_2 := blk_frozen BK349.out 2
  try go_wp2_with (first | ((with_reducible refine gate_callee (f := 10) rfl ?_); refine goesL1 40 Try.func10 #[.agg #[.slice A0_0 l0_0.length c0_0, .slice A0_1 l0_1.length c0_1, .int .i64 a0_2]] ?_; (with_reducible refine (laws_toJoin.calls k _ _ l0_0 _ _ l0_1 a0_2 t375 t378 t381 _ ?side1 ?side2 ?side3 ?side4 A14.out).mono ?_); (case side1 => exact Kd.C_below HR0_0.out bel); (case side2 => exact HC0_0.out); (case side3 => exact Kd.C_below HR0_1.out bel); (case side4 => exact HC0_1.out); rintro e w71 ⟨v376, v379, rfl, ho0, ho1, hb⟩; refine ⟨_, rfl, ?_⟩; replace HO372 := am (Kd.R_below (by (with_reducible repeat (first | apply Kd.R_alloc | apply Kd.R_drewN | apply Kd.R_drew)); exact (Kd.R_mono (Kd.R_far (p := ⟨gb374, 2, none⟩) (Kd.R_far (p := ⟨gb374, 1, none⟩) (Kd.R_far (p := ⟨gb374, 0, none⟩) (Kd.R_types HO372.out BK374.out (by decide)) (fun _ hk => hk.2) (.slice Ao64 t363.length co64)) (fun _ hk => hk.2) (.slice Ao66 t366.length co66)) (fun _ hk => hk.2) (.int .i64 t369)) (fun _ h_ => h_.1))) hb); have HO377 := am (Kd.R_lower (Kd.R_new' (Kd.R_new' (Kd.R_new' (Kd.R_new' ho0 (Kd.R_lt (by (with_reducible repeat (first | apply Kd.R_alloc | apply Kd.R_drewN | apply Kd.R_drew)); exact (Kd.R_mono (Kd.R_far (p := ⟨gb374, 2, none⟩) (Kd.R_far (p := ⟨gb374, 1, none⟩) (Kd.R_far (p := ⟨gb374, 0, none⟩) (Kd.R_types HO354.out BK374.out (by decide)) (fun _ hk => hk.2) (.slice Ao64 t363.length co64)) (fun _ hk => hk.2) (.slice Ao66 t366.length co66)) (fun _ hk => hk.2) (.int .i64 t369)) (fun _ h_ => h_.1))))) (Kd.R_lt (by (with_reducible repeat (first | apply Kd.R_alloc | apply Kd.R_drewN | apply Kd.R_drew)); exact (Kd.R_mono (Kd.R_far (p := ⟨gb374, 2, none⟩) (Kd.R_far (p := ⟨gb374, 1, none⟩) (Kd.R_far (p := ⟨gb374, 0, none⟩) (Kd.R_types HO357.out BK374.out (by decide)) (fun _ hk => hk.2) (.slice Ao64 t363.length co64)) (fun _ hk => hk.2) (.slice Ao66 t366.length co66)) (fun _ hk => hk.2) (.int .i64 t369)) (fun _ h_ => h_.1))))) (Kd.R_lt (by (with_reducible repeat (first | apply Kd.R_alloc | apply Kd.R_drewN | apply Kd.R_drew)); exact (Kd.R_mono (Kd.R_far (p := ⟨gb374, 2, none⟩) (Kd.R_far (p := ⟨gb374, 1, none⟩) (Kd.R_far (p := ⟨gb374, 0, none⟩) (Kd.R_types HO365.out BK374.out (by decide)) (fun _ hk => hk.2) (.slice Ao64 t363.length co64)) (fun _ hk => hk.2) (.slice Ao66 t366.length co66)) (fun _ hk => hk.2) (.int .i64 t369)) (fun _ h_ => h_.1))))) (Kd.R_lt (by (with_reducible repeat (first | apply Kd.R_alloc | apply Kd.R_drewN | apply Kd.R_drew)); exact (Kd.R_mono (Kd.R_far (p := ⟨gb374, 2, none⟩) (Kd.R_far (p := ⟨gb374, 1, none⟩) (Kd.R_far (p := ⟨gb374, 0, none⟩) (Kd.R_types HO368.out BK374.out (by decide)) (fun _ hk => hk.2) (.slice Ao64 t363.length co64)) (fun _ hk => hk.2) (.slice Ao66 t366.length co66)) (fun _ hk => hk.2) (.int .i64 t369)) (fun _ h_ => h_.1))))) (below_size bel)); have HO380 := am (Kd.R_lower (Kd.R_new' (Kd.R_new' (Kd.R_new' (Kd.R_new' ho1 (Kd.R_lt (by (with_reducible repeat (first | apply Kd.R_alloc | apply Kd.R_drewN | apply Kd.R_drew)); exact (Kd.R_mono (Kd.R_far (p := ⟨gb374, 2, none⟩) (Kd.R_far (p := ⟨gb374, 1, none⟩) (Kd.R_far (p := ⟨gb374, 0, none⟩) (Kd.R_types HO354.out BK374.out (by decide)) (fun _ hk => hk.2) (.slice Ao64 t363.length co64)) (fun _ hk => hk.2) (.slice Ao66 t366.length co66)) (fun _ hk => hk.2) (.int .i64 t369)) (fun _ h_ => h_.1))))) (Kd.R_lt (by (with_reducible repeat (first | apply Kd.R_alloc | apply Kd.R_drewN | apply Kd.R_drew)); exact (Kd.R_mono (Kd.R_far (p := ⟨gb374, 2, none⟩) (Kd.R_far (p := ⟨gb374, 1, none⟩) (Kd.R_far (p := ⟨gb374, 0, none⟩) (Kd.R_types HO357.out BK374.out (by decide)) (fun _ hk => hk.2) (.slice Ao64 t363.length co64)) (fun _ hk => hk.2) (.slice Ao66 t366.length co66)) (fun _ hk => hk.2) (.int .i64 t369)) (fun _ h_ => h_.1))))) (Kd.R_lt (by (with_reducible repeat (first | apply Kd.R_alloc | apply Kd.R_drewN | apply Kd.R_drew)); exact (Kd.R_mono (Kd.R_far (p := ⟨gb374, 2, none⟩) (Kd.R_far (p := ⟨gb374, 1, none⟩) (Kd.R_far (p := ⟨gb374, 0, none⟩) (Kd.R_types HO365.out BK374.out (by decide)) (fun _ hk => hk.2) (.slice Ao64 t363.length co64)) (fun _ hk => hk.2) (.slice Ao66 t366.length co66)) (fun _ hk => hk.2) (.int .i64 t369)) (fun _ h_ => h_.1))))) (Kd.R_lt (by (with_reducible repeat (first | apply Kd.R_alloc | apply Kd.R_drewN | apply Kd.R_drew)); exact (Kd.R_mono (Kd.R_far (p := ⟨gb374, 2, none⟩) (Kd.R_far (p := ⟨gb374, 1, none⟩) (Kd.R_far (p := ⟨gb374, 0, none⟩) (Kd.R_types HO368.out BK374.out (by decide)) (fun _ hk => hk.2) (.slice Ao64 t363.length co64)) (fun _ hk => hk.2) (.slice Ao66 t366.length co66)) (fun _ hk => hk.2) (.int .i64 t369)) (fun _ h_ => h_.1))))) (below_size bel)); replace HO354 := am (Kd.R_mono (Kd.R_told (Kd.R_told (Kd.R_old (by (with_reducible repeat (first | apply Kd.R_alloc | apply Kd.R_drewN | apply Kd.R_drew)); exact (Kd.R_mono (Kd.R_far (p := ⟨gb374, 2, none⟩) (Kd.R_far (p := ⟨gb374, 1, none⟩) (Kd.R_far (p := ⟨gb374, 0, none⟩) (Kd.R_types HO354.out BK374.out (by decide)) (fun _ hk => hk.2) (.slice Ao64 t363.length co64)) (fun _ hk => hk.2) (.slice Ao66 t366.length co66)) (fun _ hk => hk.2) (.int .i64 t369)) (fun _ h_ => h_.1))) hb) (Kd.R_base ho0)) (Kd.R_base ho1)) (fun _ h_ => h_.1)); replace HO357 := am (Kd.R_mono (Kd.R_told (Kd.R_told (Kd.R_old (by (with_reducible repeat (first | apply Kd.R_alloc | apply Kd.R_drewN | apply Kd.R_drew)); exact (Kd.R_mono (Kd.R_far (p := ⟨gb374, 2, none⟩) (Kd.R_far (p := ⟨gb374, 1, none⟩) (Kd.R_far (p := ⟨gb374, 0, none⟩) (Kd.R_types HO357.out BK374.out (by decide)) (fun _ hk => hk.2) (.slice Ao64 t363.length co64)) (fun _ hk => hk.2) (.slice Ao66 t366.length co66)) (fun _ hk => hk.2) (.int .i64 t369)) (fun _ h_ => h_.1))) hb) (Kd.R_base ho0)) (Kd.R_base ho1)) (fun _ h_ => h_.1)); replace HO365 := am (Kd.R_mono (Kd.R_told (Kd.R_told (Kd.R_old (by (with_reducible repeat (first | apply Kd.R_alloc | apply Kd.R_drewN | apply Kd.R_drew)); exact (Kd.R_mono (Kd.R_far (p := ⟨gb374, 2, none⟩) (Kd.R_far (p := ⟨gb374, 1, none⟩) (Kd.R_far (p := ⟨gb374, 0, none⟩) (Kd.R_types HO365.out BK374.out (by decide)) (fun _ hk => hk.2) (.slice Ao64 t363.length co64)) (fun _ hk => hk.2) (.slice Ao66 t366.length co66)) (fun _ hk => hk.2) (.int .i64 t369)) (fun _ h_ => h_.1))) hb) (Kd.R_base ho0)) (Kd.R_base ho1)) (fun _ h_ => h_.1)); replace HO368 := am (Kd.R_mono (Kd.R_told (Kd.R_told (Kd.R_old (by (with_reducible repeat (first | apply Kd.R_alloc | apply Kd.R_drewN | apply Kd.R_drew)); exact (Kd.R_mono (Kd.R_far (p := ⟨gb374, 2, none⟩) (Kd.R_far (p := ⟨gb374, 1, none⟩) (Kd.R_far (p := ⟨gb374, 0, none⟩) (Kd.R_types HO368.out BK374.out (by decide)) (fun _ hk => hk.2) (.slice Ao64 t363.length co64)) (fun _ hk => hk.2) (.slice Ao66 t366.length co66)) (fun _ hk => hk.2) (.int .i64 t369)) (fun _ h_ => h_.1))) hb) (Kd.R_base ho0)) (Kd.R_base ho1)) (fun _ h_ => h_.1)); replace BK349 := am (blk_below (g := gb349) (o := .cells #[.slice A0_0 l0_0.length c0_0, .slice A0_1 l0_1.length c0_1, .int .i64 a0_2] 24 (0, 0)) (by (with_reducible repeat (first | refine blk_drewN ?_ _ | refine blk_drew ?_ | refine blk_alloc ?_ _)); refine blk_far ?_ NB349_374.out _; (with_reducible repeat (first | refine blk_drewN ?_ _ | refine blk_drew ?_ | refine blk_alloc ?_ _)); refine blk_far ?_ NB349_374.out _; (with_reducible repeat (first | refine blk_drewN ?_ _ | refine blk_drew ?_ | refine blk_alloc ?_ _)); refine blk_far ?_ NB349_374.out _; (with_reducible repeat (first | refine blk_drewN ?_ _ | refine blk_drew ?_ | refine blk_alloc ?_ _)); exact BK349.out) hb); replace BK350 := am (blk_below (g := gb350) (o := .cells #[.int .i64 a3_0, .int .i64 a3_1, .int .i64 a3_2, .int .i64 a3_3] 26 (0, 0)) (by (with_reducible repeat (first | refine blk_drewN ?_ _ | refine blk_drew ?_ | refine blk_alloc ?_ _)); refine blk_far ?_ NB350_374.out _; (with_reducible repeat (first | refine blk_drewN ?_ _ | refine blk_drew ?_ | refine blk_alloc ?_ _)); refine blk_far ?_ NB350_374.out _; (with_reducible repeat (first | refine blk_drewN ?_ _ | refine blk_drew ?_ | refine blk_alloc ?_ _)); refine blk_far ?_ NB350_374.out _; (with_reducible repeat (first | refine blk_drewN ?_ _ | refine blk_drew ?_ | refine blk_alloc ?_ _)); exact BK350.out) hb); replace BK374 := am (blk_below (g := gb374) (o := .cells #[.slice Ao64 t363.length co64, .slice Ao66 t366.length co66, .int .i64 t369] 30 (0, 0)) (by (with_reducible repeat (first | refine blk_drewN ?_ _ | refine blk_drew ?_ | refine blk_alloc ?_ _)); refine blk_put (cs := #[.slice Ao64 t363.length co64, .slice Ao66 t366.length co66, .int .i64 0]) ?_ 2 _ rfl; (with_reducible repeat (first | refine blk_drewN ?_ _ | refine blk_drew ?_ | refine blk_alloc ?_ _)); refine blk_put (cs := #[.slice Ao64 t363.length co64, .slice none 0 0, .int .i64 0]) ?_ 1 _ rfl; (with_reducible repeat (first | refine blk_drewN ?_ _ | refine blk_drew ?_ | refine blk_alloc ?_ _)); refine blk_put (cs := #[.slice none 0 0, .slice none 0 0, .int .i64 0]) ?_ 0 _ rfl; (with_reducible repeat (first | refine blk_drewN ?_ _ | refine blk_drew ?_ | refine blk_alloc ?_ _)); exact BK374.out) hb); replace HB := am (below_step bel hb); (try clear hb); (try clear ho0); (try clear ho1)) | ((with_reducible refine gate_dst (N := 13) rfl ?_); refine box_event ?hg (N := 13) ?hd (cs := #[.slice none 0 0, .slice none 0 0, .int .i64 0]) (t := 30) ?hr ?_; (case hd => rfl); (case hg => rfl); (case hr => first | (go_simp; done) | (go_simp; rfl)); intro gb382 hg w72 hbox hb; replace HO365 := am (Kd.R_below (rq HO365.out) hb); replace HO368 := am (Kd.R_below (rq HO368.out) hb); replace HO372 := am (Kd.R_below (rq HO372.out) hb); replace HO377 := am (Kd.R_below (rq HO377.out) hb); replace HO380 := am (Kd.R_below (rq HO380.out) hb); have BK382 := am (hbox); have GW382 := am ((by rw [hg]; exact (below_size bel) : w.heap.size ≤ gb382)); have GE382 := am ((by rw [hg]; exact (below_size bel) : w.heap.size ≤ gb382)); replace HB := am (below_step bel hb); have NB349_382 := am ((by rw [hg]; exact Nat.ne_of_lt (blk_lt (blkq BK349.out)) : gb349 ≠ gb382)); have NB382_349 := am ((by rw [hg]; exact Nat.ne_of_gt (blk_lt (blkq BK349.out)) : gb382 ≠ gb349)); replace BK349 := am (blk_below (blkq BK349.out) hb); have NB350_382 := am ((by rw [hg]; exact Nat.ne_of_lt (blk_lt (blkq BK350.out)) : gb350 ≠ gb382)); have NB382_350 := am ((by rw [hg]; exact Nat.ne_of_gt (blk_lt (blkq BK350.out)) : gb382 ≠ gb350)); replace BK350 := am (blk_below (blkq BK350.out) hb); have NB374_382 := am ((by rw [hg]; exact Nat.ne_of_lt (blk_lt (blkq BK374.out)) : gb374 ≠ gb382)); have NB382_374 := am ((by rw [hg]; exact Nat.ne_of_gt (blk_lt (blkq BK374.out)) : gb382 ≠ gb374)); replace BK374 := am (blk_below (blkq BK374.out) hb); clear hb hbox hg; obtain ⟨Ao73, co73, eo73⟩ := Kd.R_slice HO377.out; subst eo73; have hnb74 := NB382_349.out; have hnc74 := NB349_382.out; have hnb75 := NB382_350.out; have hnc75 := NB350_382.out; have hnb76 := NB382_374.out; have hnc76 := NB374_382.out; obtain ⟨hcz77_0, hcz77_1, hcz77_2, hfz77_0, hfz77_1, hfz77_2⟩ := blkc3 BK382.out; obtain ⟨Ao78, co78, eo78⟩ := Kd.R_slice HO380.out; subst eo78))
  have n0_ : Aside0 (Kd.R k35 35 (((w72.setCell ⟨gb382, 0, none⟩ (.slice Ao73 t375.length co73)).setCell ⟨gb382, 1, none⟩ (.slice Ao78 t378.length co78)).setCell ⟨gb382, 2, none⟩ (.int .i64 t381)) w.heap.size (fun k_ => nb k_ (sv Ao66 t366 co66) ∧ nb k_ (sv Ao73 t375 co73) ∧ nb k_ (sv Ao78 t378 co78)) (.slice Ao64 t363.length co64) t363) := ⟨by (with_reducible repeat (first | apply Kd.R_alloc | apply Kd.R_drewN | apply Kd.R_drew)); exact Kd.R_mono (Kd.R_far (p := ⟨gb382, 2, none⟩) (Kd.R_far (p := ⟨gb382, 1, none⟩) (Kd.R_far (p := ⟨gb382, 0, none⟩) (Kd.R_types HO365.out BK382.out (by decide)) (fun _ hk => hk.2) (.slice Ao73 t375.length co73)) (fun _ hk => hk.2) (.slice Ao78 t378.length co78)) (fun _ hk => hk.2) (.int .i64 t381)) (fun _ hk => ⟨hk.1.1.1.2.2, ⟨hk.1.1.2, hk.1.2⟩⟩)⟩
  have n1_ : Aside0 (Kd.R k35 35 (((w72.setCell ⟨gb382, 0, none⟩ (.slice Ao73 t375.length co73)).setCell ⟨gb382, 1, none⟩ (.slice Ao78 t378.length co78)).setCell ⟨gb382, 2, none⟩ (.int .i64 t381)) w.heap.size (fun k_ => nb k_ (sv Ao64 t363 co64) ∧ nb k_ (sv Ao73 t375 co73) ∧ nb k_ (sv Ao78 t378 co78)) (.slice Ao66 t366.length co66) t366) := ⟨by (with_reducible repeat (first | apply Kd.R_alloc | apply Kd.R_drewN | apply Kd.R_drew)); exact Kd.R_mono (Kd.R_far (p := ⟨gb382, 2, none⟩) (Kd.R_far (p := ⟨gb382, 1, none⟩) (Kd.R_far (p := ⟨gb382, 0, none⟩) (Kd.R_types HO368.out BK382.out (by decide)) (fun _ hk => hk.2) (.slice Ao73 t375.length co73)) (fun _ hk => hk.2) (.slice Ao78 t378.length co78)) (fun _ hk => hk.2) (.int .i64 t381)) (fun _ hk => ⟨hk.1.1.1.2.2, ⟨hk.1.1.2, hk.1.2⟩⟩)⟩
  have n2_ : Aside0 (Kd.R k75 75 (((w72.setCell ⟨gb382, 0, none⟩ (.slice Ao73 t375.length co73)).setCell ⟨gb382, 1, none⟩ (.slice Ao78 t378.length co78)).setCell ⟨gb382, 2, none⟩ (.int .i64 t381)) w.heap.size (fun _ => True) v371 t370) := ⟨by (with_reducible repeat (first | apply Kd.R_alloc | apply Kd.R_drewN | apply Kd.R_drew)); exact Kd.R_mono (Kd.R_far (p := ⟨gb382, 2, none⟩) (Kd.R_far (p := ⟨gb382, 1, none⟩) (Kd.R_far (p := ⟨gb382, 0, none⟩) (Kd.R_types HO372.out BK382.out (by decide)) (fun _ hk => hk.2) (.slice Ao73 t375.length co73)) (fun _ hk => hk.2) (.slice Ao78 t378.length co78)) (fun _ hk => hk.2) (.int .i64 t381)) (fun _ hk => trivial)⟩
  have n3_ : Aside0 (Kd.R k35 35 (((w72.setCell ⟨gb382, 0, none⟩ (.slice Ao73 t375.length co73)).setCell ⟨gb382, 1, none⟩ (.slice Ao78 t378.length co78)).setCell ⟨gb382, 2, none⟩ (.int .i64 t381)) w.heap.size (fun k_ => nb k_ (sv Ao64 t363 co64) ∧ nb k_ (sv Ao66 t366 co66) ∧ nb k_ (sv Ao78 t378 co78)) (.slice Ao73 t375.length co73) t375) := ⟨by (with_reducible repeat (first | apply Kd.R_alloc | apply Kd.R_drewN | apply Kd.R_drew)); exact Kd.R_mono (Kd.R_far (p := ⟨gb382, 2, none⟩) (Kd.R_far (p := ⟨gb382, 1, none⟩) (Kd.R_far (p := ⟨gb382, 0, none⟩) (Kd.R_types HO377.out BK382.out (by decide)) (fun _ hk => hk.2) (.slice Ao73 t375.length co73)) (fun _ hk => hk.2) (.slice Ao78 t378.length co78)) (fun _ hk => hk.2) (.int .i64 t381)) (fun _ hk => ⟨hk.1.1.2, ⟨hk.1.2, hk.1.1.1.1.1⟩⟩)⟩
  have n4_ : Aside0 (Kd.R k35 35 (((w72.setCell ⟨gb382, 0, none⟩ (.slice Ao73 t375.length co73)).setCell ⟨gb382, 1, none⟩ (.slice Ao78 t378.length co78)).setCell ⟨gb382, 2, none⟩ (.int .i64 t381)) w.heap.size (fun k_ => nb k_ (sv Ao64 t363 co64) ∧ nb k_ (sv Ao66 t366 co66) ∧ nb k_ (sv Ao73 t375 co73)) (.slice Ao78 t378.length co78) t378) := ⟨by (with_reducible repeat (first | apply Kd.R_alloc | apply Kd.R_drewN | apply Kd.R_drew)); exact Kd.R_mono (Kd.R_far (p := ⟨gb382, 2, none⟩) (Kd.R_far (p := ⟨gb382, 1, none⟩) (Kd.R_far (p := ⟨gb382, 0, none⟩) (Kd.R_types HO380.out BK382.out (by decide)) (fun _ hk => hk.2) (.slice Ao73 t375.length co73)) (fun _ hk => hk.2) (.slice Ao78 t378.length co78)) (fun _ hk => hk.2) (.int .i64 t381)) (fun _ hk => ⟨hk.1.1.2, ⟨hk.1.2, hk.1.1.1.1.1⟩⟩)⟩
  have n5_ : Aside0 ((((w72.setCell ⟨gb382, 0, none⟩ (.slice Ao73 t375.length co73)).setCell ⟨gb382, 1, none⟩ (.slice Ao78 t378.length co78)).setCell ⟨gb382, 2, none⟩ (.int .i64 t381)).heap[gb349]? = some (.cells #[.slice A0_0 l0_0.length c0_0, .slice A0_1 l0_1.length c0_1, .int .i64 a0_2] 24 (0, 0))) := ⟨by (with_reducible repeat (first | refine blk_drewN ?_ _ | refine blk_drew ?_ | refine blk_alloc ?_ _)); refine blk_far ?_ NB349_382.out _; (with_reducible repeat (first | refine blk_drewN ?_ _ | refine blk_drew ?_ | refine blk_alloc ?_ _)); refine blk_far ?_ NB349_382.out _; (with_reducible repeat (first | refine blk_drewN ?_ _ | refine blk_drew ?_ | refine blk_alloc ?_ _)); refine blk_far ?_ NB349_382.out _; (with_reducible repeat (first | refine blk_drewN ?_ _ | refine blk_drew ?_ | refine blk_alloc ?_ _)); exact BK349.out⟩
  have n6_ : Aside0 ((((w72.setCell ⟨gb382, 0, none⟩ (.slice Ao73 t375.length co73)).setCell ⟨gb382, 1, none⟩ (.slice Ao78 t378.length co78)).setCell ⟨gb382, 2, none⟩ (.int .i64 t381)).heap[gb350]? = some (.cells #[.int .i64 a3_0, .int .i64 a3_1, .int .i64 a3_2, .int .i64 a3_3] 26 (0, 0))) := ⟨by (with_reducible repeat (first | refine blk_drewN ?_ _ | refine blk_drew ?_ | refine blk_alloc ?_ _)); refine blk_far ?_ NB350_382.out _; (with_reducible repeat (first | refine blk_drewN ?_ _ | refine blk_drew ?_ | refine blk_alloc ?_ _)); refine blk_far ?_ NB350_382.out _; (with_reducible repeat (first | refine blk_drewN ?_ _ | refine blk_drew ?_ | refine blk_alloc ?_ _)); refine blk_far ?_ NB350_382.out _; (with_reducible repeat (first | refine blk_drewN ?_ _ | refine blk_drew ?_ | refine blk_alloc ?_ _)); exact BK350.out⟩
  have n7_ : Aside0 ((((w72.setCell ⟨gb382, 0, none⟩ (.slice Ao73 t375.length co73)).setCell ⟨gb382, 1, none⟩ (.slice Ao78 t378.length co78)).setCell ⟨gb382, 2, none⟩ (.int .i64 t381)).heap[gb374]? = some (.cells #[.slice Ao64 t363.length co64, .slice Ao66 t366.length co66, .int .i64 t369] 30 (0, 0))) := ⟨by (with_reducible repeat (first | refine blk_drewN ?_ _ | refine blk_drew ?_ | refine blk_alloc ?_ _)); refine blk_far ?_ NB374_382.out _; (with_reducible repeat (first | refine blk_drewN ?_ _ | refine blk_drew ?_ | refine blk_alloc ?_ _)); refine blk_far ?_ NB374_382.out _; (with_reducible repeat (first | refine blk_drewN ?_ _ | refine blk_drew ?_ | refine blk_alloc ?_ _)); refine blk_far ?_ NB374_382.out _; (with_reducible repeat (first | refine blk_drewN ?_ _ | refine blk_drew ?_ | refine blk_alloc ?_ _)); exact BK374.out⟩
  have n8_ : Aside0 ((((w72.setCell ⟨gb382, 0, none⟩ (.slice Ao73 t375.length co73)).setCell ⟨gb382, 1, none⟩ (.slice Ao78 t378.length co78)).setCell ⟨gb382, 2, none⟩ (.int .i64 t381)).heap[gb382]? = some (.cells #[.slice Ao73 t375.length co73, .slice Ao78 t378.length co78, .int .i64 t381] 30 (0, 0))) := ⟨by (with_reducible repeat (first | refine blk_drewN ?_ _ | refine blk_drew ?_ | refine blk_alloc ?_ _)); refine blk_put (cs := #[.slice Ao73 t375.length co73, .slice Ao78 t378.length co78, .int .i64 0]) ?_ 2 _ rfl; (with_reducible repeat (first | refine blk_drewN ?_ _ | refine blk_drew ?_ | refine blk_alloc ?_ _)); refine blk_put (cs := #[.slice Ao73 t375.length co73, .slice none 0 0, .int .i64 0]) ?_ 1 _ rfl; (with_reducible repeat (first | refine blk_drewN ?_ _ | refine blk_drew ?_ | refine blk_alloc ?_ _)); refine blk_put (cs := #[.slice none 0 0, .slice none 0 0, .int .i64 0]) ?_ 0 _ rfl; (with_reducible repeat (first | refine blk_drewN ?_ _ | refine blk_drew ?_ | refine blk_alloc ?_ _)); exact BK382.out⟩
  have n9_ : Aside0 (Below w.heap.size w (((w72.setCell ⟨gb382, 0, none⟩ (.slice Ao73 t375.length co73)).setCell ⟨gb382, 1, none⟩ (.slice Ao78 t378.length co78)).setCell ⟨gb382, 2, none⟩ (.int .i64 t381))) := ⟨by repeat (first | (with_reducible first | exact HB.out | apply below_alloc | apply pw_below_drewN | apply below_drew1 | refine below_set ?_ GE349.out | refine below_set ?_ GE350.out | refine below_set ?_ GE374.out | refine below_set ?_ GE382.out) | exact HB.out)⟩
  (try clear HO365)
  (try clear HO368)
  (try clear HO372)
  (try clear HO377)
  (try clear HO380)
  (try clear BK349)
  (try clear BK350)
  (try clear BK374)
  (try clear BK382)
  (try clear HB)
  generalize (((w72.setCell ⟨gb382, 0, none⟩ (.slice Ao73 t375.length co73)).setCell ⟨gb382, 1, none⟩ (.slice Ao78 t378.length co78)).setCell ⟨gb382, 2, none⟩ (.int .i64 t381)) = w79 at n0_ n1_ n2_ n3_ n4_ n5_ n6_ n7_ n8_ n9_ ⊢
  have HO365 := n0_
  have HO368 := n1_
  have HO372 := n2_
  have HO377 := n3_
  have HO380 := n4_
  have BK349 := n5_
  have BK350 := n6_
  have BK374 := n7_
  have BK382 := n8_
  have HB := n9_
  clear n0_ n1_ n2_ n3_ n4_ n5_ n6_ n7_ n8_ n9_
  replace HO365 := am (Kd.R_drew HO365.out)
  replace HO368 := am (Kd.R_drew HO368.out)
  replace HO372 := am (Kd.R_drew HO372.out)
  replace HO377 := am (Kd.R_drew HO377.out)
  replace HO380 := am (Kd.R_drew HO380.out)
  replace BK349 := am (blk_drew BK349.out)
  replace BK350 := am (blk_drew BK350.out)
  replace BK374 := am (blk_drew BK374.out)
  replace BK382 := am (blk_drew BK382.out)
  replace HB := am (below_drew1 HB.out)
  refine start_ (n := 14) (S := fun w' => w'.cell? ⟨gb382, 0, none⟩ = some (.slice Ao73 t375.length co73) ∧ w'.cell? ⟨gb382, 1, none⟩ = some (.slice Ao78 t378.length co78) ∧ w'.cell? ⟨gb382, 2, none⟩ = some (.int .i64 t381) ∧ w'.cell? ⟨gb350, 0, none⟩ = some (.int .i64 a3_0) ∧ w'.cell? ⟨gb350, 1, none⟩ = some (.int .i64 a3_1) ∧ w'.cell? ⟨gb350, 2, none⟩ = some (.int .i64 a3_2) ∧ w'.cell? ⟨gb350, 3, none⟩ = some (.int .i64 a3_3)) (ds := []) #[false, false, false, false, false, false, false, false, false, false, false, false, false, false] (by kernel_rfl) rfl rfl ⟨(blk_cell BK382.out 0).trans rfl, (blk_cell BK382.out 1).trans rfl, (blk_cell BK382.out 2).trans rfl, (blk_cell BK350.out 0).trans rfl, (blk_cell BK350.out 1).trans rfl, (blk_cell BK350.out 2).trans rfl, (blk_cell BK350.out 3).trans rfl⟩ (fun hHeld => ?_); refine with_tabW laws_FnExactAddJoin.tab7 laws_FnExactAddJoin.bits7 (fun HT_ HW_ => ?_)
  generalize w79.drew = w80 at HO365 HO368 HO372 HO377 HO380 BK349 BK350 BK374 BK382 HB hHeld ⊢
  refine pure_ (i := 1) (N := some 43) (v := ?_) (a' := ?_) #[false, true, false, false, false, false, false, false, false, false, false, false, false, false] rfl rfl (any_of HT_.out (by kernel_rfl)) (fun _ _ _ h => h) (Or.inl ⟨by rfl, ?_⟩) ?_ ?_
  rotate_left
  · intro w'
    go_simp
    with_reducible rfl
  rotate_left
  · simp only [Act.put, List.setIfInBounds_toArray, List.set_cons_zero, List.set_cons_succ, i64_w, i32_w]
    rfl
  refine pure_ (i := 2) (N := some 44) (v := ?_) (a' := ?_) #[false, true, true, false, false, false, false, false, false, false, false, false, false, false] rfl rfl (any_of HT_.out (by kernel_rfl)) (fun _ _ _ h => h) (Or.inl ⟨by rfl, ?_⟩) ?_ ?_
  rotate_left
  · intro w'
    go_simp
    with_reducible rfl
  rotate_left
  · simp only [Act.put, List.setIfInBounds_toArray, List.set_cons_zero, List.set_cons_succ, i64_w, i32_w]
    rfl
  refine take_ (i := 0) (N := some 42) (v := ?_) (a' := ?_) #[true, true, true, false, false, false, false, false, false, false, false, false, false, false] rfl rfl (take_ofW HT_.out HW_.out (by kernel_rfl)) (fun _ _ _ h => h) (Or.inl ⟨by rfl, ?_⟩) hHeld ?_ ?_
  rotate_left
  · rintro w' ⟨s0, s1, s2, s3, s4, s5, s6⟩
    go_simp
    with_reducible rfl
  rotate_left
  · simp only [Act.put, List.setIfInBounds_toArray, List.set_cons_zero, List.set_cons_succ, i64_w, i32_w]
    rfl
  refine take_ (i := 3) (N := some 45) (v := ?_) (a' := ?_) #[true, true, true, true, false, false, false, false, false, false, false, false, false, false] rfl rfl (take_ofW HT_.out HW_.out (by kernel_rfl)) (fun _ _ _ h => h) (Or.inl ⟨by rfl, ?_⟩) hHeld ?_ ?_
  rotate_left
  · rintro w' ⟨s0, s1, s2, s3, s4, s5, s6⟩
    go_simp
    with_reducible rfl
  rotate_left
  · simp only [Act.put, List.setIfInBounds_toArray, List.set_cons_zero, List.set_cons_succ, i64_w, i32_w]
    rfl
  refine join_ (σ := Value × Value × Value × Nat) 3 #[true, true, true, true, true, true, true, true, true, true, true, false, false, false] (fun s_ => [(46, .agg #[.int .i64 t383, .int .i64 t384, .int .i64 t385, .int .i64 t386]), (47, .tuple #[.agg #[s_.1, s_.2.1, .int .i64 t393], s_.2.2.1, .int .i64 t397]), (14, .pointer (some ⟨s_.2.2.2, 0, none⟩)), (41, .tuple #[.agg #[s_.1, s_.2.1, .int .i64 t393], s_.2.2.1, .int .i64 t397]), (48, .agg #[s_.1, s_.2.1, .int .i64 t393]), (49, s_.2.2.1), (50, .int .i64 t397)]) (fun s_ w' => (w'.cell? ⟨gb382, 0, none⟩ = some (.slice Ao73 t375.length co73) ∧ w'.cell? ⟨gb382, 1, none⟩ = some (.slice Ao78 t378.length co78) ∧ w'.cell? ⟨gb382, 2, none⟩ = some (.int .i64 t381) ∧ w'.cell? ⟨gb350, 0, none⟩ = some (.int .i64 a3_0) ∧ w'.cell? ⟨gb350, 1, none⟩ = some (.int .i64 a3_1) ∧ w'.cell? ⟨gb350, 2, none⟩ = some (.int .i64 a3_2) ∧ w'.cell? ⟨gb350, 3, none⟩ = some (.int .i64 a3_3)) ∧ (Kd.R k35 35 w' w.heap.size (fun k_ => nb k_ (sv Ao66 t366 co66) ∧ nb k_ (sv Ao73 t375 co73) ∧ nb k_ (sv Ao78 t378 co78) ∧ some k_ ≠ (s_.1 : Value).ownBlock ∧ some k_ ≠ (s_.2.1 : Value).ownBlock) (.slice Ao64 t363.length co64) t363) ∧ (Kd.R k35 35 w' w.heap.size (fun k_ => nb k_ (sv Ao64 t363 co64) ∧ nb k_ (sv Ao73 t375 co73) ∧ nb k_ (sv Ao78 t378 co78) ∧ some k_ ≠ (s_.1 : Value).ownBlock ∧ some k_ ≠ (s_.2.1 : Value).ownBlock) (.slice Ao66 t366.length co66) t366) ∧ (Kd.R k75 75 w' w.heap.size (fun k_ => some k_ ≠ (s_.2.2.1 : Value).ownBlock) v371 t370) ∧ (Kd.R k35 35 w' w.heap.size (fun k_ => nb k_ (sv Ao64 t363 co64) ∧ nb k_ (sv Ao66 t366 co66) ∧ nb k_ (sv Ao78 t378 co78) ∧ some k_ ≠ (s_.1 : Value).ownBlock ∧ some k_ ≠ (s_.2.1 : Value).ownBlock) (.slice Ao73 t375.length co73) t375) ∧ (Kd.R k35 35 w' w.heap.size (fun k_ => nb k_ (sv Ao64 t363 co64) ∧ nb k_ (sv Ao66 t366 co66) ∧ nb k_ (sv Ao73 t375 co73) ∧ some k_ ≠ (s_.1 : Value).ownBlock ∧ some k_ ≠ (s_.2.1 : Value).ownBlock) (.slice Ao78 t378.length co78) t378) ∧ (Kd.R k35 35 w' w.heap.size (fun k_ => nb k_ (sv Ao64 t363 co64) ∧ nb k_ (sv Ao66 t366 co66) ∧ nb k_ (sv Ao73 t375 co73) ∧ nb k_ (sv Ao78 t378 co78) ∧ some k_ ≠ (s_.2.1 : Value).ownBlock) s_.1 t387) ∧ (Kd.R k35 35 w' w.heap.size (fun k_ => nb k_ (sv Ao64 t363 co64) ∧ nb k_ (sv Ao66 t366 co66) ∧ nb k_ (sv Ao73 t375 co73) ∧ nb k_ (sv Ao78 t378 co78) ∧ some k_ ≠ (s_.1 : Value).ownBlock) s_.2.1 t390) ∧ (Kd.R k75 75 w' w.heap.size (fun k_ => nb k_ v371) s_.2.2.1 t394) ∧ (w'.heap[gb349]? = some (.cells #[.slice A0_0 l0_0.length c0_0, .slice A0_1 l0_1.length c0_1, .int .i64 a0_2] 24 (0, 0))) ∧ (w'.heap[gb350]? = some (.cells #[.int .i64 a3_0, .int .i64 a3_1, .int .i64 a3_2, .int .i64 a3_3] 26 (0, 0))) ∧ (w'.heap[gb374]? = some (.cells #[.slice Ao64 t363.length co64, .slice Ao66 t366.length co66, .int .i64 t369] 30 (0, 0))) ∧ (w'.heap[gb382]? = some (.cells #[.slice Ao73 t375.length co73, .slice Ao78 t378.length co78, .int .i64 t381] 30 (0, 0))) ∧ (w'.heap[s_.2.2.2]? = some (.cells #[.slice none 0 0, .slice none 0 0, .int .i64 0] 30 (0, 0))) ∧ (w.heap.size ≤ s_.2.2.2) ∧ (w.heap.size ≤ s_.2.2.2) ∧ (gb349 ≠ s_.2.2.2) ∧ (s_.2.2.2 ≠ gb349) ∧ (gb350 ≠ s_.2.2.2) ∧ (s_.2.2.2 ≠ gb350) ∧ (gb374 ≠ s_.2.2.2) ∧ (s_.2.2.2 ≠ gb374) ∧ (gb382 ≠ s_.2.2.2) ∧ (s_.2.2.2 ≠ gb382) ∧ (Below w.heap.size w w')) ?_ ?_
  rotate_left
  · intro hCont
    refine two_ (i := 4) (j := 10) (Ni := some 46) (Nj := some 14) #[true, true, true, true, true, false, false, false, false, false, false, false, false, false] #[true, true, true, true, false, false, false, false, false, false, true, false, false, false] rfl rfl rfl rfl (two_of HT_.out (by kernel_rfl)) (by decide) (by decide) (fun K hK => ?_) (fun K hK => ?_)
    · skip
      refine goes_ Try.func11 (by kernel_rfl) rfl #[.agg #[.int .i64 a3_0, .int .i64 a3_1, .int .i64 a3_2, .int .i64 a3_3]] (by rfl) rfl rfl (by (try simp only [List.map_toArray, List.map_cons, List.map_nil]); first | done | rfl | (simp only [List.length_drop, List.length_take]; rfl)) ?_
      with_reducible refine (laws_toFrame.calls a3_0 a3_1 a3_2 a3_3 t383 t384 t385 t386 _ A15.out).mono ?_
      rintro e w81 ⟨rfl, hb⟩
      refine ⟨_, rfl, ?_⟩
      replace HO365 := am (Kd.R_below (rq HO365.out) hb)
      replace HO368 := am (Kd.R_below (rq HO368.out) hb)
      replace HO372 := am (Kd.R_below (rq HO372.out) hb)
      replace HO377 := am (Kd.R_below (rq HO377.out) hb)
      replace HO380 := am (Kd.R_below (rq HO380.out) hb)
      replace BK349 := am (blk_below (blkq BK349.out) hb)
      replace BK350 := am (blk_below (blkq BK350.out) hb)
      replace BK374 := am (blk_below (blkq BK374.out) hb)
      replace BK382 := am (blk_below (blkq BK382.out) hb)
      replace HB := am (below_step bel hb)
      (try clear hb)
      refine hK.out _ _ ⟨(blk_cell BK382.out 0).trans rfl, (blk_cell BK382.out 1).trans rfl, (blk_cell BK382.out 2).trans rfl, (blk_cell BK350.out 0).trans rfl, (blk_cell BK350.out 1).trans rfl, (blk_cell BK350.out 2).trans rfl, (blk_cell BK350.out 3).trans rfl⟩ (fun hHeld => ?_)
      clear hK K
      refine norm_ (a' := ?_) ?_ ?_
      rotate_left
      · show Act.put _ (some 46) _ = _
        simp only [Act.put, List.setIfInBounds_toArray, List.set_cons_zero, List.set_cons_succ, i64_w, i32_w]
        rfl
      refine two_ (i := 5) (j := 10) (Ni := some 47) (Nj := some 14) #[true, true, true, true, true, true, false, false, false, false, false, false, false, false] #[true, true, true, true, true, false, false, false, false, false, true, false, false, false] rfl rfl rfl rfl (two_of HT_.out (by kernel_rfl)) (by decide) (by decide) (fun K hK => ?_) (fun K hK => ?_)
      · skip
        refine goes_ Try.func12 (by kernel_rfl) rfl #[.agg #[.slice Ao73 t375.length co73, .slice Ao78 t378.length co78, .int .i64 t381], .int .i64 a1, .bool a2, .agg #[.int .i64 t383, .int .i64 t384, .int .i64 t385, .int .i64 t386]] (by rfl) rfl rfl (by (try simp only [List.map_toArray, List.map_cons, List.map_nil]); first | done | rfl | (simp only [List.length_drop, List.length_take]; rfl)) ?_
        with_reducible refine (impl_AddJoin.calls k _ _ t375 _ _ t378 t381 a1 a2 t383 t384 t385 t386 t387 t390 t393 t394 t397 _ ?side1 ?side2 ?side3 ?side4 A16.out).mono ?_
        (case side1 => repeat (first | exact (Kd.R_reads' HO377.out).2.2 | (with_reducible refine Kd.C_alloc ?_ _) | (with_reducible refine Kd.C_drewN ?_ _) | (with_reducible refine Kd.C_drew ?_)))
        (case side2 => exact (Kd.R_reads' HO377.out).2.1)
        (case side3 => repeat (first | exact (Kd.R_reads' HO380.out).2.2 | (with_reducible refine Kd.C_alloc ?_ _) | (with_reducible refine Kd.C_drewN ?_ _) | (with_reducible refine Kd.C_drew ?_)))
        (case side4 => exact (Kd.R_reads' HO380.out).2.1)
        rintro e w82 ⟨v388, v391, v395, rfl, ho0, ho1, ho2, hb⟩
        refine ⟨_, rfl, ?_⟩
        have HO389 := am (Kd.R_lower (Kd.R_new' (Kd.R_new' (Kd.R_new' (Kd.R_new' ho0 (Kd.R_lt (rq HO365.out))) (Kd.R_lt (rq HO368.out))) (Kd.R_lt (rq HO377.out))) (Kd.R_lt (rq HO380.out))) (below_size bel))
        have HO392 := am (Kd.R_lower (Kd.R_new' (Kd.R_new' (Kd.R_new' (Kd.R_new' ho1 (Kd.R_lt (rq HO365.out))) (Kd.R_lt (rq HO368.out))) (Kd.R_lt (rq HO377.out))) (Kd.R_lt (rq HO380.out))) (below_size bel))
        replace HO365 := am (Kd.R_mono (Kd.R_told (Kd.R_told (Kd.R_old (rq HO365.out) hb) (Kd.R_base ho0)) (Kd.R_base ho1)) (fun _ h_ => h_.1))
        replace HO368 := am (Kd.R_mono (Kd.R_told (Kd.R_told (Kd.R_old (rq HO368.out) hb) (Kd.R_base ho0)) (Kd.R_base ho1)) (fun _ h_ => h_.1))
        replace HO377 := am (Kd.R_mono (Kd.R_told (Kd.R_told (Kd.R_old (rq HO377.out) hb) (Kd.R_base ho0)) (Kd.R_base ho1)) (fun _ h_ => h_.1))
        replace HO380 := am (Kd.R_mono (Kd.R_told (Kd.R_told (Kd.R_old (rq HO380.out) hb) (Kd.R_base ho0)) (Kd.R_base ho1)) (fun _ h_ => h_.1))
        have HO396 := am (Kd.R_lower (Kd.R_new' ho2 (Kd.R_lt (rq HO372.out))) (below_size bel))
        replace HO372 := am (Kd.R_elder' (rq HO372.out) (Kd.R_base ho2) hb)
        replace BK349 := am (blk_below (blkq BK349.out) hb)
        replace BK350 := am (blk_below (blkq BK350.out) hb)
        replace BK374 := am (blk_below (blkq BK374.out) hb)
        replace BK382 := am (blk_below (blkq BK382.out) hb)
        replace HB := am (below_step bel hb)
        (try clear hb)
        (try clear ho0)
        (try clear ho1)
        (try clear ho2)
        refine hK.out _ _ ⟨(blk_cell BK382.out 0).trans rfl, (blk_cell BK382.out 1).trans rfl, (blk_cell BK382.out 2).trans rfl, (blk_cell BK350.out 0).trans rfl, (blk_cell BK350.out 1).trans rfl, (blk_cell BK350.out 2).trans rfl, (blk_cell BK350.out 3).trans rfl⟩ (fun hHeld => ?_)
        clear hK K
        refine norm_ (a' := ?_) ?_ ?_
        rotate_left
        · show Act.put _ (some 47) _ = _
          simp only [Act.put, List.setIfInBounds_toArray, List.set_cons_zero, List.set_cons_succ, i64_w, i32_w]
          rfl
        refine pure_ (i := 6) (N := some 41) (v := ?_) (a' := ?_) #[true, true, true, true, true, true, true, false, false, false, false, false, false, false] rfl rfl (any_of HT_.out (by kernel_rfl)) (fun _ _ _ h => h) (Or.inl ⟨by rfl, ?_⟩) ?_ ?_
        rotate_left
        · intro w'
          go_simp
          with_reducible rfl
        rotate_left
        · simp only [Act.put, List.setIfInBounds_toArray, List.set_cons_zero, List.set_cons_succ, i64_w, i32_w]
          rfl
        refine pure_ (i := 7) (N := some 48) (v := ?_) (a' := ?_) #[true, true, true, true, true, true, true, true, false, false, false, false, false, false] rfl rfl (any_of HT_.out (by kernel_rfl)) (fun _ _ _ h => h) (Or.inl ⟨by rfl, ?_⟩) ?_ ?_
        rotate_left
        · intro w'
          go_simp
          with_reducible rfl
        rotate_left
        · simp only [Act.put, List.setIfInBounds_toArray, List.set_cons_zero, List.set_cons_succ, i64_w, i32_w]
          rfl
        refine pure_ (i := 8) (N := some 49) (v := ?_) (a' := ?_) #[true, true, true, true, true, true, true, true, true, false, false, false, false, false] rfl rfl (any_of HT_.out (by kernel_rfl)) (fun _ _ _ h => h) (Or.inl ⟨by rfl, ?_⟩) ?_ ?_
        rotate_left
        · intro w'
          go_simp
          with_reducible rfl
        rotate_left
        · simp only [Act.put, List.setIfInBounds_toArray, List.set_cons_zero, List.set_cons_succ, i64_w, i32_w]
          rfl
        refine pure_ (i := 9) (N := some 50) (v := ?_) (a' := ?_) #[true, true, true, true, true, true, true, true, true, true, false, false, false, false] rfl rfl (any_of HT_.out (by kernel_rfl)) (fun _ _ _ h => h) (Or.inl ⟨by rfl, ?_⟩) ?_ ?_
        rotate_left
        · intro w'
          go_simp
          with_reducible rfl
        rotate_left
        · simp only [Act.put, List.setIfInBounds_toArray, List.set_cons_zero, List.set_cons_succ, i64_w, i32_w]
          rfl
        refine one_ (i := 10) (N := some 14) #[true, true, true, true, true, true, true, true, true, true, true, false, false, false] rfl rfl (one_of HT_.out (by kernel_rfl)) (by decide) (fun K hK => ?_)
        refine box_step ?hg (N := 14) ?hd (cs := #[.slice none 0 0, .slice none 0 0, .int .i64 0]) (t := 30) ?hr ?_; (case hd => rfl); (case hg => rfl); (case hr => first | (go_simp; done) | (go_simp; rfl))
        intro gb398 hg w83 hbox hb
        replace HO365 := am (Kd.R_below (rq HO365.out) hb)
        replace HO368 := am (Kd.R_below (rq HO368.out) hb)
        replace HO372 := am (Kd.R_below (rq HO372.out) hb)
        replace HO377 := am (Kd.R_below (rq HO377.out) hb)
        replace HO380 := am (Kd.R_below (rq HO380.out) hb)
        replace HO389 := am (Kd.R_below (rq HO389.out) hb)
        replace HO392 := am (Kd.R_below (rq HO392.out) hb)
        replace HO396 := am (Kd.R_below (rq HO396.out) hb)
        have BK398 := am (hbox)
        have GW398 := am ((by rw [hg]; exact (below_size bel) : w.heap.size ≤ gb398))
        have GE398 := am ((by rw [hg]; exact (below_size bel) : w.heap.size ≤ gb398))
        replace HB := am (below_step bel hb)
        have NB349_398 := am ((by rw [hg]; exact Nat.ne_of_lt (blk_lt (blkq BK349.out)) : gb349 ≠ gb398))
        have NB398_349 := am ((by rw [hg]; exact Nat.ne_of_gt (blk_lt (blkq BK349.out)) : gb398 ≠ gb349))
        replace BK349 := am (blk_below (blkq BK349.out) hb)
        have NB350_398 := am ((by rw [hg]; exact Nat.ne_of_lt (blk_lt (blkq BK350.out)) : gb350 ≠ gb398))
        have NB398_350 := am ((by rw [hg]; exact Nat.ne_of_gt (blk_lt (blkq BK350.out)) : gb398 ≠ gb350))
        replace BK350 := am (blk_below (blkq BK350.out) hb)
        have NB374_398 := am ((by rw [hg]; exact Nat.ne_of_lt (blk_lt (blkq BK374.out)) : gb374 ≠ gb398))
        have NB398_374 := am ((by rw [hg]; exact Nat.ne_of_gt (blk_lt (blkq BK374.out)) : gb398 ≠ gb374))
        replace BK374 := am (blk_below (blkq BK374.out) hb)
        have NB382_398 := am ((by rw [hg]; exact Nat.ne_of_lt (blk_lt (blkq BK382.out)) : gb382 ≠ gb398))
        have NB398_382 := am ((by rw [hg]; exact Nat.ne_of_gt (blk_lt (blkq BK382.out)) : gb398 ≠ gb382))
        replace BK382 := am (blk_below (blkq BK382.out) hb)
        clear hb hbox hg
        refine hK.out _ _ ⟨(blk_cell BK382.out 0).trans rfl, (blk_cell BK382.out 1).trans rfl, (blk_cell BK382.out 2).trans rfl, (blk_cell BK350.out 0).trans rfl, (blk_cell BK350.out 1).trans rfl, (blk_cell BK350.out 2).trans rfl, (blk_cell BK350.out 3).trans rfl⟩ (fun hHeld => ?_)
        clear hK K
        refine norm_ (a' := ?_) ?_ ?_
        rotate_left
        · show Act.put _ (some 14) _ = _
          simp only [Act.put, List.setIfInBounds_toArray, List.set_cons_zero, List.set_cons_succ, i64_w, i32_w]
          rfl
        exact norm_ (by simp only [putAll, Act.put, List.setIfInBounds_toArray, List.set_cons_zero, List.set_cons_succ]) (hCont (v388, v391, v395, gb398) _ ⟨hHeld, (by (with_reducible repeat (first | apply Kd.R_alloc | apply Kd.R_drewN | apply Kd.R_drew)); exact Kd.R_mono HO365.out (fun _ hk => ⟨hk.1.1.1, ⟨hk.1.1.2.1, ⟨hk.1.1.2.2, ⟨hk.1.2, hk.2⟩⟩⟩⟩)), (by (with_reducible repeat (first | apply Kd.R_alloc | apply Kd.R_drewN | apply Kd.R_drew)); exact Kd.R_mono HO368.out (fun _ hk => ⟨hk.1.1.1, ⟨hk.1.1.2.1, ⟨hk.1.1.2.2, ⟨hk.1.2, hk.2⟩⟩⟩⟩)), (by (with_reducible repeat (first | apply Kd.R_alloc | apply Kd.R_drewN | apply Kd.R_drew)); exact Kd.R_mono HO372.out (fun _ hk => hk.2)), (by (with_reducible repeat (first | apply Kd.R_alloc | apply Kd.R_drewN | apply Kd.R_drew)); exact Kd.R_mono HO377.out (fun _ hk => ⟨hk.1.1.1, ⟨hk.1.1.2.1, ⟨hk.1.1.2.2, ⟨hk.1.2, hk.2⟩⟩⟩⟩)), (by (with_reducible repeat (first | apply Kd.R_alloc | apply Kd.R_drewN | apply Kd.R_drew)); exact Kd.R_mono HO380.out (fun _ hk => ⟨hk.1.1.1, ⟨hk.1.1.2.1, ⟨hk.1.1.2.2, ⟨hk.1.2, hk.2⟩⟩⟩⟩)), (by (with_reducible repeat (first | apply Kd.R_alloc | apply Kd.R_drewN | apply Kd.R_drew)); exact Kd.R_mono HO389.out (fun _ hk => ⟨hk.1.1.1.2, ⟨hk.1.1.2, ⟨hk.1.2, ⟨hk.2, hk.1.1.1.1⟩⟩⟩⟩)), (by (with_reducible repeat (first | apply Kd.R_alloc | apply Kd.R_drewN | apply Kd.R_drew)); exact Kd.R_mono HO392.out (fun _ hk => ⟨hk.1.1.1.2, ⟨hk.1.1.2, ⟨hk.1.2, ⟨hk.2, hk.1.1.1.1⟩⟩⟩⟩)), (by (with_reducible repeat (first | apply Kd.R_alloc | apply Kd.R_drewN | apply Kd.R_drew)); exact Kd.R_mono HO396.out (fun _ hk => hk.2)), (blkq BK349.out), (blkq BK350.out), (blkq BK374.out), (blkq BK382.out), (blkq BK398.out), GW398.out, GE398.out, NB349_398.out, NB398_349.out, NB350_398.out, NB398_350.out, NB374_398.out, NB398_374.out, NB382_398.out, NB398_382.out, bel⟩)
      · skip
        refine box_step ?hg (N := 14) ?hd (cs := #[.slice none 0 0, .slice none 0 0, .int .i64 0]) (t := 30) ?hr ?_; (case hd => rfl); (case hg => rfl); (case hr => first | (go_simp; done) | (go_simp; rfl))
        intro gb398 hg w82 hbox hb
        replace HO365 := am (Kd.R_below (rq HO365.out) hb)
        replace HO368 := am (Kd.R_below (rq HO368.out) hb)
        replace HO372 := am (Kd.R_below (rq HO372.out) hb)
        replace HO377 := am (Kd.R_below (rq HO377.out) hb)
        replace HO380 := am (Kd.R_below (rq HO380.out) hb)
        have BK398 := am (hbox)
        have GW398 := am ((by rw [hg]; exact (below_size bel) : w.heap.size ≤ gb398))
        have GE398 := am ((by rw [hg]; exact (below_size bel) : w.heap.size ≤ gb398))
        replace HB := am (below_step bel hb)
        have NB349_398 := am ((by rw [hg]; exact Nat.ne_of_lt (blk_lt (blkq BK349.out)) : gb349 ≠ gb398))
        have NB398_349 := am ((by rw [hg]; exact Nat.ne_of_gt (blk_lt (blkq BK349.out)) : gb398 ≠ gb349))
        replace BK349 := am (blk_below (blkq BK349.out) hb)
        have NB350_398 := am ((by rw [hg]; exact Nat.ne_of_lt (blk_lt (blkq BK350.out)) : gb350 ≠ gb398))
        have NB398_350 := am ((by rw [hg]; exact Nat.ne_of_gt (blk_lt (blkq BK350.out)) : gb398 ≠ gb350))
        replace BK350 := am (blk_below (blkq BK350.out) hb)
        have NB374_398 := am ((by rw [hg]; exact Nat.ne_of_lt (blk_lt (blkq BK374.out)) : gb374 ≠ gb398))
        have NB398_374 := am ((by rw [hg]; exact Nat.ne_of_gt (blk_lt (blkq BK374.out)) : gb398 ≠ gb374))
        replace BK374 := am (blk_below (blkq BK374.out) hb)
        have NB382_398 := am ((by rw [hg]; exact Nat.ne_of_lt (blk_lt (blkq BK382.out)) : gb382 ≠ gb398))
        have NB398_382 := am ((by rw [hg]; exact Nat.ne_of_gt (blk_lt (blkq BK382.out)) : gb398 ≠ gb382))
        replace BK382 := am (blk_below (blkq BK382.out) hb)
        clear hb hbox hg
        refine hK.out _ _ ⟨(blk_cell BK382.out 0).trans rfl, (blk_cell BK382.out 1).trans rfl, (blk_cell BK382.out 2).trans rfl, (blk_cell BK350.out 0).trans rfl, (blk_cell BK350.out 1).trans rfl, (blk_cell BK350.out 2).trans rfl, (blk_cell BK350.out 3).trans rfl⟩ (fun hHeld => ?_)
        clear hK K
        refine norm_ (a' := ?_) ?_ ?_
        rotate_left
        · show Act.put _ (some 14) _ = _
          simp only [Act.put, List.setIfInBounds_toArray, List.set_cons_zero, List.set_cons_succ, i64_w, i32_w]
          rfl
        refine one_ (i := 5) (N := some 47) #[true, true, true, true, true, true, false, false, false, false, true, false, false, false] rfl rfl (one_of HT_.out (by kernel_rfl)) (by decide) (fun K hK => ?_)
        refine goes_ Try.func12 (by kernel_rfl) rfl #[.agg #[.slice Ao73 t375.length co73, .slice Ao78 t378.length co78, .int .i64 t381], .int .i64 a1, .bool a2, .agg #[.int .i64 t383, .int .i64 t384, .int .i64 t385, .int .i64 t386]] (by rfl) rfl rfl (by (try simp only [List.map_toArray, List.map_cons, List.map_nil]); first | done | rfl | (simp only [List.length_drop, List.length_take]; rfl)) ?_
        with_reducible refine (impl_AddJoin.calls k _ _ t375 _ _ t378 t381 a1 a2 t383 t384 t385 t386 t387 t390 t393 t394 t397 _ ?side1 ?side2 ?side3 ?side4 A16.out).mono ?_
        (case side1 => repeat (first | exact (Kd.R_reads' HO377.out).2.2 | (with_reducible refine Kd.C_alloc ?_ _) | (with_reducible refine Kd.C_drewN ?_ _) | (with_reducible refine Kd.C_drew ?_)))
        (case side2 => exact (Kd.R_reads' HO377.out).2.1)
        (case side3 => repeat (first | exact (Kd.R_reads' HO380.out).2.2 | (with_reducible refine Kd.C_alloc ?_ _) | (with_reducible refine Kd.C_drewN ?_ _) | (with_reducible refine Kd.C_drew ?_)))
        (case side4 => exact (Kd.R_reads' HO380.out).2.1)
        rintro e w83 ⟨v388, v391, v395, rfl, ho0, ho1, ho2, hb⟩
        refine ⟨_, rfl, ?_⟩
        have HO389 := am (Kd.R_lower (Kd.R_new' (Kd.R_new' (Kd.R_new' (Kd.R_new' ho0 (Kd.R_lt (rq HO365.out))) (Kd.R_lt (rq HO368.out))) (Kd.R_lt (rq HO377.out))) (Kd.R_lt (rq HO380.out))) (below_size bel))
        have HO392 := am (Kd.R_lower (Kd.R_new' (Kd.R_new' (Kd.R_new' (Kd.R_new' ho1 (Kd.R_lt (rq HO365.out))) (Kd.R_lt (rq HO368.out))) (Kd.R_lt (rq HO377.out))) (Kd.R_lt (rq HO380.out))) (below_size bel))
        replace HO365 := am (Kd.R_mono (Kd.R_told (Kd.R_told (Kd.R_old (rq HO365.out) hb) (Kd.R_base ho0)) (Kd.R_base ho1)) (fun _ h_ => h_.1))
        replace HO368 := am (Kd.R_mono (Kd.R_told (Kd.R_told (Kd.R_old (rq HO368.out) hb) (Kd.R_base ho0)) (Kd.R_base ho1)) (fun _ h_ => h_.1))
        replace HO377 := am (Kd.R_mono (Kd.R_told (Kd.R_told (Kd.R_old (rq HO377.out) hb) (Kd.R_base ho0)) (Kd.R_base ho1)) (fun _ h_ => h_.1))
        replace HO380 := am (Kd.R_mono (Kd.R_told (Kd.R_told (Kd.R_old (rq HO380.out) hb) (Kd.R_base ho0)) (Kd.R_base ho1)) (fun _ h_ => h_.1))
        have HO396 := am (Kd.R_lower (Kd.R_new' ho2 (Kd.R_lt (rq HO372.out))) (below_size bel))
        replace HO372 := am (Kd.R_elder' (rq HO372.out) (Kd.R_base ho2) hb)
        replace BK349 := am (blk_below (blkq BK349.out) hb)
        replace BK350 := am (blk_below (blkq BK350.out) hb)
        replace BK374 := am (blk_below (blkq BK374.out) hb)
        replace BK382 := am (blk_below (blkq BK382.out) hb)
        replace BK398 := am (blk_below (blkq BK398.out) hb)
        replace HB := am (below_step bel hb)
        (try clear hb)
        (try clear ho0)
        (try clear ho1)
        (try clear ho2)
        refine hK.out _ _ ⟨(blk_cell BK382.out 0).trans rfl, (blk_cell BK382.out 1).trans rfl, (blk_cell BK382.out 2).trans rfl, (blk_cell BK350.out 0).trans rfl, (blk_cell BK350.out 1).trans rfl, (blk_cell BK350.out 2).trans rfl, (blk_cell BK350.out 3).trans rfl⟩ (fun hHeld => ?_)
        clear hK K
        refine norm_ (a' := ?_) ?_ ?_
        rotate_left
        · show Act.put _ (some 47) _ = _
          simp only [Act.put, List.setIfInBounds_toArray, List.set_cons_zero, List.set_cons_succ, i64_w, i32_w]
          rfl
        refine pure_ (i := 6) (N := some 41) (v := ?_) (a' := ?_) #[true, true, true, true, true, true, true, false, false, false, true, false, false, false] rfl rfl (any_of HT_.out (by kernel_rfl)) (fun _ _ _ h => h) (Or.inl ⟨by rfl, ?_⟩) ?_ ?_
        rotate_left
        · intro w'
          go_simp
          with_reducible rfl
        rotate_left
        · simp only [Act.put, List.setIfInBounds_toArray, List.set_cons_zero, List.set_cons_succ, i64_w, i32_w]
          rfl
        refine pure_ (i := 7) (N := some 48) (v := ?_) (a' := ?_) #[true, true, true, true, true, true, true, true, false, false, true, false, false, false] rfl rfl (any_of HT_.out (by kernel_rfl)) (fun _ _ _ h => h) (Or.inl ⟨by rfl, ?_⟩) ?_ ?_
        rotate_left
        · intro w'
          go_simp
          with_reducible rfl
        rotate_left
        · simp only [Act.put, List.setIfInBounds_toArray, List.set_cons_zero, List.set_cons_succ, i64_w, i32_w]
          rfl
        refine pure_ (i := 8) (N := some 49) (v := ?_) (a' := ?_) #[true, true, true, true, true, true, true, true, true, false, true, false, false, false] rfl rfl (any_of HT_.out (by kernel_rfl)) (fun _ _ _ h => h) (Or.inl ⟨by rfl, ?_⟩) ?_ ?_
        rotate_left
        · intro w'
          go_simp
          with_reducible rfl
        rotate_left
        · simp only [Act.put, List.setIfInBounds_toArray, List.set_cons_zero, List.set_cons_succ, i64_w, i32_w]
          rfl
        refine pure_ (i := 9) (N := some 50) (v := ?_) (a' := ?_) #[true, true, true, true, true, true, true, true, true, true, true, false, false, false] rfl rfl (any_of HT_.out (by kernel_rfl)) (fun _ _ _ h => h) (Or.inl ⟨by rfl, ?_⟩) ?_ ?_
        rotate_left
        · intro w'
          go_simp
          with_reducible rfl
        rotate_left
        · simp only [Act.put, List.setIfInBounds_toArray, List.set_cons_zero, List.set_cons_succ, i64_w, i32_w]
          rfl
        exact norm_ (by simp only [putAll, Act.put, List.setIfInBounds_toArray, List.set_cons_zero, List.set_cons_succ]) (hCont (v388, v391, v395, gb398) _ ⟨hHeld, (by (with_reducible repeat (first | apply Kd.R_alloc | apply Kd.R_drewN | apply Kd.R_drew)); exact Kd.R_mono HO365.out (fun _ hk => ⟨hk.1.1.1, ⟨hk.1.1.2.1, ⟨hk.1.1.2.2, ⟨hk.1.2, hk.2⟩⟩⟩⟩)), (by (with_reducible repeat (first | apply Kd.R_alloc | apply Kd.R_drewN | apply Kd.R_drew)); exact Kd.R_mono HO368.out (fun _ hk => ⟨hk.1.1.1, ⟨hk.1.1.2.1, ⟨hk.1.1.2.2, ⟨hk.1.2, hk.2⟩⟩⟩⟩)), (by (with_reducible repeat (first | apply Kd.R_alloc | apply Kd.R_drewN | apply Kd.R_drew)); exact Kd.R_mono HO372.out (fun _ hk => hk.2)), (by (with_reducible repeat (first | apply Kd.R_alloc | apply Kd.R_drewN | apply Kd.R_drew)); exact Kd.R_mono HO377.out (fun _ hk => ⟨hk.1.1.1, ⟨hk.1.1.2.1, ⟨hk.1.1.2.2, ⟨hk.1.2, hk.2⟩⟩⟩⟩)), (by (with_reducible repeat (first | apply Kd.R_alloc | apply Kd.R_drewN | apply Kd.R_drew)); exact Kd.R_mono HO380.out (fun _ hk => ⟨hk.1.1.1, ⟨hk.1.1.2.1, ⟨hk.1.1.2.2, ⟨hk.1.2, hk.2⟩⟩⟩⟩)), (by (with_reducible repeat (first | apply Kd.R_alloc | apply Kd.R_drewN | apply Kd.R_drew)); exact Kd.R_mono HO389.out (fun _ hk => ⟨hk.1.1.1.2, ⟨hk.1.1.2, ⟨hk.1.2, ⟨hk.2, hk.1.1.1.1⟩⟩⟩⟩)), (by (with_reducible repeat (first | apply Kd.R_alloc | apply Kd.R_drewN | apply Kd.R_drew)); exact Kd.R_mono HO392.out (fun _ hk => ⟨hk.1.1.1.2, ⟨hk.1.1.2, ⟨hk.1.2, ⟨hk.2, hk.1.1.1.1⟩⟩⟩⟩)), (by (with_reducible repeat (first | apply Kd.R_alloc | apply Kd.R_drewN | apply Kd.R_drew)); exact Kd.R_mono HO396.out (fun _ hk => hk.2)), (blkq BK349.out), (blkq BK350.out), (blkq BK374.out), (blkq BK382.out), (blkq BK398.out), GW398.out, GE398.out, NB349_398.out, NB398_349.out, NB350_398.out, NB398_350.out, NB374_398.out, NB398_374.out, NB382_398.out, NB398_382.out, bel⟩)
    · skip
      refine box_step ?hg (N := 14) ?hd (cs := #[.slice none 0 0, .slice none 0 0, .int .i64 0]) (t := 30) ?hr ?_; (case hd => rfl); (case hg => rfl); (case hr => first | (go_simp; done) | (go_simp; rfl))
      intro gb398 hg w81 hbox hb
      replace HO365 := am (Kd.R_below (rq HO365.out) hb)
      replace HO368 := am (Kd.R_below (rq HO368.out) hb)
      replace HO372 := am (Kd.R_below (rq HO372.out) hb)
      replace HO377 := am (Kd.R_below (rq HO377.out) hb)
      replace HO380 := am (Kd.R_below (rq HO380.out) hb)
      have BK398 := am (hbox)
      have GW398 := am ((by rw [hg]; exact (below_size bel) : w.heap.size ≤ gb398))
      have GE398 := am ((by rw [hg]; exact (below_size bel) : w.heap.size ≤ gb398))
      replace HB := am (below_step bel hb)
      have NB349_398 := am ((by rw [hg]; exact Nat.ne_of_lt (blk_lt (blkq BK349.out)) : gb349 ≠ gb398))
      have NB398_349 := am ((by rw [hg]; exact Nat.ne_of_gt (blk_lt (blkq BK349.out)) : gb398 ≠ gb349))
      replace BK349 := am (blk_below (blkq BK349.out) hb)
      have NB350_398 := am ((by rw [hg]; exact Nat.ne_of_lt (blk_lt (blkq BK350.out)) : gb350 ≠ gb398))
      have NB398_350 := am ((by rw [hg]; exact Nat.ne_of_gt (blk_lt (blkq BK350.out)) : gb398 ≠ gb350))
      replace BK350 := am (blk_below (blkq BK350.out) hb)
      have NB374_398 := am ((by rw [hg]; exact Nat.ne_of_lt (blk_lt (blkq BK374.out)) : gb374 ≠ gb398))
      have NB398_374 := am ((by rw [hg]; exact Nat.ne_of_gt (blk_lt (blkq BK374.out)) : gb398 ≠ gb374))
      replace BK374 := am (blk_below (blkq BK374.out) hb)
      have NB382_398 := am ((by rw [hg]; exact Nat.ne_of_lt (blk_lt (blkq BK382.out)) : gb382 ≠ gb398))
      have NB398_382 := am ((by rw [hg]; exact Nat.ne_of_gt (blk_lt (blkq BK382.out)) : gb398 ≠ gb382))
      replace BK382 := am (blk_below (blkq BK382.out) hb)
      clear hb hbox hg
      refine hK.out _ _ ⟨(blk_cell BK382.out 0).trans rfl, (blk_cell BK382.out 1).trans rfl, (blk_cell BK382.out 2).trans rfl, (blk_cell BK350.out 0).trans rfl, (blk_cell BK350.out 1).trans rfl, (blk_cell BK350.out 2).trans rfl, (blk_cell BK350.out 3).trans rfl⟩ (fun hHeld => ?_)
      clear hK K
      refine norm_ (a' := ?_) ?_ ?_
      rotate_left
      · show Act.put _ (some 14) _ = _
        simp only [Act.put, List.setIfInBounds_toArray, List.set_cons_zero, List.set_cons_succ, i64_w, i32_w]
        rfl
      refine one_ (i := 4) (N := some 46) #[true, true, true, true, true, false, false, false, false, false, true, false, false, false] rfl rfl (one_of HT_.out (by kernel_rfl)) (by decide) (fun K hK => ?_)
      refine goes_ Try.func11 (by kernel_rfl) rfl #[.agg #[.int .i64 a3_0, .int .i64 a3_1, .int .i64 a3_2, .int .i64 a3_3]] (by rfl) rfl rfl (by (try simp only [List.map_toArray, List.map_cons, List.map_nil]); first | done | rfl | (simp only [List.length_drop, List.length_take]; rfl)) ?_
      with_reducible refine (laws_toFrame.calls a3_0 a3_1 a3_2 a3_3 t383 t384 t385 t386 _ A15.out).mono ?_
      rintro e w82 ⟨rfl, hb⟩
      refine ⟨_, rfl, ?_⟩
      replace HO365 := am (Kd.R_below (rq HO365.out) hb)
      replace HO368 := am (Kd.R_below (rq HO368.out) hb)
      replace HO372 := am (Kd.R_below (rq HO372.out) hb)
      replace HO377 := am (Kd.R_below (rq HO377.out) hb)
      replace HO380 := am (Kd.R_below (rq HO380.out) hb)
      replace BK349 := am (blk_below (blkq BK349.out) hb)
      replace BK350 := am (blk_below (blkq BK350.out) hb)
      replace BK374 := am (blk_below (blkq BK374.out) hb)
      replace BK382 := am (blk_below (blkq BK382.out) hb)
      replace BK398 := am (blk_below (blkq BK398.out) hb)
      replace HB := am (below_step bel hb)
      (try clear hb)
      refine hK.out _ _ ⟨(blk_cell BK382.out 0).trans rfl, (blk_cell BK382.out 1).trans rfl, (blk_cell BK382.out 2).trans rfl, (blk_cell BK350.out 0).trans rfl, (blk_cell BK350.out 1).trans rfl, (blk_cell BK350.out 2).trans rfl, (blk_cell BK350.out 3).trans rfl⟩ (fun hHeld => ?_)
      clear hK K
      refine norm_ (a' := ?_) ?_ ?_
      rotate_left
      · show Act.put _ (some 46) _ = _
        simp only [Act.put, List.setIfInBounds_toArray, List.set_cons_zero, List.set_cons_succ, i64_w, i32_w]
        rfl
      refine one_ (i := 5) (N := some 47) #[true, true, true, true, true, true, false, false, false, false, true, false, false, false] rfl rfl (one_of HT_.out (by kernel_rfl)) (by decide) (fun K hK => ?_)
      refine goes_ Try.func12 (by kernel_rfl) rfl #[.agg #[.slice Ao73 t375.length co73, .slice Ao78 t378.length co78, .int .i64 t381], .int .i64 a1, .bool a2, .agg #[.int .i64 t383, .int .i64 t384, .int .i64 t385, .int .i64 t386]] (by rfl) rfl rfl (by (try simp only [List.map_toArray, List.map_cons, List.map_nil]); first | done | rfl | (simp only [List.length_drop, List.length_take]; rfl)) ?_
      with_reducible refine (impl_AddJoin.calls k _ _ t375 _ _ t378 t381 a1 a2 t383 t384 t385 t386 t387 t390 t393 t394 t397 _ ?side1 ?side2 ?side3 ?side4 A16.out).mono ?_
      (case side1 => repeat (first | exact (Kd.R_reads' HO377.out).2.2 | (with_reducible refine Kd.C_alloc ?_ _) | (with_reducible refine Kd.C_drewN ?_ _) | (with_reducible refine Kd.C_drew ?_)))
      (case side2 => exact (Kd.R_reads' HO377.out).2.1)
      (case side3 => repeat (first | exact (Kd.R_reads' HO380.out).2.2 | (with_reducible refine Kd.C_alloc ?_ _) | (with_reducible refine Kd.C_drewN ?_ _) | (with_reducible refine Kd.C_drew ?_)))
      (case side4 => exact (Kd.R_reads' HO380.out).2.1)
      rintro e w83 ⟨v388, v391, v395, rfl, ho0, ho1, ho2, hb⟩
      refine ⟨_, rfl, ?_⟩
      have HO389 := am (Kd.R_lower (Kd.R_new' (Kd.R_new' (Kd.R_new' (Kd.R_new' ho0 (Kd.R_lt (rq HO365.out))) (Kd.R_lt (rq HO368.out))) (Kd.R_lt (rq HO377.out))) (Kd.R_lt (rq HO380.out))) (below_size bel))
      have HO392 := am (Kd.R_lower (Kd.R_new' (Kd.R_new' (Kd.R_new' (Kd.R_new' ho1 (Kd.R_lt (rq HO365.out))) (Kd.R_lt (rq HO368.out))) (Kd.R_lt (rq HO377.out))) (Kd.R_lt (rq HO380.out))) (below_size bel))
      replace HO365 := am (Kd.R_mono (Kd.R_told (Kd.R_told (Kd.R_old (rq HO365.out) hb) (Kd.R_base ho0)) (Kd.R_base ho1)) (fun _ h_ => h_.1))
      replace HO368 := am (Kd.R_mono (Kd.R_told (Kd.R_told (Kd.R_old (rq HO368.out) hb) (Kd.R_base ho0)) (Kd.R_base ho1)) (fun _ h_ => h_.1))
      replace HO377 := am (Kd.R_mono (Kd.R_told (Kd.R_told (Kd.R_old (rq HO377.out) hb) (Kd.R_base ho0)) (Kd.R_base ho1)) (fun _ h_ => h_.1))
      replace HO380 := am (Kd.R_mono (Kd.R_told (Kd.R_told (Kd.R_old (rq HO380.out) hb) (Kd.R_base ho0)) (Kd.R_base ho1)) (fun _ h_ => h_.1))
      have HO396 := am (Kd.R_lower (Kd.R_new' ho2 (Kd.R_lt (rq HO372.out))) (below_size bel))
      replace HO372 := am (Kd.R_elder' (rq HO372.out) (Kd.R_base ho2) hb)
      replace BK349 := am (blk_below (blkq BK349.out) hb)
      replace BK350 := am (blk_below (blkq BK350.out) hb)
      replace BK374 := am (blk_below (blkq BK374.out) hb)
      replace BK382 := am (blk_below (blkq BK382.out) hb)
      replace BK398 := am (blk_below (blkq BK398.out) hb)
      replace HB := am (below_step bel hb)
      (try clear hb)
      (try clear ho0)
      (try clear ho1)
      (try clear ho2)
      refine hK.out _ _ ⟨(blk_cell BK382.out 0).trans rfl, (blk_cell BK382.out 1).trans rfl, (blk_cell BK382.out 2).trans rfl, (blk_cell BK350.out 0).trans rfl, (blk_cell BK350.out 1).trans rfl, (blk_cell BK350.out 2).trans rfl, (blk_cell BK350.out 3).trans rfl⟩ (fun hHeld => ?_)
      clear hK K
      refine norm_ (a' := ?_) ?_ ?_
      rotate_left
      · show Act.put _ (some 47) _ = _
        simp only [Act.put, List.setIfInBounds_toArray, List.set_cons_zero, List.set_cons_succ, i64_w, i32_w]
        rfl
      refine pure_ (i := 6) (N := some 41) (v := ?_) (a' := ?_) #[true, true, true, true, true, true, true, false, false, false, true, false, false, false] rfl rfl (any_of HT_.out (by kernel_rfl)) (fun _ _ _ h => h) (Or.inl ⟨by rfl, ?_⟩) ?_ ?_
      rotate_left
      · intro w'
        go_simp
        with_reducible rfl
      rotate_left
      · simp only [Act.put, List.setIfInBounds_toArray, List.set_cons_zero, List.set_cons_succ, i64_w, i32_w]
        rfl
      refine pure_ (i := 7) (N := some 48) (v := ?_) (a' := ?_) #[true, true, true, true, true, true, true, true, false, false, true, false, false, false] rfl rfl (any_of HT_.out (by kernel_rfl)) (fun _ _ _ h => h) (Or.inl ⟨by rfl, ?_⟩) ?_ ?_
      rotate_left
      · intro w'
        go_simp
        with_reducible rfl
      rotate_left
      · simp only [Act.put, List.setIfInBounds_toArray, List.set_cons_zero, List.set_cons_succ, i64_w, i32_w]
        rfl
      refine pure_ (i := 8) (N := some 49) (v := ?_) (a' := ?_) #[true, true, true, true, true, true, true, true, true, false, true, false, false, false] rfl rfl (any_of HT_.out (by kernel_rfl)) (fun _ _ _ h => h) (Or.inl ⟨by rfl, ?_⟩) ?_ ?_
      rotate_left
      · intro w'
        go_simp
        with_reducible rfl
      rotate_left
      · simp only [Act.put, List.setIfInBounds_toArray, List.set_cons_zero, List.set_cons_succ, i64_w, i32_w]
        rfl
      refine pure_ (i := 9) (N := some 50) (v := ?_) (a' := ?_) #[true, true, true, true, true, true, true, true, true, true, true, false, false, false] rfl rfl (any_of HT_.out (by kernel_rfl)) (fun _ _ _ h => h) (Or.inl ⟨by rfl, ?_⟩) ?_ ?_
      rotate_left
      · intro w'
        go_simp
        with_reducible rfl
      rotate_left
      · simp only [Act.put, List.setIfInBounds_toArray, List.set_cons_zero, List.set_cons_succ, i64_w, i32_w]
        rfl
      exact norm_ (by simp only [putAll, Act.put, List.setIfInBounds_toArray, List.set_cons_zero, List.set_cons_succ]) (hCont (v388, v391, v395, gb398) _ ⟨hHeld, (by (with_reducible repeat (first | apply Kd.R_alloc | apply Kd.R_drewN | apply Kd.R_drew)); exact Kd.R_mono HO365.out (fun _ hk => ⟨hk.1.1.1, ⟨hk.1.1.2.1, ⟨hk.1.1.2.2, ⟨hk.1.2, hk.2⟩⟩⟩⟩)), (by (with_reducible repeat (first | apply Kd.R_alloc | apply Kd.R_drewN | apply Kd.R_drew)); exact Kd.R_mono HO368.out (fun _ hk => ⟨hk.1.1.1, ⟨hk.1.1.2.1, ⟨hk.1.1.2.2, ⟨hk.1.2, hk.2⟩⟩⟩⟩)), (by (with_reducible repeat (first | apply Kd.R_alloc | apply Kd.R_drewN | apply Kd.R_drew)); exact Kd.R_mono HO372.out (fun _ hk => hk.2)), (by (with_reducible repeat (first | apply Kd.R_alloc | apply Kd.R_drewN | apply Kd.R_drew)); exact Kd.R_mono HO377.out (fun _ hk => ⟨hk.1.1.1, ⟨hk.1.1.2.1, ⟨hk.1.1.2.2, ⟨hk.1.2, hk.2⟩⟩⟩⟩)), (by (with_reducible repeat (first | apply Kd.R_alloc | apply Kd.R_drewN | apply Kd.R_drew)); exact Kd.R_mono HO380.out (fun _ hk => ⟨hk.1.1.1, ⟨hk.1.1.2.1, ⟨hk.1.1.2.2, ⟨hk.1.2, hk.2⟩⟩⟩⟩)), (by (with_reducible repeat (first | apply Kd.R_alloc | apply Kd.R_drewN | apply Kd.R_drew)); exact Kd.R_mono HO389.out (fun _ hk => ⟨hk.1.1.1.2, ⟨hk.1.1.2, ⟨hk.1.2, ⟨hk.2, hk.1.1.1.1⟩⟩⟩⟩)), (by (with_reducible repeat (first | apply Kd.R_alloc | apply Kd.R_drewN | apply Kd.R_drew)); exact Kd.R_mono HO392.out (fun _ hk => ⟨hk.1.1.1.2, ⟨hk.1.1.2, ⟨hk.1.2, ⟨hk.2, hk.1.1.1.1⟩⟩⟩⟩)), (by (with_reducible repeat (first | apply Kd.R_alloc | apply Kd.R_drewN | apply Kd.R_drew)); exact Kd.R_mono HO396.out (fun _ hk => hk.2)), (blkq BK349.out), (blkq BK350.out), (blkq BK374.out), (blkq BK382.out), (blkq BK398.out), GW398.out, GE398.out, NB349_398.out, NB398_349.out, NB350_398.out, NB398_350.out, NB374_398.out, NB398_374.out, NB382_398.out, NB398_382.out, bel⟩)
  rintro ⟨v388, v391, v395, gb398⟩ w84 ⟨hS_, h0_, h1_, h2_, h3_, h4_, h5_, h6_, h7_, h8_, h9_, h10_, h11_, h12_, h13_, h14_, h15_, h16_, h17_, h18_, h19_, h20_, h21_, h22_, h23_⟩
  have n0_ : Aside0 (Kd.R k35 35 w84 w.heap.size (fun k_ => nb k_ (sv Ao66 t366 co66) ∧ nb k_ (sv Ao73 t375 co73) ∧ nb k_ (sv Ao78 t378 co78) ∧ nb k_ v388 ∧ nb k_ v391) (.slice Ao64 t363.length co64) t363) := ⟨h0_⟩
  have n1_ : Aside0 (Kd.R k35 35 w84 w.heap.size (fun k_ => nb k_ (sv Ao64 t363 co64) ∧ nb k_ (sv Ao73 t375 co73) ∧ nb k_ (sv Ao78 t378 co78) ∧ nb k_ v388 ∧ nb k_ v391) (.slice Ao66 t366.length co66) t366) := ⟨h1_⟩
  have n2_ : Aside0 (Kd.R k75 75 w84 w.heap.size (fun k_ => nb k_ v395) v371 t370) := ⟨h2_⟩
  have n3_ : Aside0 (Kd.R k35 35 w84 w.heap.size (fun k_ => nb k_ (sv Ao64 t363 co64) ∧ nb k_ (sv Ao66 t366 co66) ∧ nb k_ (sv Ao78 t378 co78) ∧ nb k_ v388 ∧ nb k_ v391) (.slice Ao73 t375.length co73) t375) := ⟨h3_⟩
  have n4_ : Aside0 (Kd.R k35 35 w84 w.heap.size (fun k_ => nb k_ (sv Ao64 t363 co64) ∧ nb k_ (sv Ao66 t366 co66) ∧ nb k_ (sv Ao73 t375 co73) ∧ nb k_ v388 ∧ nb k_ v391) (.slice Ao78 t378.length co78) t378) := ⟨h4_⟩
  have n5_ : Aside0 (Kd.R k35 35 w84 w.heap.size (fun k_ => nb k_ (sv Ao64 t363 co64) ∧ nb k_ (sv Ao66 t366 co66) ∧ nb k_ (sv Ao73 t375 co73) ∧ nb k_ (sv Ao78 t378 co78) ∧ nb k_ v391) v388 t387) := ⟨h5_⟩
  have n6_ : Aside0 (Kd.R k35 35 w84 w.heap.size (fun k_ => nb k_ (sv Ao64 t363 co64) ∧ nb k_ (sv Ao66 t366 co66) ∧ nb k_ (sv Ao73 t375 co73) ∧ nb k_ (sv Ao78 t378 co78) ∧ nb k_ v388) v391 t390) := ⟨h6_⟩
  have n7_ : Aside0 (Kd.R k75 75 w84 w.heap.size (fun k_ => nb k_ v371) v395 t394) := ⟨h7_⟩
  have n8_ : Aside0 (w84.heap[gb349]? = some (.cells #[.slice A0_0 l0_0.length c0_0, .slice A0_1 l0_1.length c0_1, .int .i64 a0_2] 24 (0, 0))) := ⟨h8_⟩
  have n9_ : Aside0 (w84.heap[gb350]? = some (.cells #[.int .i64 a3_0, .int .i64 a3_1, .int .i64 a3_2, .int .i64 a3_3] 26 (0, 0))) := ⟨h9_⟩
  have n10_ : Aside0 (w84.heap[gb374]? = some (.cells #[.slice Ao64 t363.length co64, .slice Ao66 t366.length co66, .int .i64 t369] 30 (0, 0))) := ⟨h10_⟩
  have n11_ : Aside0 (w84.heap[gb382]? = some (.cells #[.slice Ao73 t375.length co73, .slice Ao78 t378.length co78, .int .i64 t381] 30 (0, 0))) := ⟨h11_⟩
  have n12_ : Aside0 (w84.heap[gb398]? = some (.cells #[.slice none 0 0, .slice none 0 0, .int .i64 0] 30 (0, 0))) := ⟨h12_⟩
  have n13_ : Aside0 (w.heap.size ≤ gb398) := ⟨h13_⟩
  have n14_ : Aside0 (w.heap.size ≤ gb398) := ⟨h14_⟩
  have n15_ : Aside0 (gb349 ≠ gb398) := ⟨h15_⟩
  have n16_ : Aside0 (gb398 ≠ gb349) := ⟨h16_⟩
  have n17_ : Aside0 (gb350 ≠ gb398) := ⟨h17_⟩
  have n18_ : Aside0 (gb398 ≠ gb350) := ⟨h18_⟩
  have n19_ : Aside0 (gb374 ≠ gb398) := ⟨h19_⟩
  have n20_ : Aside0 (gb398 ≠ gb374) := ⟨h20_⟩
  have n21_ : Aside0 (gb382 ≠ gb398) := ⟨h21_⟩
  have n22_ : Aside0 (gb398 ≠ gb382) := ⟨h22_⟩
  have n23_ : Aside0 (Below w.heap.size w w84) := ⟨h23_⟩
  clear HO365 HO368 HO372 HO377 HO380 BK349 BK350 BK374 BK382 HB h0_ h1_ h2_ h3_ h4_ h5_ h6_ h7_ h8_ h9_ h10_ h11_ h12_ h13_ h14_ h15_ h16_ h17_ h18_ h19_ h20_ h21_ h22_ h23_
  have HO365 := n0_
  have HO368 := n1_
  have HO372 := n2_
  have HO377 := n3_
  have HO380 := n4_
  have HO389 := n5_
  have HO392 := n6_
  have HO396 := n7_
  have BK349 := n8_
  have BK350 := n9_
  have BK374 := n10_
  have BK382 := n11_
  have BK398 := n12_
  have GW398 := n13_
  have GE398 := n14_
  have NB349_398 := n15_
  have NB398_349 := n16_
  have NB350_398 := n17_
  have NB398_350 := n18_
  have NB374_398 := n19_
  have NB398_374 := n20_
  have NB382_398 := n21_
  have NB398_382 := n22_
  have HB := n23_
  clear n0_ n1_ n2_ n3_ n4_ n5_ n6_ n7_ n8_ n9_ n10_ n11_ n12_ n13_ n14_ n15_ n16_ n17_ n18_ n19_ n20_ n21_ n22_ n23_
  have hHeld : w84.cell? ⟨gb382, 0, none⟩ = some (.slice Ao73 t375.length co73) ∧ w84.cell? ⟨gb382, 1, none⟩ = some (.slice Ao78 t378.length co78) ∧ w84.cell? ⟨gb382, 2, none⟩ = some (.int .i64 t381) ∧ w84.cell? ⟨gb350, 0, none⟩ = some (.int .i64 a3_0) ∧ w84.cell? ⟨gb350, 1, none⟩ = some (.int .i64 a3_1) ∧ w84.cell? ⟨gb350, 2, none⟩ = some (.int .i64 a3_2) ∧ w84.cell? ⟨gb350, 3, none⟩ = some (.int .i64 a3_3) := hS_
  obtain ⟨Ao85, co85, eo85⟩ := Kd.R_slice HO389.out
  (first | subst eo85 | (injection eo85 with f1_ f2_ f3_; have f4_ := f1_.symm; have f5_ := f3_.symm; clear f1_ f2_ f3_; subst f4_; subst f5_))
  obtain ⟨Ao87, co87, eo87⟩ := Kd.R_slice HO392.out
  (first | subst eo87 | (injection eo87 with f1_ f2_ f3_; have f4_ := f1_.symm; have f5_ := f3_.symm; clear f1_ f2_ f3_; subst f4_; subst f5_))
  refine norm_ (a' := ?_) ?_ ?_
  rotate_left
  · simp only [putAll, Act.put, List.setIfInBounds_toArray, List.set_cons_zero, List.set_cons_succ]
    rfl
  refine one_ (i := 11) (N := none) #[true, true, true, true, true, true, true, true, true, true, true, true, false, false] rfl rfl (one_of HT_.out (by kernel_rfl)) (by decide) (fun K hK => ?_)
  have hs86 : w84.cell? ⟨gb398, 0, none⟩ = some (.slice none 0 0) := (blk_cell BK398.out 0).trans rfl
  have hfs86 := blk_frozen BK398.out 0
  have hns86_0 := NB349_398.out
  have hns86_1 := NB350_398.out
  have hns86_2 := NB374_398.out
  have hns86_3 := NB382_398.out
  have hms86_0 := NB398_349.out
  have hms86_1 := NB398_350.out
  have hms86_2 := NB398_374.out
  have hms86_3 := NB398_382.out
  have hs88 : w84.cell? ⟨gb398, 1, none⟩ = some (.slice none 0 0) := (blk_cell BK398.out 1).trans rfl
  have hfs88 := blk_frozen BK398.out 1
  have hns88_0 := NB349_398.out
  have hns88_1 := NB350_398.out
  have hns88_2 := NB374_398.out
  have hns88_3 := NB382_398.out
  have hms88_0 := NB398_349.out
  have hms88_1 := NB398_350.out
  have hms88_2 := NB398_374.out
  have hms88_3 := NB398_382.out
  have hs89 : w84.cell? ⟨gb398, 2, none⟩ = some (.int .i64 0) := (blk_cell BK398.out 2).trans rfl
  have hfs89 := blk_frozen BK398.out 2
  have hns89_0 := NB349_398.out
  have hns89_1 := NB350_398.out
  have hns89_2 := NB374_398.out
  have hns89_3 := NB382_398.out
  have hms89_0 := NB398_349.out
  have hms89_1 := NB398_350.out
  have hms89_2 := NB398_374.out
  have hms89_3 := NB398_382.out
  refine skip_ (w1 := ?_) (by rfl) rfl ?_ ?_
  rotate_left
  · go_simp
    rfl
  refine hK.out _ _ ⟨((cell_far (p := ⟨gb398, _, none⟩) NB382_398.out _).trans (((cell_far (p := ⟨gb398, _, none⟩) NB382_398.out _).trans (((cell_far (p := ⟨gb398, _, none⟩) NB382_398.out _).trans (hHeld.1)))))), ((cell_far (p := ⟨gb398, _, none⟩) NB382_398.out _).trans (((cell_far (p := ⟨gb398, _, none⟩) NB382_398.out _).trans (((cell_far (p := ⟨gb398, _, none⟩) NB382_398.out _).trans (hHeld.2.1)))))), ((cell_far (p := ⟨gb398, _, none⟩) NB382_398.out _).trans (((cell_far (p := ⟨gb398, _, none⟩) NB382_398.out _).trans (((cell_far (p := ⟨gb398, _, none⟩) NB382_398.out _).trans (hHeld.2.2.1)))))), ((cell_far (p := ⟨gb398, _, none⟩) NB350_398.out _).trans (((cell_far (p := ⟨gb398, _, none⟩) NB350_398.out _).trans (((cell_far (p := ⟨gb398, _, none⟩) NB350_398.out _).trans (hHeld.2.2.2.1)))))), ((cell_far (p := ⟨gb398, _, none⟩) NB350_398.out _).trans (((cell_far (p := ⟨gb398, _, none⟩) NB350_398.out _).trans (((cell_far (p := ⟨gb398, _, none⟩) NB350_398.out _).trans (hHeld.2.2.2.2.1)))))), ((cell_far (p := ⟨gb398, _, none⟩) NB350_398.out _).trans (((cell_far (p := ⟨gb398, _, none⟩) NB350_398.out _).trans (((cell_far (p := ⟨gb398, _, none⟩) NB350_398.out _).trans (hHeld.2.2.2.2.2.1)))))), ((cell_far (p := ⟨gb398, _, none⟩) NB350_398.out _).trans (((cell_far (p := ⟨gb398, _, none⟩) NB350_398.out _).trans (((cell_far (p := ⟨gb398, _, none⟩) NB350_398.out _).trans (hHeld.2.2.2.2.2.2))))))⟩ (fun hHeld => ?_)
  clear hK K
  refine pure_ (i := 12) (N := some 15) (v := ?_) (a' := ?_) #[true, true, true, true, true, true, true, true, true, true, true, true, true, false] rfl rfl (any_of HT_.out (by kernel_rfl)) (fun _ _ _ h => h) (Or.inl ⟨by rfl, ?_⟩) ?_ ?_
  rotate_left
  · intro w'
    go_simp
    with_reducible rfl
  rotate_left
  · simp only [Act.put, List.setIfInBounds_toArray, List.set_cons_zero, List.set_cons_succ, i64_w, i32_w]
    rfl
  refine pure_ (i := 13) (N := some 16) (v := ?_) (a' := ?_) #[true, true, true, true, true, true, true, true, true, true, true, true, true, true] rfl rfl (any_of HT_.out (by kernel_rfl)) (fun _ _ _ h => h) (Or.inl ⟨by rfl, ?_⟩) ?_ ?_
  rotate_left
  · intro w'
    go_simp
    with_reducible rfl
  rotate_left
  · simp only [Act.put, List.setIfInBounds_toArray, List.set_cons_zero, List.set_cons_succ, i64_w, i32_w]
    rfl
  refine done_ (done_of HT_.out (by kernel_rfl)) ?_
  have hnb90 := NB398_349.out
  have hnc90 := NB349_398.out
  have hnb91 := NB398_350.out
  have hnc91 := NB350_398.out
  have hnb92 := NB398_374.out
  have hnc92 := NB374_398.out
  have hnb93 := NB398_382.out
  have hnc93 := NB382_398.out
  have hcz94_0 : w84.cell? ⟨gb398, 0, none⟩ = some (.slice none 0 0) := (blk_cell BK398.out 0).trans rfl
  have hcz94_1 : w84.cell? ⟨gb398, 1, none⟩ = some (.slice none 0 0) := (blk_cell BK398.out 1).trans rfl
  have hcz94_2 : w84.cell? ⟨gb398, 2, none⟩ = some (.int .i64 0) := (blk_cell BK398.out 2).trans rfl
  have hfz94_0 := blk_frozen BK398.out 0
  have hfz94_1 := blk_frozen BK398.out 1
  have hfz94_2 := blk_frozen BK398.out 2
  have hnb95 := NB374_350.out
  have hnc95 := NB350_374.out
  have hcz96_0 : w84.cell? ⟨gb374, 0, none⟩ = some (.slice Ao64 t363.length co64) := (blk_cell BK374.out 0).trans rfl
  have hcz96_1 : w84.cell? ⟨gb374, 1, none⟩ = some (.slice Ao66 t366.length co66) := (blk_cell BK374.out 1).trans rfl
  have hcz96_2 : w84.cell? ⟨gb374, 2, none⟩ = some (.int .i64 t369) := (blk_cell BK374.out 2).trans rfl
  have hfz96_0 := blk_frozen BK374.out 0
  have hfz96_1 := blk_frozen BK374.out 1
  have hfz96_2 := blk_frozen BK374.out 2
  try go_wp2_with (first | ((with_reducible refine gate_callee (f := 13) rfl ?_); refine goesL1 53 Try.func13 #[.agg #[.slice Ao85 t387.length co85, .slice Ao87 t390.length co87, .int .i64 t393], .agg #[.slice Ao64 t363.length co64, .slice Ao66 t366.length co66, .int .i64 t369]] ?_; (with_reducible refine (laws_eqJoin.calls k _ _ t387 _ _ t390 t393 _ _ t363 _ _ t366 t369 true _ ?side1 ?side2 ?side3 ?side4 ?side5 ?side6 ?side7 ?side8 A17.out).mono ?_); (case side1 => refine (Kd.R_reads' (e := 35) (base := w.heap.size) (ok := fun k_ => (nb k_ (sv Ao64 t363 co64) ∧ (nb k_ (sv Ao66 t366 co66) ∧ (nb k_ (sv Ao73 t375 co73) ∧ (nb k_ (sv Ao78 t378 co78) ∧ nb k_ (sv Ao87 t390 co87)))))) (n := t387.length) (c := co85) ?_).2.2; exact (by (with_reducible repeat (first | apply Kd.R_alloc | apply Kd.R_drewN | apply Kd.R_drew)); exact (Kd.R_mono (Kd.R_far (p := ⟨gb398, 2, none⟩) (Kd.R_far (p := ⟨gb398, 1, none⟩) (Kd.R_far (p := ⟨gb398, 0, none⟩) (Kd.R_types HO389.out BK398.out (by decide)) (fun _ hk => hk.2) (.slice Ao85 t387.length co85)) (fun _ hk => hk.2) (.slice Ao87 t390.length co87)) (fun _ hk => hk.2) (.int .i64 t393)) (fun _ h_ => h_.1)))); (case side2 => exact (Kd.R_reads' HO389.out).2.1); (case side3 => refine (Kd.R_reads' (e := 35) (base := w.heap.size) (ok := fun k_ => (nb k_ (sv Ao64 t363 co64) ∧ (nb k_ (sv Ao66 t366 co66) ∧ (nb k_ (sv Ao73 t375 co73) ∧ (nb k_ (sv Ao78 t378 co78) ∧ nb k_ (sv Ao85 t387 co85)))))) (n := t390.length) (c := co87) ?_).2.2; exact (by (with_reducible repeat (first | apply Kd.R_alloc | apply Kd.R_drewN | apply Kd.R_drew)); exact (Kd.R_mono (Kd.R_far (p := ⟨gb398, 2, none⟩) (Kd.R_far (p := ⟨gb398, 1, none⟩) (Kd.R_far (p := ⟨gb398, 0, none⟩) (Kd.R_types HO392.out BK398.out (by decide)) (fun _ hk => hk.2) (.slice Ao85 t387.length co85)) (fun _ hk => hk.2) (.slice Ao87 t390.length co87)) (fun _ hk => hk.2) (.int .i64 t393)) (fun _ h_ => h_.1)))); (case side4 => exact (Kd.R_reads' HO392.out).2.1); (case side5 => refine (Kd.R_reads' (e := 35) (base := w.heap.size) (ok := fun k_ => (nb k_ (sv Ao66 t366 co66) ∧ (nb k_ (sv Ao73 t375 co73) ∧ (nb k_ (sv Ao78 t378 co78) ∧ (nb k_ (sv Ao85 t387 co85) ∧ nb k_ (sv Ao87 t390 co87)))))) (n := t363.length) (c := co64) ?_).2.2; exact (by (with_reducible repeat (first | apply Kd.R_alloc | apply Kd.R_drewN | apply Kd.R_drew)); exact (Kd.R_mono (Kd.R_far (p := ⟨gb398, 2, none⟩) (Kd.R_far (p := ⟨gb398, 1, none⟩) (Kd.R_far (p := ⟨gb398, 0, none⟩) (Kd.R_types HO365.out BK398.out (by decide)) (fun _ hk => hk.2) (.slice Ao85 t387.length co85)) (fun _ hk => hk.2) (.slice Ao87 t390.length co87)) (fun _ hk => hk.2) (.int .i64 t393)) (fun _ h_ => h_.1)))); (case side6 => exact (Kd.R_reads' HO365.out).2.1); (case side7 => refine (Kd.R_reads' (e := 35) (base := w.heap.size) (ok := fun k_ => (nb k_ (sv Ao64 t363 co64) ∧ (nb k_ (sv Ao73 t375 co73) ∧ (nb k_ (sv Ao78 t378 co78) ∧ (nb k_ (sv Ao85 t387 co85) ∧ nb k_ (sv Ao87 t390 co87)))))) (n := t366.length) (c := co66) ?_).2.2; exact (by (with_reducible repeat (first | apply Kd.R_alloc | apply Kd.R_drewN | apply Kd.R_drew)); exact (Kd.R_mono (Kd.R_far (p := ⟨gb398, 2, none⟩) (Kd.R_far (p := ⟨gb398, 1, none⟩) (Kd.R_far (p := ⟨gb398, 0, none⟩) (Kd.R_types HO368.out BK398.out (by decide)) (fun _ hk => hk.2) (.slice Ao85 t387.length co85)) (fun _ hk => hk.2) (.slice Ao87 t390.length co87)) (fun _ hk => hk.2) (.int .i64 t393)) (fun _ h_ => h_.1)))); (case side8 => exact (Kd.R_reads' HO368.out).2.1); rintro e w97 ⟨rfl, hb⟩; refine ⟨_, rfl, ?_⟩; replace HO365 := am (Kd.R_below (by (with_reducible repeat (first | apply Kd.R_alloc | apply Kd.R_drewN | apply Kd.R_drew)); exact (Kd.R_mono (Kd.R_far (p := ⟨gb398, 2, none⟩) (Kd.R_far (p := ⟨gb398, 1, none⟩) (Kd.R_far (p := ⟨gb398, 0, none⟩) (Kd.R_types HO365.out BK398.out (by decide)) (fun _ hk => hk.2) (.slice Ao85 t387.length co85)) (fun _ hk => hk.2) (.slice Ao87 t390.length co87)) (fun _ hk => hk.2) (.int .i64 t393)) (fun _ h_ => h_.1))) hb); replace HO368 := am (Kd.R_below (by (with_reducible repeat (first | apply Kd.R_alloc | apply Kd.R_drewN | apply Kd.R_drew)); exact (Kd.R_mono (Kd.R_far (p := ⟨gb398, 2, none⟩) (Kd.R_far (p := ⟨gb398, 1, none⟩) (Kd.R_far (p := ⟨gb398, 0, none⟩) (Kd.R_types HO368.out BK398.out (by decide)) (fun _ hk => hk.2) (.slice Ao85 t387.length co85)) (fun _ hk => hk.2) (.slice Ao87 t390.length co87)) (fun _ hk => hk.2) (.int .i64 t393)) (fun _ h_ => h_.1))) hb); replace HO372 := am (Kd.R_below (by (with_reducible repeat (first | apply Kd.R_alloc | apply Kd.R_drewN | apply Kd.R_drew)); exact (Kd.R_mono (Kd.R_far (p := ⟨gb398, 2, none⟩) (Kd.R_far (p := ⟨gb398, 1, none⟩) (Kd.R_far (p := ⟨gb398, 0, none⟩) (Kd.R_types HO372.out BK398.out (by decide)) (fun _ hk => hk.2) (.slice Ao85 t387.length co85)) (fun _ hk => hk.2) (.slice Ao87 t390.length co87)) (fun _ hk => hk.2) (.int .i64 t393)) (fun _ h_ => h_.1))) hb); replace HO377 := am (Kd.R_below (by (with_reducible repeat (first | apply Kd.R_alloc | apply Kd.R_drewN | apply Kd.R_drew)); exact (Kd.R_mono (Kd.R_far (p := ⟨gb398, 2, none⟩) (Kd.R_far (p := ⟨gb398, 1, none⟩) (Kd.R_far (p := ⟨gb398, 0, none⟩) (Kd.R_types HO377.out BK398.out (by decide)) (fun _ hk => hk.2) (.slice Ao85 t387.length co85)) (fun _ hk => hk.2) (.slice Ao87 t390.length co87)) (fun _ hk => hk.2) (.int .i64 t393)) (fun _ h_ => h_.1))) hb); replace HO380 := am (Kd.R_below (by (with_reducible repeat (first | apply Kd.R_alloc | apply Kd.R_drewN | apply Kd.R_drew)); exact (Kd.R_mono (Kd.R_far (p := ⟨gb398, 2, none⟩) (Kd.R_far (p := ⟨gb398, 1, none⟩) (Kd.R_far (p := ⟨gb398, 0, none⟩) (Kd.R_types HO380.out BK398.out (by decide)) (fun _ hk => hk.2) (.slice Ao85 t387.length co85)) (fun _ hk => hk.2) (.slice Ao87 t390.length co87)) (fun _ hk => hk.2) (.int .i64 t393)) (fun _ h_ => h_.1))) hb); replace HO389 := am (Kd.R_below (by (with_reducible repeat (first | apply Kd.R_alloc | apply Kd.R_drewN | apply Kd.R_drew)); exact (Kd.R_mono (Kd.R_far (p := ⟨gb398, 2, none⟩) (Kd.R_far (p := ⟨gb398, 1, none⟩) (Kd.R_far (p := ⟨gb398, 0, none⟩) (Kd.R_types HO389.out BK398.out (by decide)) (fun _ hk => hk.2) (.slice Ao85 t387.length co85)) (fun _ hk => hk.2) (.slice Ao87 t390.length co87)) (fun _ hk => hk.2) (.int .i64 t393)) (fun _ h_ => h_.1))) hb); replace HO392 := am (Kd.R_below (by (with_reducible repeat (first | apply Kd.R_alloc | apply Kd.R_drewN | apply Kd.R_drew)); exact (Kd.R_mono (Kd.R_far (p := ⟨gb398, 2, none⟩) (Kd.R_far (p := ⟨gb398, 1, none⟩) (Kd.R_far (p := ⟨gb398, 0, none⟩) (Kd.R_types HO392.out BK398.out (by decide)) (fun _ hk => hk.2) (.slice Ao85 t387.length co85)) (fun _ hk => hk.2) (.slice Ao87 t390.length co87)) (fun _ hk => hk.2) (.int .i64 t393)) (fun _ h_ => h_.1))) hb); replace HO396 := am (Kd.R_below (by (with_reducible repeat (first | apply Kd.R_alloc | apply Kd.R_drewN | apply Kd.R_drew)); exact (Kd.R_mono (Kd.R_far (p := ⟨gb398, 2, none⟩) (Kd.R_far (p := ⟨gb398, 1, none⟩) (Kd.R_far (p := ⟨gb398, 0, none⟩) (Kd.R_types HO396.out BK398.out (by decide)) (fun _ hk => hk.2) (.slice Ao85 t387.length co85)) (fun _ hk => hk.2) (.slice Ao87 t390.length co87)) (fun _ hk => hk.2) (.int .i64 t393)) (fun _ h_ => h_.1))) hb); replace BK349 := am (blk_below (g := gb349) (o := .cells #[.slice A0_0 l0_0.length c0_0, .slice A0_1 l0_1.length c0_1, .int .i64 a0_2] 24 (0, 0)) (by (with_reducible repeat (first | refine blk_drewN ?_ _ | refine blk_drew ?_ | refine blk_alloc ?_ _)); refine blk_far ?_ NB349_398.out _; (with_reducible repeat (first | refine blk_drewN ?_ _ | refine blk_drew ?_ | refine blk_alloc ?_ _)); refine blk_far ?_ NB349_398.out _; (with_reducible repeat (first | refine blk_drewN ?_ _ | refine blk_drew ?_ | refine blk_alloc ?_ _)); refine blk_far ?_ NB349_398.out _; (with_reducible repeat (first | refine blk_drewN ?_ _ | refine blk_drew ?_ | refine blk_alloc ?_ _)); exact BK349.out) hb); replace BK350 := am (blk_below (g := gb350) (o := .cells #[.int .i64 a3_0, .int .i64 a3_1, .int .i64 a3_2, .int .i64 a3_3] 26 (0, 0)) (by (with_reducible repeat (first | refine blk_drewN ?_ _ | refine blk_drew ?_ | refine blk_alloc ?_ _)); refine blk_far ?_ NB350_398.out _; (with_reducible repeat (first | refine blk_drewN ?_ _ | refine blk_drew ?_ | refine blk_alloc ?_ _)); refine blk_far ?_ NB350_398.out _; (with_reducible repeat (first | refine blk_drewN ?_ _ | refine blk_drew ?_ | refine blk_alloc ?_ _)); refine blk_far ?_ NB350_398.out _; (with_reducible repeat (first | refine blk_drewN ?_ _ | refine blk_drew ?_ | refine blk_alloc ?_ _)); exact BK350.out) hb); replace BK374 := am (blk_below (g := gb374) (o := .cells #[.slice Ao64 t363.length co64, .slice Ao66 t366.length co66, .int .i64 t369] 30 (0, 0)) (by (with_reducible repeat (first | refine blk_drewN ?_ _ | refine blk_drew ?_ | refine blk_alloc ?_ _)); refine blk_far ?_ NB374_398.out _; (with_reducible repeat (first | refine blk_drewN ?_ _ | refine blk_drew ?_ | refine blk_alloc ?_ _)); refine blk_far ?_ NB374_398.out _; (with_reducible repeat (first | refine blk_drewN ?_ _ | refine blk_drew ?_ | refine blk_alloc ?_ _)); refine blk_far ?_ NB374_398.out _; (with_reducible repeat (first | refine blk_drewN ?_ _ | refine blk_drew ?_ | refine blk_alloc ?_ _)); exact BK374.out) hb); replace BK382 := am (blk_below (g := gb382) (o := .cells #[.slice Ao73 t375.length co73, .slice Ao78 t378.length co78, .int .i64 t381] 30 (0, 0)) (by (with_reducible repeat (first | refine blk_drewN ?_ _ | refine blk_drew ?_ | refine blk_alloc ?_ _)); refine blk_far ?_ NB382_398.out _; (with_reducible repeat (first | refine blk_drewN ?_ _ | refine blk_drew ?_ | refine blk_alloc ?_ _)); refine blk_far ?_ NB382_398.out _; (with_reducible repeat (first | refine blk_drewN ?_ _ | refine blk_drew ?_ | refine blk_alloc ?_ _)); refine blk_far ?_ NB382_398.out _; (with_reducible repeat (first | refine blk_drewN ?_ _ | refine blk_drew ?_ | refine blk_alloc ?_ _)); exact BK382.out) hb); replace BK398 := am (blk_below (g := gb398) (o := .cells #[.slice Ao85 t387.length co85, .slice Ao87 t390.length co87, .int .i64 t393] 30 (0, 0)) (by (with_reducible repeat (first | refine blk_drewN ?_ _ | refine blk_drew ?_ | refine blk_alloc ?_ _)); refine blk_put (cs := #[.slice Ao85 t387.length co85, .slice Ao87 t390.length co87, .int .i64 0]) ?_ 2 _ rfl; (with_reducible repeat (first | refine blk_drewN ?_ _ | refine blk_drew ?_ | refine blk_alloc ?_ _)); refine blk_put (cs := #[.slice Ao85 t387.length co85, .slice none 0 0, .int .i64 0]) ?_ 1 _ rfl; (with_reducible repeat (first | refine blk_drewN ?_ _ | refine blk_drew ?_ | refine blk_alloc ?_ _)); refine blk_put (cs := #[.slice none 0 0, .slice none 0 0, .int .i64 0]) ?_ 0 _ rfl; (with_reducible repeat (first | refine blk_drewN ?_ _ | refine blk_drew ?_ | refine blk_alloc ?_ _)); exact BK398.out) hb); replace HB := am (below_step bel hb); (try clear hb); obtain ⟨Ao98, co98, eo98⟩ := Kd.R_slice HO396.out; subst eo98; obtain ⟨Ao99, co99, eo99⟩ := Kd.R_slice HO372.out; subst eo99) | (go_at_call 14; (with_reducible refine (laws_eqPairS.calls k _ _ t394 _ _ t370 true _ ?side1 ?side2 ?side3 ?side4 A19.out).mono ?_); (case side1 => repeat (first | exact (Kd.R_reads' HO396.out).2.2 | (with_reducible refine Kd.C_alloc ?_ _) | (with_reducible refine Kd.C_drewN ?_ _) | (with_reducible refine Kd.C_drew ?_))); (case side2 => exact (Kd.R_reads' HO396.out).2.1); (case side3 => repeat (first | exact (Kd.R_reads' HO372.out).2.2 | (with_reducible refine Kd.C_alloc ?_ _) | (with_reducible refine Kd.C_drewN ?_ _) | (with_reducible refine Kd.C_drew ?_))); (case side4 => exact (Kd.R_reads' HO372.out).2.1); rintro e w100 ⟨rfl, hb⟩; have n0_ := am (Kd.R_below (rq HO365.out) hb); have n1_ := am (Kd.R_below (rq HO368.out) hb); have n2_ := am (Kd.R_below (rq HO372.out) hb); have n3_ := am (Kd.R_below (rq HO377.out) hb); have n4_ := am (Kd.R_below (rq HO380.out) hb); have n5_ := am (Kd.R_below (rq HO389.out) hb); have n6_ := am (Kd.R_below (rq HO392.out) hb); have n7_ := am (Kd.R_below (rq HO396.out) hb); have n8_ := am (blk_below (blkq BK349.out) hb); have n9_ := am (blk_below (blkq BK350.out) hb); have n10_ := am (blk_below (blkq BK374.out) hb); have n11_ := am (blk_below (blkq BK382.out) hb); have n12_ := am (blk_below (blkq BK398.out) hb); have n13_ := am (below_step bel hb); clear HO365 HO368 HO372 HO377 HO380 HO389 HO392 HO396 BK349 BK350 BK374 BK382 BK398 HB; have HO365 := n0_; have HO368 := n1_; have HO372 := n2_; have HO377 := n3_; have HO380 := n4_; have HO389 := n5_; have HO392 := n6_; have HO396 := n7_; have BK349 := n8_; have BK350 := n9_; have BK374 := n10_; have BK382 := n11_; have BK398 := n12_; have HB := n13_; clear n0_ n1_ n2_ n3_ n4_ n5_ n6_ n7_ n8_ n9_ n10_ n11_ n12_ n13_; (try clear hb); (try clear hb2); (try clear hk); (try clear hi)))
  replace HO365 := am (Kd.R_drew HO365.out)
  replace HO368 := am (Kd.R_drew HO368.out)
  replace HO372 := am (Kd.R_drew HO372.out)
  replace HO377 := am (Kd.R_drew HO377.out)
  replace HO380 := am (Kd.R_drew HO380.out)
  replace HO389 := am (Kd.R_drew HO389.out)
  replace HO392 := am (Kd.R_drew HO392.out)
  replace HO396 := am (Kd.R_drew HO396.out)
  replace BK349 := am (blk_drew BK349.out)
  replace BK350 := am (blk_drew BK350.out)
  replace BK374 := am (blk_drew BK374.out)
  replace BK382 := am (blk_drew BK382.out)
  replace BK398 := am (blk_drew BK398.out)
  replace HB := am (below_drew1 HB.out)
  refine start_ (n := 5) (S := fun w' => w'.cell? ⟨gb382, 0, none⟩ = some (.slice Ao73 t375.length co73) ∧ w'.cell? ⟨gb382, 1, none⟩ = some (.slice Ao78 t378.length co78) ∧ w'.cell? ⟨gb382, 2, none⟩ = some (.int .i64 t381) ∧ w'.cell? ⟨gb349, 0, none⟩ = some (.slice A0_0 l0_0.length c0_0) ∧ w'.cell? ⟨gb349, 1, none⟩ = some (.slice A0_1 l0_1.length c0_1) ∧ w'.cell? ⟨gb349, 2, none⟩ = some (.int .i64 a0_2)) (ds := []) #[false, false, false, false, false] (by kernel_rfl) rfl rfl ⟨(blk_cell BK382.out 0).trans rfl, (blk_cell BK382.out 1).trans rfl, (blk_cell BK382.out 2).trans rfl, (blk_cell BK349.out 0).trans rfl, (blk_cell BK349.out 1).trans rfl, (blk_cell BK349.out 2).trans rfl⟩ (fun hHeld => ?_)
  generalize w100.drew = w101 at HO365 HO368 HO372 HO377 HO380 HO389 HO392 HO396 BK349 BK350 BK374 BK382 BK398 HB hHeld ⊢
  refine take_ (i := 0) (N := some 66) (v := ?_) (a' := ?_) #[true, false, false, false, false] rfl rfl (by kernel_rfl) (fun _ _ _ h => h) (Or.inl ⟨by rfl, ?_⟩) hHeld ?_ ?_
  rotate_left
  · rintro w' ⟨s0, s1, s2, s3, s4, s5⟩
    go_simp
    with_reducible rfl
  rotate_left
  · simp only [Act.put, List.setIfInBounds_toArray, List.set_cons_zero, List.set_cons_succ, i64_w, i32_w]
    rfl
  refine take_ (i := 1) (N := some 67) (v := ?_) (a' := ?_) #[true, true, false, false, false] rfl rfl (by kernel_rfl) (fun _ _ _ h => h) (Or.inl ⟨by rfl, ?_⟩) hHeld ?_ ?_
  rotate_left
  · rintro w' ⟨s0, s1, s2, s3, s4, s5⟩
    go_simp
    with_reducible rfl
  rotate_left
  · simp only [Act.put, List.setIfInBounds_toArray, List.set_cons_zero, List.set_cons_succ, i64_w, i32_w]
    rfl
  refine one_ (i := 2) (N := some 68) #[true, true, true, false, false] rfl rfl (by kernel_rfl) (by decide) (fun K hK => ?_)
  refine goes_ Try.func10 (by kernel_rfl) rfl #[.agg #[.slice A0_0 l0_0.length c0_0, .slice A0_1 l0_1.length c0_1, .int .i64 a0_2]] (by rfl) rfl rfl (by (try simp only [List.map_toArray, List.map_cons, List.map_nil]); first | done | rfl | (simp only [List.length_drop, List.length_take]; rfl)) ?_
  with_reducible refine (laws_toJoin.calls k _ _ l0_0 _ _ l0_1 a0_2 t401 t404 t407 _ ?side1 ?side2 ?side3 ?side4 A22.out).mono ?_
  (case side1 => repeat (first | exact (Kd.C_below HR0_0.out HB.out) | (with_reducible refine Kd.C_alloc ?_ _) | (with_reducible refine Kd.C_drewN ?_ _) | (with_reducible refine Kd.C_drew ?_)))
  (case side2 => exact HC0_0.out)
  (case side3 => repeat (first | exact (Kd.C_below HR0_1.out HB.out) | (with_reducible refine Kd.C_alloc ?_ _) | (with_reducible refine Kd.C_drewN ?_ _) | (with_reducible refine Kd.C_drew ?_)))
  (case side4 => exact HC0_1.out)
  rintro e w102 ⟨v402, v405, rfl, ho0, ho1, hb⟩
  refine ⟨_, rfl, ?_⟩
  replace HO372 := am (Kd.R_below (rq HO372.out) hb)
  replace HO396 := am (Kd.R_below (rq HO396.out) hb)
  have HO403 := am (Kd.R_lower (Kd.R_new' (Kd.R_new' (Kd.R_new' (Kd.R_new' (Kd.R_new' (Kd.R_new' ho0 (Kd.R_lt (rq HO365.out))) (Kd.R_lt (rq HO368.out))) (Kd.R_lt (rq HO377.out))) (Kd.R_lt (rq HO380.out))) (Kd.R_lt (rq HO389.out))) (Kd.R_lt (rq HO392.out))) (below_size bel))
  have HO406 := am (Kd.R_lower (Kd.R_new' (Kd.R_new' (Kd.R_new' (Kd.R_new' (Kd.R_new' (Kd.R_new' ho1 (Kd.R_lt (rq HO365.out))) (Kd.R_lt (rq HO368.out))) (Kd.R_lt (rq HO377.out))) (Kd.R_lt (rq HO380.out))) (Kd.R_lt (rq HO389.out))) (Kd.R_lt (rq HO392.out))) (below_size bel))
  replace HO365 := am (Kd.R_mono (Kd.R_told (Kd.R_told (Kd.R_old (rq HO365.out) hb) (Kd.R_base ho0)) (Kd.R_base ho1)) (fun _ h_ => h_.1))
  replace HO368 := am (Kd.R_mono (Kd.R_told (Kd.R_told (Kd.R_old (rq HO368.out) hb) (Kd.R_base ho0)) (Kd.R_base ho1)) (fun _ h_ => h_.1))
  replace HO377 := am (Kd.R_mono (Kd.R_told (Kd.R_told (Kd.R_old (rq HO377.out) hb) (Kd.R_base ho0)) (Kd.R_base ho1)) (fun _ h_ => h_.1))
  replace HO380 := am (Kd.R_mono (Kd.R_told (Kd.R_told (Kd.R_old (rq HO380.out) hb) (Kd.R_base ho0)) (Kd.R_base ho1)) (fun _ h_ => h_.1))
  replace HO389 := am (Kd.R_mono (Kd.R_told (Kd.R_told (Kd.R_old (rq HO389.out) hb) (Kd.R_base ho0)) (Kd.R_base ho1)) (fun _ h_ => h_.1))
  replace HO392 := am (Kd.R_mono (Kd.R_told (Kd.R_told (Kd.R_old (rq HO392.out) hb) (Kd.R_base ho0)) (Kd.R_base ho1)) (fun _ h_ => h_.1))
  replace BK349 := am (blk_below (blkq BK349.out) hb)
  replace BK350 := am (blk_below (blkq BK350.out) hb)
  replace BK374 := am (blk_below (blkq BK374.out) hb)
  replace BK382 := am (blk_below (blkq BK382.out) hb)
  replace BK398 := am (blk_below (blkq BK398.out) hb)
  replace HB := am (below_step bel hb)
  (try clear hb)
  (try clear ho0)
  (try clear ho1)
  obtain ⟨Ao103, co103, eo103⟩ := Kd.R_slice HO403.out
  (first | subst eo103 | (injection eo103 with f1_ f2_ f3_; have f4_ := f1_.symm; have f5_ := f3_.symm; clear f1_ f2_ f3_; subst f4_; subst f5_))
  obtain ⟨Ao104, co104, eo104⟩ := Kd.R_slice HO406.out
  (first | subst eo104 | (injection eo104 with f1_ f2_ f3_; have f4_ := f1_.symm; have f5_ := f3_.symm; clear f1_ f2_ f3_; subst f4_; subst f5_))
  refine hK.out _ _ ⟨(blk_cell BK382.out 0).trans rfl, (blk_cell BK382.out 1).trans rfl, (blk_cell BK382.out 2).trans rfl, (blk_cell BK349.out 0).trans rfl, (blk_cell BK349.out 1).trans rfl, (blk_cell BK349.out 2).trans rfl⟩ (fun hHeld => ?_)
  clear hK K
  refine norm_ (a' := ?_) ?_ ?_
  rotate_left
  · show Act.put _ (some 68) _ = _
    simp only [Act.put, List.setIfInBounds_toArray, List.set_cons_zero, List.set_cons_succ, i64_w, i32_w]
    rfl
  refine one_ (i := 3) (N := some 69) #[true, true, true, true, false] rfl rfl (by kernel_rfl) (by decide) (fun K hK => ?_)
  refine goes_ Try.func13 (by kernel_rfl) rfl #[.agg #[.slice Ao73 t375.length co73, .slice Ao78 t378.length co78, .int .i64 t381], .agg #[.slice Ao103 t401.length co103, .slice Ao104 t404.length co104, .int .i64 t407]] (by rfl) rfl rfl (by (try simp only [List.map_toArray, List.map_cons, List.map_nil]); first | done | rfl | (simp only [List.length_drop, List.length_take]; rfl)) ?_
  with_reducible refine (laws_eqJoin.calls k _ _ t375 _ _ t378 t381 _ _ t401 _ _ t404 t407 true _ ?side1 ?side2 ?side3 ?side4 ?side5 ?side6 ?side7 ?side8 A23.out).mono ?_
  (case side1 => repeat (first | exact (Kd.R_reads' HO377.out).2.2 | (with_reducible refine Kd.C_alloc ?_ _) | (with_reducible refine Kd.C_drewN ?_ _) | (with_reducible refine Kd.C_drew ?_)))
  (case side2 => exact (Kd.R_reads' HO377.out).2.1)
  (case side3 => repeat (first | exact (Kd.R_reads' HO380.out).2.2 | (with_reducible refine Kd.C_alloc ?_ _) | (with_reducible refine Kd.C_drewN ?_ _) | (with_reducible refine Kd.C_drew ?_)))
  (case side4 => exact (Kd.R_reads' HO380.out).2.1)
  (case side5 => repeat (first | exact (Kd.R_reads' HO403.out).2.2 | (with_reducible refine Kd.C_alloc ?_ _) | (with_reducible refine Kd.C_drewN ?_ _) | (with_reducible refine Kd.C_drew ?_)))
  (case side6 => exact (Kd.R_reads' HO403.out).2.1)
  (case side7 => repeat (first | exact (Kd.R_reads' HO406.out).2.2 | (with_reducible refine Kd.C_alloc ?_ _) | (with_reducible refine Kd.C_drewN ?_ _) | (with_reducible refine Kd.C_drew ?_)))
  (case side8 => exact (Kd.R_reads' HO406.out).2.1)
  rintro e w105 ⟨rfl, hb⟩
  refine ⟨_, rfl, ?_⟩
  replace HO365 := am (Kd.R_below (rq HO365.out) hb)
  replace HO368 := am (Kd.R_below (rq HO368.out) hb)
  replace HO372 := am (Kd.R_below (rq HO372.out) hb)
  replace HO377 := am (Kd.R_below (rq HO377.out) hb)
  replace HO380 := am (Kd.R_below (rq HO380.out) hb)
  replace HO389 := am (Kd.R_below (rq HO389.out) hb)
  replace HO392 := am (Kd.R_below (rq HO392.out) hb)
  replace HO396 := am (Kd.R_below (rq HO396.out) hb)
  replace HO403 := am (Kd.R_below (rq HO403.out) hb)
  replace HO406 := am (Kd.R_below (rq HO406.out) hb)
  replace BK349 := am (blk_below (blkq BK349.out) hb)
  replace BK350 := am (blk_below (blkq BK350.out) hb)
  replace BK374 := am (blk_below (blkq BK374.out) hb)
  replace BK382 := am (blk_below (blkq BK382.out) hb)
  replace BK398 := am (blk_below (blkq BK398.out) hb)
  replace HB := am (below_step bel hb)
  (try clear hb)
  refine hK.out _ _ ⟨(blk_cell BK382.out 0).trans rfl, (blk_cell BK382.out 1).trans rfl, (blk_cell BK382.out 2).trans rfl, (blk_cell BK349.out 0).trans rfl, (blk_cell BK349.out 1).trans rfl, (blk_cell BK349.out 2).trans rfl⟩ (fun hHeld => ?_)
  clear hK K
  refine norm_ (a' := ?_) ?_ ?_
  rotate_left
  · show Act.put _ (some 69) _ = _
    simp only [Act.put, List.setIfInBounds_toArray, List.set_cons_zero, List.set_cons_succ, i64_w, i32_w]
    rfl
  refine pure_ (i := 4) (N := some 70) (v := ?_) (a' := ?_) #[true, true, true, true, true] rfl rfl (by kernel_rfl) (fun _ _ _ h => h) (Or.inl ⟨by rfl, ?_⟩) ?_ ?_
  rotate_left
  · intro w'
    go_simp
    with_reducible rfl
  rotate_left
  · simp only [Act.put, List.setIfInBounds_toArray, List.set_cons_zero, List.set_cons_succ, i64_w, i32_w]
    rfl
  refine done_ (by kernel_rfl) ?_
  have hcz106_0 : w105.cell? ⟨gb382, 0, none⟩ = some (.slice Ao73 t375.length co73) := (blk_cell BK382.out 0).trans rfl
  have hcz106_1 : w105.cell? ⟨gb382, 1, none⟩ = some (.slice Ao78 t378.length co78) := (blk_cell BK382.out 1).trans rfl
  have hcz106_2 : w105.cell? ⟨gb382, 2, none⟩ = some (.int .i64 t381) := (blk_cell BK382.out 2).trans rfl
  have hfz106_0 := blk_frozen BK382.out 0
  have hfz106_1 := blk_frozen BK382.out 1
  have hfz106_2 := blk_frozen BK382.out 2
  try go_wp2_with (first | ((with_reducible refine gate_callee (f := 15) rfl ?_); refine goesL1 73 Try.func15 #[.agg #[.slice Ao73 t375.length co73, .slice Ao78 t378.length co78, .int .i64 t381], .int .i64 1] ?_; (with_reducible refine (laws_markJoin.calls k (ob (sv Ao73 t375 co73)) (.slice Ao73 t375.length co73) t375 (ob (sv Ao78 t378 co78)) (.slice Ao78 t378.length co78) t378 t381 1 t409 t410 t411 w _ ?side1 ?side2 ?side3 ?side4 ?side5 A25.out).mono ?_); (case side1 => exact bel); (case side2 => exact Kd.R_tight rfl HO377.out); (case side3 => exact fun k_ e_ => (HO377.out.1 k_ e_.symm).1.1.2.2.1); (case side4 => exact Kd.R_tight rfl HO380.out); (case side5 => exact fun k_ e_ => (HO380.out.1 k_ e_.symm).1.1.2.2.1); rintro e w107 ⟨rfl, hy0, hy1, hb, hkp⟩; refine ⟨_, rfl, ?_⟩; replace BK349 := am (blk_kept (blkq BK349.out) hkp (fun hs_ => Or.elim hs_ (fun e_ => (fun e_ => (Kd.R_ne HO377.out BK349.out (by decide)) e_) e_) (fun e_ => (fun e_ => (Kd.R_ne HO380.out BK349.out (by decide)) e_) e_))); replace BK350 := am (blk_kept (blkq BK350.out) hkp (fun hs_ => Or.elim hs_ (fun e_ => (fun e_ => (Kd.R_ne HO377.out BK350.out (by decide)) e_) e_) (fun e_ => (fun e_ => (Kd.R_ne HO380.out BK350.out (by decide)) e_) e_))); replace HO365 := am (Kd.R_mono (ok' := fun k_ => nb k_ (sv Ao66 t366 co66) ∧ nb k_ (sv Ao73 t375 co73) ∧ nb k_ (sv Ao78 t378 co78) ∧ nb k_ (sv Ao85 t387 co85) ∧ nb k_ (sv Ao87 t390 co87)) (Kd.R_keptB (HO365.out) hkp (fun k_ hk_ hs_ => Or.elim hs_ (fun e_ => (hk_.1.1.2.1) e_) (fun e_ => (hk_.1.1.2.2.1) e_))) (fun k_ hk_ => ⟨hk_.1.1.1.1, hk_.1.1.1.2.1, hk_.1.1.1.2.2.1, hk_.1.1.1.2.2.2.1, hk_.1.1.1.2.2.2.2⟩)); replace HO368 := am (Kd.R_mono (ok' := fun k_ => nb k_ (sv Ao64 t363 co64) ∧ nb k_ (sv Ao73 t375 co73) ∧ nb k_ (sv Ao78 t378 co78) ∧ nb k_ (sv Ao85 t387 co85) ∧ nb k_ (sv Ao87 t390 co87)) (Kd.R_keptB (HO368.out) hkp (fun k_ hk_ hs_ => Or.elim hs_ (fun e_ => (hk_.1.1.2.1) e_) (fun e_ => (hk_.1.1.2.2.1) e_))) (fun k_ hk_ => ⟨hk_.1.1.1.1, hk_.1.1.1.2.1, hk_.1.1.1.2.2.1, hk_.1.1.1.2.2.2.1, hk_.1.1.1.2.2.2.2⟩)); replace HO372 := am (Kd.R_mono (ok' := fun k_ => nb k_ (sv Ao98 t394 co98)) (Kd.R_keptB ((Kd.R_apart' (Kd.R_apart' HO372.out (Kd.R_typed HO377.out) (by decide)) (Kd.R_typed HO380.out) (by decide))) hkp (fun k_ hk_ hs_ => Or.elim hs_ (fun e_ => (hk_.1.2) e_) (fun e_ => (hk_.2) e_))) (fun k_ hk_ => hk_.1.1.1)); replace BK374 := am (blk_kept (blkq BK374.out) hkp (fun hs_ => Or.elim hs_ (fun e_ => (fun e_ => (Kd.R_ne HO377.out BK374.out (by decide)) e_) e_) (fun e_ => (fun e_ => (Kd.R_ne HO380.out BK374.out (by decide)) e_) e_))); replace HO389 := am (Kd.R_mono (ok' := fun k_ => nb k_ (sv Ao64 t363 co64) ∧ nb k_ (sv Ao66 t366 co66) ∧ nb k_ (sv Ao73 t375 co73) ∧ nb k_ (sv Ao78 t378 co78) ∧ nb k_ (sv Ao87 t390 co87)) (Kd.R_keptB (HO389.out) hkp (fun k_ hk_ hs_ => Or.elim hs_ (fun e_ => (hk_.1.1.2.2.1) e_) (fun e_ => (hk_.1.1.2.2.2.1) e_))) (fun k_ hk_ => ⟨hk_.1.1.1.1, hk_.1.1.1.2.1, hk_.1.1.1.2.2.1, hk_.1.1.1.2.2.2.1, hk_.1.1.1.2.2.2.2⟩)); replace HO392 := am (Kd.R_mono (ok' := fun k_ => nb k_ (sv Ao64 t363 co64) ∧ nb k_ (sv Ao66 t366 co66) ∧ nb k_ (sv Ao73 t375 co73) ∧ nb k_ (sv Ao78 t378 co78) ∧ nb k_ (sv Ao85 t387 co85)) (Kd.R_keptB (HO392.out) hkp (fun k_ hk_ hs_ => Or.elim hs_ (fun e_ => (hk_.1.1.2.2.1) e_) (fun e_ => (hk_.1.1.2.2.2.1) e_))) (fun k_ hk_ => ⟨hk_.1.1.1.1, hk_.1.1.1.2.1, hk_.1.1.1.2.2.1, hk_.1.1.1.2.2.2.1, hk_.1.1.1.2.2.2.2⟩)); replace HO396 := am (Kd.R_mono (ok' := fun k_ => nb k_ (sv Ao99 t370 co99)) (Kd.R_keptB ((Kd.R_apart' (Kd.R_apart' HO396.out (Kd.R_typed HO377.out) (by decide)) (Kd.R_typed HO380.out) (by decide))) hkp (fun k_ hk_ hs_ => Or.elim hs_ (fun e_ => (hk_.1.2) e_) (fun e_ => (hk_.2) e_))) (fun k_ hk_ => hk_.1.1.1)); replace BK398 := am (blk_kept (blkq BK398.out) hkp (fun hs_ => Or.elim hs_ (fun e_ => (fun e_ => (Kd.R_ne HO377.out BK398.out (by decide)) e_) e_) (fun e_ => (fun e_ => (Kd.R_ne HO380.out BK398.out (by decide)) e_) e_))); replace HO377 := am (Kd.R_reok rfl hy0 (fun k_ e_ => HO377.out.1 k_ e_)); replace HO380 := am (Kd.R_reok rfl hy1 (fun k_ e_ => HO380.out.1 k_ e_)); replace HB := am (hb); (try clear hb); (try clear hkp); (try clear hy0); (try clear hy1); obtain ⟨hcz108_0, hcz108_1, hcz108_2, hfz108_0, hfz108_1, hfz108_2⟩ := blkc3 BK398.out; obtain ⟨hcz109_0, hcz109_1, hcz109_2, hfz109_0, hfz109_1, hfz109_2⟩ := blkc3 BK374.out) | (go_at_call 13; (with_reducible refine (laws_eqJoin.calls k _ _ t387 _ _ t390 t393 _ _ t363 _ _ t366 t369 true _ ?side1 ?side2 ?side3 ?side4 ?side5 ?side6 ?side7 ?side8 A27.out).mono ?_); (case side1 => repeat (first | exact (Kd.R_reads' HO389.out).2.2 | (with_reducible refine Kd.C_alloc ?_ _) | (with_reducible refine Kd.C_drewN ?_ _) | (with_reducible refine Kd.C_drew ?_))); (case side2 => exact (Kd.R_reads' HO389.out).2.1); (case side3 => repeat (first | exact (Kd.R_reads' HO392.out).2.2 | (with_reducible refine Kd.C_alloc ?_ _) | (with_reducible refine Kd.C_drewN ?_ _) | (with_reducible refine Kd.C_drew ?_))); (case side4 => exact (Kd.R_reads' HO392.out).2.1); (case side5 => repeat (first | exact (Kd.R_reads' HO365.out).2.2 | (with_reducible refine Kd.C_alloc ?_ _) | (with_reducible refine Kd.C_drewN ?_ _) | (with_reducible refine Kd.C_drew ?_))); (case side6 => exact (Kd.R_reads' HO365.out).2.1); (case side7 => repeat (first | exact (Kd.R_reads' HO368.out).2.2 | (with_reducible refine Kd.C_alloc ?_ _) | (with_reducible refine Kd.C_drewN ?_ _) | (with_reducible refine Kd.C_drew ?_))); (case side8 => exact (Kd.R_reads' HO368.out).2.1); rintro e w110 ⟨rfl, hb⟩; have n0_ := am (Kd.R_below (rq HO365.out) hb); have n1_ := am (Kd.R_below (rq HO368.out) hb); have n2_ := am (Kd.R_below (rq HO372.out) hb); have n3_ := am (Kd.R_below (rq HO389.out) hb); have n4_ := am (Kd.R_below (rq HO392.out) hb); have n5_ := am (Kd.R_below (rq HO396.out) hb); have n6_ := am (blk_below (blkq BK349.out) hb); have n7_ := am (blk_below (blkq BK350.out) hb); have n8_ := am (blk_below (blkq BK374.out) hb); have n9_ := am (blk_below (blkq BK398.out) hb); have n10_ := am (below_step bel hb); clear HO365 HO368 HO372 HO389 HO392 HO396 BK349 BK350 BK374 BK398 HB; have HO365 := n0_; have HO368 := n1_; have HO372 := n2_; have HO389 := n3_; have HO392 := n4_; have HO396 := n5_; have BK349 := n6_; have BK350 := n7_; have BK374 := n8_; have BK398 := n9_; have HB := n10_; clear n0_ n1_ n2_ n3_ n4_ n5_ n6_ n7_ n8_ n9_ n10_; (try clear hb); (try clear hb2); (try clear hk); (try clear hi)) | (go_at_call 14; (with_reducible refine (laws_eqPairS.calls k _ _ t394 _ _ t370 true _ ?side1 ?side2 ?side3 ?side4 A29.out).mono ?_); (case side1 => repeat (first | exact (Kd.R_reads' HO396.out).2.2 | (with_reducible refine Kd.C_alloc ?_ _) | (with_reducible refine Kd.C_drewN ?_ _) | (with_reducible refine Kd.C_drew ?_))); (case side2 => exact (Kd.R_reads' HO396.out).2.1); (case side3 => repeat (first | exact (Kd.R_reads' HO372.out).2.2 | (with_reducible refine Kd.C_alloc ?_ _) | (with_reducible refine Kd.C_drewN ?_ _) | (with_reducible refine Kd.C_drew ?_))); (case side4 => exact (Kd.R_reads' HO372.out).2.1); rintro e w111 ⟨rfl, hb⟩; have n0_ := am (Kd.R_below (rq HO365.out) hb); have n1_ := am (Kd.R_below (rq HO368.out) hb); have n2_ := am (Kd.R_below (rq HO372.out) hb); have n3_ := am (Kd.R_below (rq HO389.out) hb); have n4_ := am (Kd.R_below (rq HO392.out) hb); have n5_ := am (Kd.R_below (rq HO396.out) hb); have n6_ := am (blk_below (blkq BK349.out) hb); have n7_ := am (blk_below (blkq BK350.out) hb); have n8_ := am (blk_below (blkq BK374.out) hb); have n9_ := am (blk_below (blkq BK398.out) hb); have n10_ := am (below_step bel hb); clear HO365 HO368 HO372 HO389 HO392 HO396 BK349 BK350 BK374 BK398 HB; have HO365 := n0_; have HO368 := n1_; have HO372 := n2_; have HO389 := n3_; have HO392 := n4_; have HO396 := n5_; have BK349 := n6_; have BK350 := n7_; have BK374 := n8_; have BK398 := n9_; have HB := n10_; clear n0_ n1_ n2_ n3_ n4_ n5_ n6_ n7_ n8_ n9_ n10_; (try clear hb); (try clear hb2); (try clear hk); (try clear hi); obtain ⟨hcz112_0, hcz112_1, hcz112_2, hfz112_0, hfz112_1, hfz112_2⟩ := blkc3 BK398.out) | ((with_reducible refine gate_callee (f := 15) rfl ?_); refine goesL1 95 Try.func15 #[.agg #[.slice Ao85 t387.length co85, .slice Ao87 t390.length co87, .int .i64 t393], .int .i64 1] ?_; (with_reducible refine (laws_markJoin.calls k (ob (sv Ao85 t387 co85)) (.slice Ao85 t387.length co85) t387 (ob (sv Ao87 t390 co87)) (.slice Ao87 t390.length co87) t390 t393 1 t414 t415 t416 w _ ?side1 ?side2 ?side3 ?side4 ?side5 A31.out).mono ?_); (case side1 => exact bel); (case side2 => exact Kd.R_tight rfl HO389.out); (case side3 => exact fun k_ e_ => (HO389.out.1 k_ e_.symm).2.2.2.2); (case side4 => exact Kd.R_tight rfl HO392.out); (case side5 => exact fun k_ e_ => (HO392.out.1 k_ e_.symm).2.2.2.2); rintro e w113 ⟨rfl, hy0, hy1, hb, hkp⟩; refine ⟨_, rfl, ?_⟩; replace BK349 := am (blk_kept (blkq BK349.out) hkp (fun hs_ => Or.elim hs_ (fun e_ => (fun e_ => (Kd.R_ne HO389.out BK349.out (by decide)) e_) e_) (fun e_ => (fun e_ => (Kd.R_ne HO392.out BK349.out (by decide)) e_) e_))); replace BK350 := am (blk_kept (blkq BK350.out) hkp (fun hs_ => Or.elim hs_ (fun e_ => (fun e_ => (Kd.R_ne HO389.out BK350.out (by decide)) e_) e_) (fun e_ => (fun e_ => (Kd.R_ne HO392.out BK350.out (by decide)) e_) e_))); replace HO365 := am (Kd.R_mono (ok' := fun k_ => nb k_ (sv Ao66 t366 co66) ∧ nb k_ (sv Ao85 t387 co85) ∧ nb k_ (sv Ao87 t390 co87)) (Kd.R_keptB (HO365.out) hkp (fun k_ hk_ hs_ => Or.elim hs_ (fun e_ => (hk_.2.2.2.1) e_) (fun e_ => (hk_.2.2.2.2) e_))) (fun k_ hk_ => ⟨hk_.1.1, hk_.1.2.2.2.1, hk_.1.2.2.2.2⟩)); replace HO368 := am (Kd.R_mono (ok' := fun k_ => nb k_ (sv Ao64 t363 co64) ∧ nb k_ (sv Ao85 t387 co85) ∧ nb k_ (sv Ao87 t390 co87)) (Kd.R_keptB (HO368.out) hkp (fun k_ hk_ hs_ => Or.elim hs_ (fun e_ => (hk_.2.2.2.1) e_) (fun e_ => (hk_.2.2.2.2) e_))) (fun k_ hk_ => ⟨hk_.1.1, hk_.1.2.2.2.1, hk_.1.2.2.2.2⟩)); replace HO372 := am (Kd.R_mono (ok' := fun k_ => nb k_ (sv Ao98 t394 co98)) (Kd.R_keptB ((Kd.R_apart' (Kd.R_apart' HO372.out (Kd.R_typed HO389.out) (by decide)) (Kd.R_typed HO392.out) (by decide))) hkp (fun k_ hk_ hs_ => Or.elim hs_ (fun e_ => (hk_.1.2) e_) (fun e_ => (hk_.2) e_))) (fun k_ hk_ => hk_.1.1.1)); replace BK374 := am (blk_kept (blkq BK374.out) hkp (fun hs_ => Or.elim hs_ (fun e_ => (fun e_ => (Kd.R_ne HO389.out BK374.out (by decide)) e_) e_) (fun e_ => (fun e_ => (Kd.R_ne HO392.out BK374.out (by decide)) e_) e_))); replace HO396 := am (Kd.R_mono (ok' := fun k_ => nb k_ (sv Ao99 t370 co99)) (Kd.R_keptB ((Kd.R_apart' (Kd.R_apart' HO396.out (Kd.R_typed HO389.out) (by decide)) (Kd.R_typed HO392.out) (by decide))) hkp (fun k_ hk_ hs_ => Or.elim hs_ (fun e_ => (hk_.1.2) e_) (fun e_ => (hk_.2) e_))) (fun k_ hk_ => hk_.1.1.1)); replace BK398 := am (blk_kept (blkq BK398.out) hkp (fun hs_ => Or.elim hs_ (fun e_ => (fun e_ => (Kd.R_ne HO389.out BK398.out (by decide)) e_) e_) (fun e_ => (fun e_ => (Kd.R_ne HO392.out BK398.out (by decide)) e_) e_))); replace HO389 := am (Kd.R_reok rfl hy0 (fun k_ e_ => HO389.out.1 k_ e_)); replace HO392 := am (Kd.R_reok rfl hy1 (fun k_ e_ => HO392.out.1 k_ e_)); replace HB := am (hb); (try clear hb); (try clear hkp); (try clear hy0); (try clear hy1)) | ((with_reducible refine gate_callee (f := 16) rfl ?_); refine goesL1 98 Try.func16 #[.slice Ao98 t394.length co98, .int .i64 t414] ?_; (with_reducible refine (laws_markPairS.calls k (ob (sv Ao98 t394 co98)) (.slice Ao98 t394.length co98) t394 t414 t417 t418 w _ ?side1 ?side2 A32.out).mono ?_); (case side1 => exact bel); (case side2 => exact Kd.R_tight rfl HO396.out); rintro e w114 ⟨rfl, hy0, hb, hkp⟩; refine ⟨_, rfl, ?_⟩; replace BK349 := am (blk_kept (blkq BK349.out) hkp (fun hs_ => (fun e_ => (Kd.R_ne HO396.out BK349.out (by decide)) e_) hs_)); replace BK350 := am (blk_kept (blkq BK350.out) hkp (fun hs_ => (fun e_ => (Kd.R_ne HO396.out BK350.out (by decide)) e_) hs_)); replace HO365 := am (Kd.R_mono (ok' := fun k_ => nb k_ (sv Ao66 t366 co66) ∧ nb k_ (sv Ao85 t387 co85) ∧ nb k_ (sv Ao87 t390 co87)) (Kd.R_keptB ((Kd.R_apart' HO365.out (Kd.R_typed HO396.out) (by decide))) hkp (fun k_ hk_ hs_ => (hk_.2) hs_)) (fun k_ hk_ => ⟨hk_.1.1.1, hk_.1.1.2.1, hk_.1.1.2.2⟩)); replace HO368 := am (Kd.R_mono (ok' := fun k_ => nb k_ (sv Ao64 t363 co64) ∧ nb k_ (sv Ao85 t387 co85) ∧ nb k_ (sv Ao87 t390 co87)) (Kd.R_keptB ((Kd.R_apart' HO368.out (Kd.R_typed HO396.out) (by decide))) hkp (fun k_ hk_ hs_ => (hk_.2) hs_)) (fun k_ hk_ => ⟨hk_.1.1.1, hk_.1.1.2.1, hk_.1.1.2.2⟩)); replace HO372 := am (Kd.R_mono (ok' := fun k_ => nb k_ (sv Ao98 t394 co98)) (Kd.R_keptB (HO372.out) hkp (fun k_ hk_ hs_ => (hk_) hs_)) (fun k_ hk_ => hk_.1)); replace BK374 := am (blk_kept (blkq BK374.out) hkp (fun hs_ => (fun e_ => (Kd.R_ne HO396.out BK374.out (by decide)) e_) hs_)); replace HO389 := am (Kd.R_mono (ok' := fun k_ => nb k_ (sv Ao64 t363 co64) ∧ nb k_ (sv Ao66 t366 co66) ∧ nb k_ (sv Ao87 t390 co87)) (Kd.R_keptB ((Kd.R_apart' HO389.out (Kd.R_typed HO396.out) (by decide))) hkp (fun k_ hk_ hs_ => (hk_.2) hs_)) (fun k_ hk_ => ⟨hk_.1.1.1, hk_.1.1.2.1, hk_.1.1.2.2.2.2⟩)); replace HO392 := am (Kd.R_mono (ok' := fun k_ => nb k_ (sv Ao64 t363 co64) ∧ nb k_ (sv Ao66 t366 co66) ∧ nb k_ (sv Ao85 t387 co85)) (Kd.R_keptB ((Kd.R_apart' HO392.out (Kd.R_typed HO396.out) (by decide))) hkp (fun k_ hk_ hs_ => (hk_.2) hs_)) (fun k_ hk_ => ⟨hk_.1.1.1, hk_.1.1.2.1, hk_.1.1.2.2.2.2⟩)); replace BK398 := am (blk_kept (blkq BK398.out) hkp (fun hs_ => (fun e_ => (Kd.R_ne HO396.out BK398.out (by decide)) e_) hs_)); replace HO396 := am (Kd.R_reok rfl hy0 (fun k_ e_ => HO396.out.1 k_ e_)); replace HB := am (hb); (try clear hb); (try clear hkp); (try clear hy0); obtain ⟨hcz115_0, hcz115_1, hcz115_2, hfz115_0, hfz115_1, hfz115_2⟩ := blkc3 BK398.out) | ((with_reducible refine gate_callee (f := 17) rfl ?_); refine goesL_ (some 101) rfl rfl Try.func17 (by kernel_rfl) rfl #[.agg #[.slice Ao85 t415.length co85, .slice Ao87 t416.length co87, .int .i64 t393], .int .i64 1] rfl (by (try simp only [List.map_toArray, List.map_cons, List.map_nil]); first | done | (rw [show t415.length = t387.length from (Kd.R_reads' HO389.out).1.symm, show t416.length = t390.length from (Kd.R_reads' HO392.out).1.symm] <;> rfl) | rfl | (simp only [List.length_drop, List.length_take]; rfl)) ?_; (with_reducible refine (laws_heldJoin.calls k _ _ t415 _ _ t416 t393 1 t419 _ ?side1 ?side2 ?side3 ?side4 A33.out).mono ?_); (case side1 => repeat (first | exact (Kd.R_reads' HO389.out).2.2 | (with_reducible refine Kd.C_alloc ?_ _) | (with_reducible refine Kd.C_drewN ?_ _) | (with_reducible refine Kd.C_drew ?_))); (case side2 => rw [show t415.length = t387.length from (Kd.R_reads' HO389.out).1.symm]; exact (Kd.R_reads' HO389.out).2.1); (case side3 => repeat (first | exact (Kd.R_reads' HO392.out).2.2 | (with_reducible refine Kd.C_alloc ?_ _) | (with_reducible refine Kd.C_drewN ?_ _) | (with_reducible refine Kd.C_drew ?_))); (case side4 => rw [show t416.length = t390.length from (Kd.R_reads' HO392.out).1.symm]; exact (Kd.R_reads' HO392.out).2.1); rintro e w116 ⟨rfl, hb⟩; refine ⟨_, rfl, ?_⟩; replace HO365 := am (Kd.R_below (rq HO365.out) hb); replace HO368 := am (Kd.R_below (rq HO368.out) hb); replace HO372 := am (Kd.R_below (rq HO372.out) hb); replace HO389 := am (Kd.R_below (rq HO389.out) hb); replace HO392 := am (Kd.R_below (rq HO392.out) hb); replace HO396 := am (Kd.R_below (rq HO396.out) hb); replace BK349 := am (blk_below (blkq BK349.out) hb); replace BK350 := am (blk_below (blkq BK350.out) hb); replace BK374 := am (blk_below (blkq BK374.out) hb); replace BK398 := am (blk_below (blkq BK398.out) hb); replace HB := am (below_step bel hb); (try clear hb)) | ((with_reducible refine gate_callee (f := 18) rfl ?_); refine goesL_ (some 106) rfl rfl Try.func18 (by kernel_rfl) rfl #[.slice Ao98 t418.length co98, .int .i64 t419] rfl (by (try simp only [List.map_toArray, List.map_cons, List.map_nil]); first | done | (rw [show t418.length = t394.length from (Kd.R_reads' HO396.out).1.symm] <;> rfl) | rfl | (simp only [List.length_drop, List.length_take]; rfl)) ?_; (with_reducible refine (laws_heldPairS.calls k _ _ t418 t419 t420 _ ?side1 ?side2 A35.out).mono ?_); (case side1 => repeat (first | exact (Kd.R_reads' HO396.out).2.2 | (with_reducible refine Kd.C_alloc ?_ _) | (with_reducible refine Kd.C_drewN ?_ _) | (with_reducible refine Kd.C_drew ?_))); (case side2 => rw [show t418.length = t394.length from (Kd.R_reads' HO396.out).1.symm]; exact (Kd.R_reads' HO396.out).2.1); rintro e w' ⟨rfl, ⟨nd, rfl⟩⟩; refine ⟨_, rfl, ?_⟩; (try (rw [drewN_self w116]; generalize hq_ : World.drewN w116 _ = w116; have n0_ : Aside0 (Kd.R k35 35 w116 w.heap.size (fun k_ => nb k_ (sv Ao66 t366 co66) ∧ nb k_ (sv Ao85 t387 co85) ∧ nb k_ (sv Ao87 t390 co87)) (.slice Ao64 t363.length co64) t363) := ⟨by rw [← hq_]; exact (rq HO365.out)⟩; have n1_ : Aside0 (Kd.R k35 35 w116 w.heap.size (fun k_ => nb k_ (sv Ao64 t363 co64) ∧ nb k_ (sv Ao85 t387 co85) ∧ nb k_ (sv Ao87 t390 co87)) (.slice Ao66 t366.length co66) t366) := ⟨by rw [← hq_]; exact (rq HO368.out)⟩; have n2_ : Aside0 (Kd.R k75 75 w116 w.heap.size (fun k_ => nb k_ (sv Ao98 t394 co98)) (.slice Ao99 t370.length co99) t370) := ⟨by rw [← hq_]; exact (rq HO372.out)⟩; have n3_ : Aside0 (Kd.R k35 35 w116 w.heap.size (fun k_ => nb k_ (sv Ao64 t363 co64) ∧ nb k_ (sv Ao66 t366 co66) ∧ nb k_ (sv Ao87 t390 co87)) (.slice Ao85 t387.length co85) t415) := ⟨by rw [← hq_]; exact (rq HO389.out)⟩; have n4_ : Aside0 (Kd.R k35 35 w116 w.heap.size (fun k_ => nb k_ (sv Ao64 t363 co64) ∧ nb k_ (sv Ao66 t366 co66) ∧ nb k_ (sv Ao85 t387 co85)) (.slice Ao87 t390.length co87) t416) := ⟨by rw [← hq_]; exact (rq HO392.out)⟩; have n5_ : Aside0 (Kd.R k75 75 w116 w.heap.size (fun k_ => nb k_ (sv Ao99 t370 co99)) (.slice Ao98 t394.length co98) t418) := ⟨by rw [← hq_]; exact (rq HO396.out)⟩; have n6_ : Aside0 (w116.heap[gb349]? = some (.cells #[.slice A0_0 l0_0.length c0_0, .slice A0_1 l0_1.length c0_1, .int .i64 a0_2] 24 (0, 0))) := ⟨by rw [← hq_]; exact (blkq BK349.out)⟩; have n7_ : Aside0 (w116.heap[gb350]? = some (.cells #[.int .i64 a3_0, .int .i64 a3_1, .int .i64 a3_2, .int .i64 a3_3] 26 (0, 0))) := ⟨by rw [← hq_]; exact (blkq BK350.out)⟩; have n8_ : Aside0 (w116.heap[gb374]? = some (.cells #[.slice Ao64 t363.length co64, .slice Ao66 t366.length co66, .int .i64 t369] 30 (0, 0))) := ⟨by rw [← hq_]; exact (blkq BK374.out)⟩; have n9_ : Aside0 (w116.heap[gb398]? = some (.cells #[.slice Ao85 t387.length co85, .slice Ao87 t390.length co87, .int .i64 t393] 30 (0, 0))) := ⟨by rw [← hq_]; exact (blkq BK398.out)⟩; have n10_ : Aside0 (Below w.heap.size w w116) := ⟨by rw [← hq_]; exact bel⟩; clear HO365 HO368 HO372 HO389 HO392 HO396 BK349 BK350 BK374 BK398 HB hq_; have HO365 := n0_; have HO368 := n1_; have HO372 := n2_; have HO389 := n3_; have HO392 := n4_; have HO396 := n5_; have BK349 := n6_; have BK350 := n7_; have BK374 := n8_; have BK398 := n9_; have HB := n10_; clear n0_ n1_ n2_ n3_ n4_ n5_ n6_ n7_ n8_ n9_ n10_))))
  replace HO365 := am (Kd.R_drew HO365.out)
  replace HO368 := am (Kd.R_drew HO368.out)
  replace HO372 := am (Kd.R_drew HO372.out)
  replace HO389 := am (Kd.R_drew HO389.out)
  replace HO392 := am (Kd.R_drew HO392.out)
  replace HO396 := am (Kd.R_drew HO396.out)
  replace BK349 := am (blk_drew BK349.out)
  replace BK350 := am (blk_drew BK350.out)
  replace BK374 := am (blk_drew BK374.out)
  replace BK398 := am (blk_drew BK398.out)
  replace HB := am (below_drew1 HB.out)
  refine start_ (n := 15) (S := fun w' => w'.cell? ⟨gb349, 0, none⟩ = some (.slice A0_0 l0_0.length c0_0) ∧ w'.cell? ⟨gb349, 1, none⟩ = some (.slice A0_1 l0_1.length c0_1) ∧ w'.cell? ⟨gb349, 2, none⟩ = some (.int .i64 a0_2) ∧ w'.cell? ⟨gb350, 0, none⟩ = some (.int .i64 a3_0) ∧ w'.cell? ⟨gb350, 1, none⟩ = some (.int .i64 a3_1) ∧ w'.cell? ⟨gb350, 2, none⟩ = some (.int .i64 a3_2) ∧ w'.cell? ⟨gb350, 3, none⟩ = some (.int .i64 a3_3)) (ds := []) #[false, false, false, false, false, false, false, false, false, false, false, false, false, false, false] (by kernel_rfl) rfl rfl ⟨(blk_cell BK349.out 0).trans rfl, (blk_cell BK349.out 1).trans rfl, (blk_cell BK349.out 2).trans rfl, (blk_cell BK350.out 0).trans rfl, (blk_cell BK350.out 1).trans rfl, (blk_cell BK350.out 2).trans rfl, (blk_cell BK350.out 3).trans rfl⟩ (fun hHeld => ?_); refine with_tabW laws_FnExactAddJoin.tab28 laws_FnExactAddJoin.bits28 (fun HT_ HW_ => ?_)
  generalize w116.drew = w117 at HO365 HO368 HO372 HO389 HO392 HO396 BK349 BK350 BK374 BK398 HB hHeld ⊢
  refine pure_ (i := 2) (N := some 115) (v := ?_) (a' := ?_) #[false, false, true, false, false, false, false, false, false, false, false, false, false, false, false] rfl rfl (any_of HT_.out (by kernel_rfl)) (fun _ _ _ h => h) (Or.inl ⟨by rfl, ?_⟩) ?_ ?_
  rotate_left
  · intro w'
    go_simp
    with_reducible rfl
  rotate_left
  · simp only [Act.put, List.setIfInBounds_toArray, List.set_cons_zero, List.set_cons_succ, i64_w, i32_w]
    rfl
  refine pure_ (i := 3) (N := some 116) (v := ?_) (a' := ?_) #[false, false, true, true, false, false, false, false, false, false, false, false, false, false, false] rfl rfl (any_of HT_.out (by kernel_rfl)) (fun _ _ _ h => h) (Or.inl ⟨by rfl, ?_⟩) ?_ ?_
  rotate_left
  · intro w'
    go_simp
    with_reducible rfl
  rotate_left
  · simp only [Act.put, List.setIfInBounds_toArray, List.set_cons_zero, List.set_cons_succ, i64_w, i32_w]
    rfl
  refine take_ (i := 0) (N := some 113) (v := ?_) (a' := ?_) #[true, false, true, true, false, false, false, false, false, false, false, false, false, false, false] rfl rfl (take_ofW HT_.out HW_.out (by kernel_rfl)) (fun _ _ _ h => h) (Or.inl ⟨by rfl, ?_⟩) hHeld ?_ ?_
  rotate_left
  · rintro w' ⟨s0, s1, s2, s3, s4, s5, s6⟩
    go_simp
    with_reducible rfl
  rotate_left
  · simp only [Act.put, List.setIfInBounds_toArray, List.set_cons_zero, List.set_cons_succ, i64_w, i32_w]
    rfl
  refine take_ (i := 4) (N := some 117) (v := ?_) (a' := ?_) #[true, false, true, true, true, false, false, false, false, false, false, false, false, false, false] rfl rfl (take_ofW HT_.out HW_.out (by kernel_rfl)) (fun _ _ _ h => h) (Or.inl ⟨by rfl, ?_⟩) hHeld ?_ ?_
  rotate_left
  · rintro w' ⟨s0, s1, s2, s3, s4, s5, s6⟩
    go_simp
    with_reducible rfl
  rotate_left
  · simp only [Act.put, List.setIfInBounds_toArray, List.set_cons_zero, List.set_cons_succ, i64_w, i32_w]
    rfl
  refine join_ (σ := Value × Value × Value × Value × Value × Nat) 3 #[true, true, true, true, true, true, true, true, true, true, true, true, false, false, false] (fun s_ => [(114, .agg #[s_.1, s_.2.1, .int .i64 t427]), (118, .agg #[.int .i64 t428, .int .i64 t429, .int .i64 t430, .int .i64 t431]), (119, .tuple #[.agg #[s_.2.2.1, s_.2.2.2.1, .int .i64 t438], s_.2.2.2.2.1, .int .i64 t442]), (20, .pointer (some ⟨s_.2.2.2.2.2, 0, none⟩)), (112, .tuple #[.agg #[s_.2.2.1, s_.2.2.2.1, .int .i64 t438], s_.2.2.2.2.1, .int .i64 t442]), (120, .agg #[s_.2.2.1, s_.2.2.2.1, .int .i64 t438]), (121, s_.2.2.2.2.1), (122, .int .i64 t442)]) (fun s_ w' => (w'.cell? ⟨gb349, 0, none⟩ = some (.slice A0_0 l0_0.length c0_0) ∧ w'.cell? ⟨gb349, 1, none⟩ = some (.slice A0_1 l0_1.length c0_1) ∧ w'.cell? ⟨gb349, 2, none⟩ = some (.int .i64 a0_2) ∧ w'.cell? ⟨gb350, 0, none⟩ = some (.int .i64 a3_0) ∧ w'.cell? ⟨gb350, 1, none⟩ = some (.int .i64 a3_1) ∧ w'.cell? ⟨gb350, 2, none⟩ = some (.int .i64 a3_2) ∧ w'.cell? ⟨gb350, 3, none⟩ = some (.int .i64 a3_3)) ∧ (Kd.R k35 35 w' w.heap.size (fun k_ => nb k_ (sv Ao66 t366 co66) ∧ nb k_ (sv Ao85 t387 co85) ∧ nb k_ (sv Ao87 t390 co87) ∧ some k_ ≠ (s_.1 : Value).ownBlock ∧ some k_ ≠ (s_.2.1 : Value).ownBlock ∧ some k_ ≠ (s_.2.2.1 : Value).ownBlock ∧ some k_ ≠ (s_.2.2.2.1 : Value).ownBlock) (.slice Ao64 t363.length co64) t363) ∧ (Kd.R k35 35 w' w.heap.size (fun k_ => nb k_ (sv Ao64 t363 co64) ∧ nb k_ (sv Ao85 t387 co85) ∧ nb k_ (sv Ao87 t390 co87) ∧ some k_ ≠ (s_.1 : Value).ownBlock ∧ some k_ ≠ (s_.2.1 : Value).ownBlock ∧ some k_ ≠ (s_.2.2.1 : Value).ownBlock ∧ some k_ ≠ (s_.2.2.2.1 : Value).ownBlock) (.slice Ao66 t366.length co66) t366) ∧ (Kd.R k75 75 w' w.heap.size (fun k_ => nb k_ (sv Ao98 t394 co98) ∧ some k_ ≠ (s_.2.2.2.2.1 : Value).ownBlock) (.slice Ao99 t370.length co99) t370) ∧ (Kd.R k35 35 w' w.heap.size (fun k_ => nb k_ (sv Ao64 t363 co64) ∧ nb k_ (sv Ao66 t366 co66) ∧ nb k_ (sv Ao87 t390 co87) ∧ some k_ ≠ (s_.1 : Value).ownBlock ∧ some k_ ≠ (s_.2.1 : Value).ownBlock ∧ some k_ ≠ (s_.2.2.1 : Value).ownBlock ∧ some k_ ≠ (s_.2.2.2.1 : Value).ownBlock) (.slice Ao85 t387.length co85) t415) ∧ (Kd.R k35 35 w' w.heap.size (fun k_ => nb k_ (sv Ao64 t363 co64) ∧ nb k_ (sv Ao66 t366 co66) ∧ nb k_ (sv Ao85 t387 co85) ∧ some k_ ≠ (s_.1 : Value).ownBlock ∧ some k_ ≠ (s_.2.1 : Value).ownBlock ∧ some k_ ≠ (s_.2.2.1 : Value).ownBlock ∧ some k_ ≠ (s_.2.2.2.1 : Value).ownBlock) (.slice Ao87 t390.length co87) t416) ∧ (Kd.R k75 75 w' w.heap.size (fun k_ => nb k_ (sv Ao99 t370 co99) ∧ some k_ ≠ (s_.2.2.2.2.1 : Value).ownBlock) (.slice Ao98 t394.length co98) t418) ∧ (Kd.R k35 35 w' w.heap.size (fun k_ => nb k_ (sv Ao64 t363 co64) ∧ nb k_ (sv Ao66 t366 co66) ∧ nb k_ (sv Ao85 t387 co85) ∧ nb k_ (sv Ao87 t390 co87) ∧ some k_ ≠ (s_.2.1 : Value).ownBlock ∧ some k_ ≠ (s_.2.2.1 : Value).ownBlock ∧ some k_ ≠ (s_.2.2.2.1 : Value).ownBlock) s_.1 t421) ∧ (Kd.R k35 35 w' w.heap.size (fun k_ => nb k_ (sv Ao64 t363 co64) ∧ nb k_ (sv Ao66 t366 co66) ∧ nb k_ (sv Ao85 t387 co85) ∧ nb k_ (sv Ao87 t390 co87) ∧ some k_ ≠ (s_.1 : Value).ownBlock ∧ some k_ ≠ (s_.2.2.1 : Value).ownBlock ∧ some k_ ≠ (s_.2.2.2.1 : Value).ownBlock) s_.2.1 t424) ∧ (Kd.R k35 35 w' w.heap.size (fun k_ => nb k_ (sv Ao64 t363 co64) ∧ nb k_ (sv Ao66 t366 co66) ∧ nb k_ (sv Ao85 t387 co85) ∧ nb k_ (sv Ao87 t390 co87) ∧ some k_ ≠ (s_.1 : Value).ownBlock ∧ some k_ ≠ (s_.2.1 : Value).ownBlock ∧ some k_ ≠ (s_.2.2.2.1 : Value).ownBlock) s_.2.2.1 t432) ∧ (Kd.R k35 35 w' w.heap.size (fun k_ => nb k_ (sv Ao64 t363 co64) ∧ nb k_ (sv Ao66 t366 co66) ∧ nb k_ (sv Ao85 t387 co85) ∧ nb k_ (sv Ao87 t390 co87) ∧ some k_ ≠ (s_.1 : Value).ownBlock ∧ some k_ ≠ (s_.2.1 : Value).ownBlock ∧ some k_ ≠ (s_.2.2.1 : Value).ownBlock) s_.2.2.2.1 t435) ∧ (Kd.R k75 75 w' w.heap.size (fun k_ => nb k_ (sv Ao99 t370 co99) ∧ nb k_ (sv Ao98 t394 co98)) s_.2.2.2.2.1 t439) ∧ (w'.heap[gb349]? = some (.cells #[.slice A0_0 l0_0.length c0_0, .slice A0_1 l0_1.length c0_1, .int .i64 a0_2] 24 (0, 0))) ∧ (w'.heap[gb350]? = some (.cells #[.int .i64 a3_0, .int .i64 a3_1, .int .i64 a3_2, .int .i64 a3_3] 26 (0, 0))) ∧ (w'.heap[gb374]? = some (.cells #[.slice Ao64 t363.length co64, .slice Ao66 t366.length co66, .int .i64 t369] 30 (0, 0))) ∧ (w'.heap[gb398]? = some (.cells #[.slice Ao85 t387.length co85, .slice Ao87 t390.length co87, .int .i64 t393] 30 (0, 0))) ∧ (w'.heap[s_.2.2.2.2.2]? = some (.cells #[.slice none 0 0, .slice none 0 0, .int .i64 0] 30 (0, 0))) ∧ (w.heap.size ≤ s_.2.2.2.2.2) ∧ (w.heap.size ≤ s_.2.2.2.2.2) ∧ (gb349 ≠ s_.2.2.2.2.2) ∧ (s_.2.2.2.2.2 ≠ gb349) ∧ (gb350 ≠ s_.2.2.2.2.2) ∧ (s_.2.2.2.2.2 ≠ gb350) ∧ (gb374 ≠ s_.2.2.2.2.2) ∧ (s_.2.2.2.2.2 ≠ gb374) ∧ (gb398 ≠ s_.2.2.2.2.2) ∧ (s_.2.2.2.2.2 ≠ gb398) ∧ (Below w.heap.size w w')) ?_ ?_
  rotate_left
  · intro hCont
    refine two_ (i := 1) (j := 11) (Ni := some 114) (Nj := some 20) #[true, true, true, true, true, false, false, false, false, false, false, false, false, false, false] #[true, false, true, true, true, false, false, false, false, false, false, true, false, false, false] rfl rfl rfl rfl (two_of HT_.out (by kernel_rfl)) (by decide) (by decide) (fun K hK => ?_) (fun K hK => ?_)
    · skip
      refine goes_ Try.func10 (by kernel_rfl) rfl #[.agg #[.slice A0_0 l0_0.length c0_0, .slice A0_1 l0_1.length c0_1, .int .i64 a0_2]] (by rfl) rfl rfl (by (try simp only [List.map_toArray, List.map_cons, List.map_nil]); first | done | rfl | (simp only [List.length_drop, List.length_take]; rfl)) ?_
      with_reducible refine (laws_toJoin.calls k _ _ l0_0 _ _ l0_1 a0_2 t421 t424 t427 _ ?side1 ?side2 ?side3 ?side4 A38.out).mono ?_
      (case side1 => repeat (first | exact (Kd.C_below HR0_0.out HB.out) | (with_reducible refine Kd.C_alloc ?_ _) | (with_reducible refine Kd.C_drewN ?_ _) | (with_reducible refine Kd.C_drew ?_)))
      (case side2 => exact HC0_0.out)
      (case side3 => repeat (first | exact (Kd.C_below HR0_1.out HB.out) | (with_reducible refine Kd.C_alloc ?_ _) | (with_reducible refine Kd.C_drewN ?_ _) | (with_reducible refine Kd.C_drew ?_)))
      (case side4 => exact HC0_1.out)
      rintro e w118 ⟨v422, v425, rfl, ho0, ho1, hb⟩
      refine ⟨_, rfl, ?_⟩
      replace HO372 := am (Kd.R_below (rq HO372.out) hb)
      replace HO396 := am (Kd.R_below (rq HO396.out) hb)
      have HO423 := am (Kd.R_lower (Kd.R_new' (Kd.R_new' (Kd.R_new' (Kd.R_new' ho0 (Kd.R_lt (rq HO365.out))) (Kd.R_lt (rq HO368.out))) (Kd.R_lt (rq HO389.out))) (Kd.R_lt (rq HO392.out))) (below_size bel))
      have HO426 := am (Kd.R_lower (Kd.R_new' (Kd.R_new' (Kd.R_new' (Kd.R_new' ho1 (Kd.R_lt (rq HO365.out))) (Kd.R_lt (rq HO368.out))) (Kd.R_lt (rq HO389.out))) (Kd.R_lt (rq HO392.out))) (below_size bel))
      replace HO365 := am (Kd.R_mono (Kd.R_told (Kd.R_told (Kd.R_old (rq HO365.out) hb) (Kd.R_base ho0)) (Kd.R_base ho1)) (fun _ h_ => h_.1))
      replace HO368 := am (Kd.R_mono (Kd.R_told (Kd.R_told (Kd.R_old (rq HO368.out) hb) (Kd.R_base ho0)) (Kd.R_base ho1)) (fun _ h_ => h_.1))
      replace HO389 := am (Kd.R_mono (Kd.R_told (Kd.R_told (Kd.R_old (rq HO389.out) hb) (Kd.R_base ho0)) (Kd.R_base ho1)) (fun _ h_ => h_.1))
      replace HO392 := am (Kd.R_mono (Kd.R_told (Kd.R_told (Kd.R_old (rq HO392.out) hb) (Kd.R_base ho0)) (Kd.R_base ho1)) (fun _ h_ => h_.1))
      replace BK349 := am (blk_below (blkq BK349.out) hb)
      replace BK350 := am (blk_below (blkq BK350.out) hb)
      replace BK374 := am (blk_below (blkq BK374.out) hb)
      replace BK398 := am (blk_below (blkq BK398.out) hb)
      replace HB := am (below_step bel hb)
      (try clear hb)
      (try clear ho0)
      (try clear ho1)
      refine hK.out _ _ ⟨(blk_cell BK349.out 0).trans rfl, (blk_cell BK349.out 1).trans rfl, (blk_cell BK349.out 2).trans rfl, (blk_cell BK350.out 0).trans rfl, (blk_cell BK350.out 1).trans rfl, (blk_cell BK350.out 2).trans rfl, (blk_cell BK350.out 3).trans rfl⟩ (fun hHeld => ?_)
      clear hK K
      refine norm_ (a' := ?_) ?_ ?_
      rotate_left
      · show Act.put _ (some 114) _ = _
        simp only [Act.put, List.setIfInBounds_toArray, List.set_cons_zero, List.set_cons_succ, i64_w, i32_w]
        rfl
      refine two_ (i := 5) (j := 11) (Ni := some 118) (Nj := some 20) #[true, true, true, true, true, true, false, false, false, false, false, false, false, false, false] #[true, true, true, true, true, false, false, false, false, false, false, true, false, false, false] rfl rfl rfl rfl (two_of HT_.out (by kernel_rfl)) (by decide) (by decide) (fun K hK => ?_) (fun K hK => ?_)
      · skip
        refine goes_ Try.func11 (by kernel_rfl) rfl #[.agg #[.int .i64 a3_0, .int .i64 a3_1, .int .i64 a3_2, .int .i64 a3_3]] (by rfl) rfl rfl (by (try simp only [List.map_toArray, List.map_cons, List.map_nil]); first | done | rfl | (simp only [List.length_drop, List.length_take]; rfl)) ?_
        with_reducible refine (laws_toFrame.calls a3_0 a3_1 a3_2 a3_3 t428 t429 t430 t431 _ A39.out).mono ?_
        rintro e w119 ⟨rfl, hb⟩
        refine ⟨_, rfl, ?_⟩
        replace HO365 := am (Kd.R_below (rq HO365.out) hb)
        replace HO368 := am (Kd.R_below (rq HO368.out) hb)
        replace HO372 := am (Kd.R_below (rq HO372.out) hb)
        replace HO389 := am (Kd.R_below (rq HO389.out) hb)
        replace HO392 := am (Kd.R_below (rq HO392.out) hb)
        replace HO396 := am (Kd.R_below (rq HO396.out) hb)
        replace HO423 := am (Kd.R_below (rq HO423.out) hb)
        replace HO426 := am (Kd.R_below (rq HO426.out) hb)
        replace BK349 := am (blk_below (blkq BK349.out) hb)
        replace BK350 := am (blk_below (blkq BK350.out) hb)
        replace BK374 := am (blk_below (blkq BK374.out) hb)
        replace BK398 := am (blk_below (blkq BK398.out) hb)
        replace HB := am (below_step bel hb)
        (try clear hb)
        obtain ⟨Ao120, co120, eo120⟩ := Kd.R_slice HO423.out
        (first | subst eo120 | (injection eo120 with f1_ f2_ f3_; have f4_ := f1_.symm; have f5_ := f3_.symm; clear f1_ f2_ f3_; subst f4_; subst f5_))
        obtain ⟨Ao121, co121, eo121⟩ := Kd.R_slice HO426.out
        (first | subst eo121 | (injection eo121 with f1_ f2_ f3_; have f4_ := f1_.symm; have f5_ := f3_.symm; clear f1_ f2_ f3_; subst f4_; subst f5_))
        refine hK.out _ _ ⟨(blk_cell BK349.out 0).trans rfl, (blk_cell BK349.out 1).trans rfl, (blk_cell BK349.out 2).trans rfl, (blk_cell BK350.out 0).trans rfl, (blk_cell BK350.out 1).trans rfl, (blk_cell BK350.out 2).trans rfl, (blk_cell BK350.out 3).trans rfl⟩ (fun hHeld => ?_)
        clear hK K
        refine norm_ (a' := ?_) ?_ ?_
        rotate_left
        · show Act.put _ (some 118) _ = _
          simp only [Act.put, List.setIfInBounds_toArray, List.set_cons_zero, List.set_cons_succ, i64_w, i32_w]
          rfl
        refine two_ (i := 6) (j := 11) (Ni := some 119) (Nj := some 20) #[true, true, true, true, true, true, true, false, false, false, false, false, false, false, false] #[true, true, true, true, true, true, false, false, false, false, false, true, false, false, false] rfl rfl rfl rfl (two_of HT_.out (by kernel_rfl)) (by decide) (by decide) (fun K hK => ?_) (fun K hK => ?_)
        · skip
          refine goes_ Try.func12 (by kernel_rfl) rfl #[.agg #[.slice Ao120 t421.length co120, .slice Ao121 t424.length co121, .int .i64 t427], .int .i64 a1, .bool a2, .agg #[.int .i64 t428, .int .i64 t429, .int .i64 t430, .int .i64 t431]] (by rfl) rfl rfl (by (try simp only [List.map_toArray, List.map_cons, List.map_nil]); first | done | rfl | (simp only [List.length_drop, List.length_take]; rfl)) ?_
          with_reducible refine (impl_AddJoin.calls k _ _ t421 _ _ t424 t427 a1 a2 t428 t429 t430 t431 t432 t435 t438 t439 t442 _ ?side1 ?side2 ?side3 ?side4 A40.out).mono ?_
          (case side1 => repeat (first | exact (Kd.R_reads' HO423.out).2.2 | (with_reducible refine Kd.C_alloc ?_ _) | (with_reducible refine Kd.C_drewN ?_ _) | (with_reducible refine Kd.C_drew ?_)))
          (case side2 => exact (Kd.R_reads' HO423.out).2.1)
          (case side3 => repeat (first | exact (Kd.R_reads' HO426.out).2.2 | (with_reducible refine Kd.C_alloc ?_ _) | (with_reducible refine Kd.C_drewN ?_ _) | (with_reducible refine Kd.C_drew ?_)))
          (case side4 => exact (Kd.R_reads' HO426.out).2.1)
          rintro e w122 ⟨v433, v436, v440, rfl, ho0, ho1, ho2, hb⟩
          refine ⟨_, rfl, ?_⟩
          have HO434 := am (Kd.R_lower (Kd.R_new' (Kd.R_new' (Kd.R_new' (Kd.R_new' (Kd.R_new' (Kd.R_new' ho0 (Kd.R_lt (rq HO365.out))) (Kd.R_lt (rq HO368.out))) (Kd.R_lt (rq HO389.out))) (Kd.R_lt (rq HO392.out))) (Kd.R_lt (rq HO423.out))) (Kd.R_lt (rq HO426.out))) (below_size bel))
          have HO437 := am (Kd.R_lower (Kd.R_new' (Kd.R_new' (Kd.R_new' (Kd.R_new' (Kd.R_new' (Kd.R_new' ho1 (Kd.R_lt (rq HO365.out))) (Kd.R_lt (rq HO368.out))) (Kd.R_lt (rq HO389.out))) (Kd.R_lt (rq HO392.out))) (Kd.R_lt (rq HO423.out))) (Kd.R_lt (rq HO426.out))) (below_size bel))
          replace HO365 := am (Kd.R_mono (Kd.R_told (Kd.R_told (Kd.R_old (rq HO365.out) hb) (Kd.R_base ho0)) (Kd.R_base ho1)) (fun _ h_ => h_.1))
          replace HO368 := am (Kd.R_mono (Kd.R_told (Kd.R_told (Kd.R_old (rq HO368.out) hb) (Kd.R_base ho0)) (Kd.R_base ho1)) (fun _ h_ => h_.1))
          replace HO389 := am (Kd.R_mono (Kd.R_told (Kd.R_told (Kd.R_old (rq HO389.out) hb) (Kd.R_base ho0)) (Kd.R_base ho1)) (fun _ h_ => h_.1))
          replace HO392 := am (Kd.R_mono (Kd.R_told (Kd.R_told (Kd.R_old (rq HO392.out) hb) (Kd.R_base ho0)) (Kd.R_base ho1)) (fun _ h_ => h_.1))
          replace HO423 := am (Kd.R_mono (Kd.R_told (Kd.R_told (Kd.R_old (rq HO423.out) hb) (Kd.R_base ho0)) (Kd.R_base ho1)) (fun _ h_ => h_.1))
          replace HO426 := am (Kd.R_mono (Kd.R_told (Kd.R_told (Kd.R_old (rq HO426.out) hb) (Kd.R_base ho0)) (Kd.R_base ho1)) (fun _ h_ => h_.1))
          have HO441 := am (Kd.R_lower (Kd.R_new' (Kd.R_new' ho2 (Kd.R_lt (rq HO372.out))) (Kd.R_lt (rq HO396.out))) (below_size bel))
          replace HO372 := am (Kd.R_elder' (rq HO372.out) (Kd.R_base ho2) hb)
          replace HO396 := am (Kd.R_elder' (rq HO396.out) (Kd.R_base ho2) hb)
          replace BK349 := am (blk_below (blkq BK349.out) hb)
          replace BK350 := am (blk_below (blkq BK350.out) hb)
          replace BK374 := am (blk_below (blkq BK374.out) hb)
          replace BK398 := am (blk_below (blkq BK398.out) hb)
          replace HB := am (below_step bel hb)
          (try clear hb)
          (try clear ho0)
          (try clear ho1)
          (try clear ho2)
          refine hK.out _ _ ⟨(blk_cell BK349.out 0).trans rfl, (blk_cell BK349.out 1).trans rfl, (blk_cell BK349.out 2).trans rfl, (blk_cell BK350.out 0).trans rfl, (blk_cell BK350.out 1).trans rfl, (blk_cell BK350.out 2).trans rfl, (blk_cell BK350.out 3).trans rfl⟩ (fun hHeld => ?_)
          clear hK K
          refine norm_ (a' := ?_) ?_ ?_
          rotate_left
          · show Act.put _ (some 119) _ = _
            simp only [Act.put, List.setIfInBounds_toArray, List.set_cons_zero, List.set_cons_succ, i64_w, i32_w]
            rfl
          refine pure_ (i := 7) (N := some 112) (v := ?_) (a' := ?_) #[true, true, true, true, true, true, true, true, false, false, false, false, false, false, false] rfl rfl (any_of HT_.out (by kernel_rfl)) (fun _ _ _ h => h) (Or.inl ⟨by rfl, ?_⟩) ?_ ?_
          rotate_left
          · intro w'
            go_simp
            with_reducible rfl
          rotate_left
          · simp only [Act.put, List.setIfInBounds_toArray, List.set_cons_zero, List.set_cons_succ, i64_w, i32_w]
            rfl
          refine pure_ (i := 8) (N := some 120) (v := ?_) (a' := ?_) #[true, true, true, true, true, true, true, true, true, false, false, false, false, false, false] rfl rfl (any_of HT_.out (by kernel_rfl)) (fun _ _ _ h => h) (Or.inl ⟨by rfl, ?_⟩) ?_ ?_
          rotate_left
          · intro w'
            go_simp
            with_reducible rfl
          rotate_left
          · simp only [Act.put, List.setIfInBounds_toArray, List.set_cons_zero, List.set_cons_succ, i64_w, i32_w]
            rfl
          refine pure_ (i := 9) (N := some 121) (v := ?_) (a' := ?_) #[true, true, true, true, true, true, true, true, true, true, false, false, false, false, false] rfl rfl (any_of HT_.out (by kernel_rfl)) (fun _ _ _ h => h) (Or.inl ⟨by rfl, ?_⟩) ?_ ?_
          rotate_left
          · intro w'
            go_simp
            with_reducible rfl
          rotate_left
          · simp only [Act.put, List.setIfInBounds_toArray, List.set_cons_zero, List.set_cons_succ, i64_w, i32_w]
            rfl
          refine pure_ (i := 10) (N := some 122) (v := ?_) (a' := ?_) #[true, true, true, true, true, true, true, true, true, true, true, false, false, false, false] rfl rfl (any_of HT_.out (by kernel_rfl)) (fun _ _ _ h => h) (Or.inl ⟨by rfl, ?_⟩) ?_ ?_
          rotate_left
          · intro w'
            go_simp
            with_reducible rfl
          rotate_left
          · simp only [Act.put, List.setIfInBounds_toArray, List.set_cons_zero, List.set_cons_succ, i64_w, i32_w]
            rfl
          refine one_ (i := 11) (N := some 20) #[true, true, true, true, true, true, true, true, true, true, true, true, false, false, false] rfl rfl (one_of HT_.out (by kernel_rfl)) (by decide) (fun K hK => ?_)
          refine box_step ?hg (N := 20) ?hd (cs := #[.slice none 0 0, .slice none 0 0, .int .i64 0]) (t := 30) ?hr ?_; (case hd => rfl); (case hg => rfl); (case hr => first | (go_simp; done) | (go_simp; rfl))
          intro gb443 hg w123 hbox hb
          replace HO365 := am (Kd.R_below (rq HO365.out) hb)
          replace HO368 := am (Kd.R_below (rq HO368.out) hb)
          replace HO372 := am (Kd.R_below (rq HO372.out) hb)
          replace HO389 := am (Kd.R_below (rq HO389.out) hb)
          replace HO392 := am (Kd.R_below (rq HO392.out) hb)
          replace HO396 := am (Kd.R_below (rq HO396.out) hb)
          replace HO423 := am (Kd.R_below (rq HO423.out) hb)
          replace HO426 := am (Kd.R_below (rq HO426.out) hb)
          replace HO434 := am (Kd.R_below (rq HO434.out) hb)
          replace HO437 := am (Kd.R_below (rq HO437.out) hb)
          replace HO441 := am (Kd.R_below (rq HO441.out) hb)
          have BK443 := am (hbox)
          have GW443 := am ((by rw [hg]; exact (below_size bel) : w.heap.size ≤ gb443))
          have GE443 := am ((by rw [hg]; exact (below_size bel) : w.heap.size ≤ gb443))
          replace HB := am (below_step bel hb)
          have NB349_443 := am ((by rw [hg]; exact Nat.ne_of_lt (blk_lt (blkq BK349.out)) : gb349 ≠ gb443))
          have NB443_349 := am ((by rw [hg]; exact Nat.ne_of_gt (blk_lt (blkq BK349.out)) : gb443 ≠ gb349))
          replace BK349 := am (blk_below (blkq BK349.out) hb)
          have NB350_443 := am ((by rw [hg]; exact Nat.ne_of_lt (blk_lt (blkq BK350.out)) : gb350 ≠ gb443))
          have NB443_350 := am ((by rw [hg]; exact Nat.ne_of_gt (blk_lt (blkq BK350.out)) : gb443 ≠ gb350))
          replace BK350 := am (blk_below (blkq BK350.out) hb)
          have NB374_443 := am ((by rw [hg]; exact Nat.ne_of_lt (blk_lt (blkq BK374.out)) : gb374 ≠ gb443))
          have NB443_374 := am ((by rw [hg]; exact Nat.ne_of_gt (blk_lt (blkq BK374.out)) : gb443 ≠ gb374))
          replace BK374 := am (blk_below (blkq BK374.out) hb)
          have NB398_443 := am ((by rw [hg]; exact Nat.ne_of_lt (blk_lt (blkq BK398.out)) : gb398 ≠ gb443))
          have NB443_398 := am ((by rw [hg]; exact Nat.ne_of_gt (blk_lt (blkq BK398.out)) : gb443 ≠ gb398))
          replace BK398 := am (blk_below (blkq BK398.out) hb)
          clear hb hbox hg
          refine hK.out _ _ ⟨(blk_cell BK349.out 0).trans rfl, (blk_cell BK349.out 1).trans rfl, (blk_cell BK349.out 2).trans rfl, (blk_cell BK350.out 0).trans rfl, (blk_cell BK350.out 1).trans rfl, (blk_cell BK350.out 2).trans rfl, (blk_cell BK350.out 3).trans rfl⟩ (fun hHeld => ?_)
          clear hK K
          refine norm_ (a' := ?_) ?_ ?_
          rotate_left
          · show Act.put _ (some 20) _ = _
            simp only [Act.put, List.setIfInBounds_toArray, List.set_cons_zero, List.set_cons_succ, i64_w, i32_w]
            rfl
          exact norm_ (by simp only [putAll, Act.put, List.setIfInBounds_toArray, List.set_cons_zero, List.set_cons_succ]) (hCont (.slice Ao120 t421.length co120, .slice Ao121 t424.length co121, v433, v436, v440, gb443) _ ⟨hHeld, (by (with_reducible repeat (first | apply Kd.R_alloc | apply Kd.R_drewN | apply Kd.R_drew)); exact Kd.R_mono HO365.out (fun _ hk => ⟨hk.1.1.1.1.1, ⟨hk.1.1.1.1.2.1, ⟨hk.1.1.1.1.2.2, ⟨hk.1.1.1.2, ⟨hk.1.1.2, ⟨hk.1.2, hk.2⟩⟩⟩⟩⟩⟩)), (by (with_reducible repeat (first | apply Kd.R_alloc | apply Kd.R_drewN | apply Kd.R_drew)); exact Kd.R_mono HO368.out (fun _ hk => ⟨hk.1.1.1.1.1, ⟨hk.1.1.1.1.2.1, ⟨hk.1.1.1.1.2.2, ⟨hk.1.1.1.2, ⟨hk.1.1.2, ⟨hk.1.2, hk.2⟩⟩⟩⟩⟩⟩)), (rq HO372.out), (by (with_reducible repeat (first | apply Kd.R_alloc | apply Kd.R_drewN | apply Kd.R_drew)); exact Kd.R_mono HO389.out (fun _ hk => ⟨hk.1.1.1.1.1, ⟨hk.1.1.1.1.2.1, ⟨hk.1.1.1.1.2.2, ⟨hk.1.1.1.2, ⟨hk.1.1.2, ⟨hk.1.2, hk.2⟩⟩⟩⟩⟩⟩)), (by (with_reducible repeat (first | apply Kd.R_alloc | apply Kd.R_drewN | apply Kd.R_drew)); exact Kd.R_mono HO392.out (fun _ hk => ⟨hk.1.1.1.1.1, ⟨hk.1.1.1.1.2.1, ⟨hk.1.1.1.1.2.2, ⟨hk.1.1.1.2, ⟨hk.1.1.2, ⟨hk.1.2, hk.2⟩⟩⟩⟩⟩⟩)), (rq HO396.out), (by (with_reducible repeat (first | apply Kd.R_alloc | apply Kd.R_drewN | apply Kd.R_drew)); exact Kd.R_mono HO423.out (fun _ hk => ⟨hk.1.1.1.1.1.2, ⟨hk.1.1.1.1.2, ⟨hk.1.1.1.2, ⟨hk.1.1.2, ⟨hk.1.1.1.1.1.1, ⟨hk.1.2, hk.2⟩⟩⟩⟩⟩⟩)), (by (with_reducible repeat (first | apply Kd.R_alloc | apply Kd.R_drewN | apply Kd.R_drew)); exact Kd.R_mono HO426.out (fun _ hk => ⟨hk.1.1.1.1.1.2, ⟨hk.1.1.1.1.2, ⟨hk.1.1.1.2, ⟨hk.1.1.2, ⟨hk.1.1.1.1.1.1, ⟨hk.1.2, hk.2⟩⟩⟩⟩⟩⟩)), (by (with_reducible repeat (first | apply Kd.R_alloc | apply Kd.R_drewN | apply Kd.R_drew)); exact Kd.R_mono HO434.out (fun _ hk => ⟨hk.1.1.1.1.1.2, ⟨hk.1.1.1.1.2, ⟨hk.1.1.1.2, ⟨hk.1.1.2, ⟨hk.1.2, ⟨hk.2, hk.1.1.1.1.1.1⟩⟩⟩⟩⟩⟩)), (by (with_reducible repeat (first | apply Kd.R_alloc | apply Kd.R_drewN | apply Kd.R_drew)); exact Kd.R_mono HO437.out (fun _ hk => ⟨hk.1.1.1.1.1.2, ⟨hk.1.1.1.1.2, ⟨hk.1.1.1.2, ⟨hk.1.1.2, ⟨hk.1.2, ⟨hk.2, hk.1.1.1.1.1.1⟩⟩⟩⟩⟩⟩)), (by (with_reducible repeat (first | apply Kd.R_alloc | apply Kd.R_drewN | apply Kd.R_drew)); exact Kd.R_mono HO441.out (fun _ hk => ⟨hk.1.2, hk.2⟩)), (blkq BK349.out), (blkq BK350.out), (blkq BK374.out), (blkq BK398.out), (blkq BK443.out), GW443.out, GE443.out, NB349_443.out, NB443_349.out, NB350_443.out, NB443_350.out, NB374_443.out, NB443_374.out, NB398_443.out, NB443_398.out, bel⟩)
        · skip
          refine box_step ?hg (N := 20) ?hd (cs := #[.slice none 0 0, .slice none 0 0, .int .i64 0]) (t := 30) ?hr ?_; (case hd => rfl); (case hg => rfl); (case hr => first | (go_simp; done) | (go_simp; rfl))
          intro gb443 hg w120 hbox hb
          replace HO365 := am (Kd.R_below (rq HO365.out) hb)
          replace HO368 := am (Kd.R_below (rq HO368.out) hb)
          replace HO372 := am (Kd.R_below (rq HO372.out) hb)
          replace HO389 := am (Kd.R_below (rq HO389.out) hb)
          replace HO392 := am (Kd.R_below (rq HO392.out) hb)
          replace HO396 := am (Kd.R_below (rq HO396.out) hb)
          replace HO423 := am (Kd.R_below (rq HO423.out) hb)
          replace HO426 := am (Kd.R_below (rq HO426.out) hb)
          have BK443 := am (hbox)
          have GW443 := am ((by rw [hg]; exact (below_size bel) : w.heap.size ≤ gb443))
          have GE443 := am ((by rw [hg]; exact (below_size bel) : w.heap.size ≤ gb443))
          replace HB := am (below_step bel hb)
          have NB349_443 := am ((by rw [hg]; exact Nat.ne_of_lt (blk_lt (blkq BK349.out)) : gb349 ≠ gb443))
          have NB443_349 := am ((by rw [hg]; exact Nat.ne_of_gt (blk_lt (blkq BK349.out)) : gb443 ≠ gb349))
          replace BK349 := am (blk_below (blkq BK349.out) hb)
          have NB350_443 := am ((by rw [hg]; exact Nat.ne_of_lt (blk_lt (blkq BK350.out)) : gb350 ≠ gb443))
          have NB443_350 := am ((by rw [hg]; exact Nat.ne_of_gt (blk_lt (blkq BK350.out)) : gb443 ≠ gb350))
          replace BK350 := am (blk_below (blkq BK350.out) hb)
          have NB374_443 := am ((by rw [hg]; exact Nat.ne_of_lt (blk_lt (blkq BK374.out)) : gb374 ≠ gb443))
          have NB443_374 := am ((by rw [hg]; exact Nat.ne_of_gt (blk_lt (blkq BK374.out)) : gb443 ≠ gb374))
          replace BK374 := am (blk_below (blkq BK374.out) hb)
          have NB398_443 := am ((by rw [hg]; exact Nat.ne_of_lt (blk_lt (blkq BK398.out)) : gb398 ≠ gb443))
          have NB443_398 := am ((by rw [hg]; exact Nat.ne_of_gt (blk_lt (blkq BK398.out)) : gb443 ≠ gb398))
          replace BK398 := am (blk_below (blkq BK398.out) hb)
          clear hb hbox hg
          obtain ⟨Ao121, co121, eo121⟩ := Kd.R_slice HO423.out
          (first | subst eo121 | (injection eo121 with f1_ f2_ f3_; have f4_ := f1_.symm; have f5_ := f3_.symm; clear f1_ f2_ f3_; subst f4_; subst f5_))
          obtain ⟨Ao122, co122, eo122⟩ := Kd.R_slice HO426.out
          (first | subst eo122 | (injection eo122 with f1_ f2_ f3_; have f4_ := f1_.symm; have f5_ := f3_.symm; clear f1_ f2_ f3_; subst f4_; subst f5_))
          refine hK.out _ _ ⟨(blk_cell BK349.out 0).trans rfl, (blk_cell BK349.out 1).trans rfl, (blk_cell BK349.out 2).trans rfl, (blk_cell BK350.out 0).trans rfl, (blk_cell BK350.out 1).trans rfl, (blk_cell BK350.out 2).trans rfl, (blk_cell BK350.out 3).trans rfl⟩ (fun hHeld => ?_)
          clear hK K
          refine norm_ (a' := ?_) ?_ ?_
          rotate_left
          · show Act.put _ (some 20) _ = _
            simp only [Act.put, List.setIfInBounds_toArray, List.set_cons_zero, List.set_cons_succ, i64_w, i32_w]
            rfl
          refine one_ (i := 6) (N := some 119) #[true, true, true, true, true, true, true, false, false, false, false, true, false, false, false] rfl rfl (one_of HT_.out (by kernel_rfl)) (by decide) (fun K hK => ?_)
          refine goes_ Try.func12 (by kernel_rfl) rfl #[.agg #[.slice Ao121 t421.length co121, .slice Ao122 t424.length co122, .int .i64 t427], .int .i64 a1, .bool a2, .agg #[.int .i64 t428, .int .i64 t429, .int .i64 t430, .int .i64 t431]] (by rfl) rfl rfl (by (try simp only [List.map_toArray, List.map_cons, List.map_nil]); first | done | rfl | (simp only [List.length_drop, List.length_take]; rfl)) ?_
          with_reducible refine (impl_AddJoin.calls k _ _ t421 _ _ t424 t427 a1 a2 t428 t429 t430 t431 t432 t435 t438 t439 t442 _ ?side1 ?side2 ?side3 ?side4 A40.out).mono ?_
          (case side1 => repeat (first | exact (Kd.R_reads' HO423.out).2.2 | (with_reducible refine Kd.C_alloc ?_ _) | (with_reducible refine Kd.C_drewN ?_ _) | (with_reducible refine Kd.C_drew ?_)))
          (case side2 => exact (Kd.R_reads' HO423.out).2.1)
          (case side3 => repeat (first | exact (Kd.R_reads' HO426.out).2.2 | (with_reducible refine Kd.C_alloc ?_ _) | (with_reducible refine Kd.C_drewN ?_ _) | (with_reducible refine Kd.C_drew ?_)))
          (case side4 => exact (Kd.R_reads' HO426.out).2.1)
          rintro e w123 ⟨v433, v436, v440, rfl, ho0, ho1, ho2, hb⟩
          refine ⟨_, rfl, ?_⟩
          have HO434 := am (Kd.R_lower (Kd.R_new' (Kd.R_new' (Kd.R_new' (Kd.R_new' (Kd.R_new' (Kd.R_new' ho0 (Kd.R_lt (rq HO365.out))) (Kd.R_lt (rq HO368.out))) (Kd.R_lt (rq HO389.out))) (Kd.R_lt (rq HO392.out))) (Kd.R_lt (rq HO423.out))) (Kd.R_lt (rq HO426.out))) (below_size bel))
          have HO437 := am (Kd.R_lower (Kd.R_new' (Kd.R_new' (Kd.R_new' (Kd.R_new' (Kd.R_new' (Kd.R_new' ho1 (Kd.R_lt (rq HO365.out))) (Kd.R_lt (rq HO368.out))) (Kd.R_lt (rq HO389.out))) (Kd.R_lt (rq HO392.out))) (Kd.R_lt (rq HO423.out))) (Kd.R_lt (rq HO426.out))) (below_size bel))
          replace HO365 := am (Kd.R_mono (Kd.R_told (Kd.R_told (Kd.R_old (rq HO365.out) hb) (Kd.R_base ho0)) (Kd.R_base ho1)) (fun _ h_ => h_.1))
          replace HO368 := am (Kd.R_mono (Kd.R_told (Kd.R_told (Kd.R_old (rq HO368.out) hb) (Kd.R_base ho0)) (Kd.R_base ho1)) (fun _ h_ => h_.1))
          replace HO389 := am (Kd.R_mono (Kd.R_told (Kd.R_told (Kd.R_old (rq HO389.out) hb) (Kd.R_base ho0)) (Kd.R_base ho1)) (fun _ h_ => h_.1))
          replace HO392 := am (Kd.R_mono (Kd.R_told (Kd.R_told (Kd.R_old (rq HO392.out) hb) (Kd.R_base ho0)) (Kd.R_base ho1)) (fun _ h_ => h_.1))
          replace HO423 := am (Kd.R_mono (Kd.R_told (Kd.R_told (Kd.R_old (rq HO423.out) hb) (Kd.R_base ho0)) (Kd.R_base ho1)) (fun _ h_ => h_.1))
          replace HO426 := am (Kd.R_mono (Kd.R_told (Kd.R_told (Kd.R_old (rq HO426.out) hb) (Kd.R_base ho0)) (Kd.R_base ho1)) (fun _ h_ => h_.1))
          have HO441 := am (Kd.R_lower (Kd.R_new' (Kd.R_new' ho2 (Kd.R_lt (rq HO372.out))) (Kd.R_lt (rq HO396.out))) (below_size bel))
          replace HO372 := am (Kd.R_elder' (rq HO372.out) (Kd.R_base ho2) hb)
          replace HO396 := am (Kd.R_elder' (rq HO396.out) (Kd.R_base ho2) hb)
          replace BK349 := am (blk_below (blkq BK349.out) hb)
          replace BK350 := am (blk_below (blkq BK350.out) hb)
          replace BK374 := am (blk_below (blkq BK374.out) hb)
          replace BK398 := am (blk_below (blkq BK398.out) hb)
          replace BK443 := am (blk_below (blkq BK443.out) hb)
          replace HB := am (below_step bel hb)
          (try clear hb)
          (try clear ho0)
          (try clear ho1)
          (try clear ho2)
          refine hK.out _ _ ⟨(blk_cell BK349.out 0).trans rfl, (blk_cell BK349.out 1).trans rfl, (blk_cell BK349.out 2).trans rfl, (blk_cell BK350.out 0).trans rfl, (blk_cell BK350.out 1).trans rfl, (blk_cell BK350.out 2).trans rfl, (blk_cell BK350.out 3).trans rfl⟩ (fun hHeld => ?_)
          clear hK K
          refine norm_ (a' := ?_) ?_ ?_
          rotate_left
          · show Act.put _ (some 119) _ = _
            simp only [Act.put, List.setIfInBounds_toArray, List.set_cons_zero, List.set_cons_succ, i64_w, i32_w]
            rfl
          refine pure_ (i := 7) (N := some 112) (v := ?_) (a' := ?_) #[true, true, true, true, true, true, true, true, false, false, false, true, false, false, false] rfl rfl (any_of HT_.out (by kernel_rfl)) (fun _ _ _ h => h) (Or.inl ⟨by rfl, ?_⟩) ?_ ?_
          rotate_left
          · intro w'
            go_simp
            with_reducible rfl
          rotate_left
          · simp only [Act.put, List.setIfInBounds_toArray, List.set_cons_zero, List.set_cons_succ, i64_w, i32_w]
            rfl
          refine pure_ (i := 8) (N := some 120) (v := ?_) (a' := ?_) #[true, true, true, true, true, true, true, true, true, false, false, true, false, false, false] rfl rfl (any_of HT_.out (by kernel_rfl)) (fun _ _ _ h => h) (Or.inl ⟨by rfl, ?_⟩) ?_ ?_
          rotate_left
          · intro w'
            go_simp
            with_reducible rfl
          rotate_left
          · simp only [Act.put, List.setIfInBounds_toArray, List.set_cons_zero, List.set_cons_succ, i64_w, i32_w]
            rfl
          refine pure_ (i := 9) (N := some 121) (v := ?_) (a' := ?_) #[true, true, true, true, true, true, true, true, true, true, false, true, false, false, false] rfl rfl (any_of HT_.out (by kernel_rfl)) (fun _ _ _ h => h) (Or.inl ⟨by rfl, ?_⟩) ?_ ?_
          rotate_left
          · intro w'
            go_simp
            with_reducible rfl
          rotate_left
          · simp only [Act.put, List.setIfInBounds_toArray, List.set_cons_zero, List.set_cons_succ, i64_w, i32_w]
            rfl
          refine pure_ (i := 10) (N := some 122) (v := ?_) (a' := ?_) #[true, true, true, true, true, true, true, true, true, true, true, true, false, false, false] rfl rfl (any_of HT_.out (by kernel_rfl)) (fun _ _ _ h => h) (Or.inl ⟨by rfl, ?_⟩) ?_ ?_
          rotate_left
          · intro w'
            go_simp
            with_reducible rfl
          rotate_left
          · simp only [Act.put, List.setIfInBounds_toArray, List.set_cons_zero, List.set_cons_succ, i64_w, i32_w]
            rfl
          exact norm_ (by simp only [putAll, Act.put, List.setIfInBounds_toArray, List.set_cons_zero, List.set_cons_succ]) (hCont (.slice Ao121 t421.length co121, .slice Ao122 t424.length co122, v433, v436, v440, gb443) _ ⟨hHeld, (by (with_reducible repeat (first | apply Kd.R_alloc | apply Kd.R_drewN | apply Kd.R_drew)); exact Kd.R_mono HO365.out (fun _ hk => ⟨hk.1.1.1.1.1, ⟨hk.1.1.1.1.2.1, ⟨hk.1.1.1.1.2.2, ⟨hk.1.1.1.2, ⟨hk.1.1.2, ⟨hk.1.2, hk.2⟩⟩⟩⟩⟩⟩)), (by (with_reducible repeat (first | apply Kd.R_alloc | apply Kd.R_drewN | apply Kd.R_drew)); exact Kd.R_mono HO368.out (fun _ hk => ⟨hk.1.1.1.1.1, ⟨hk.1.1.1.1.2.1, ⟨hk.1.1.1.1.2.2, ⟨hk.1.1.1.2, ⟨hk.1.1.2, ⟨hk.1.2, hk.2⟩⟩⟩⟩⟩⟩)), (rq HO372.out), (by (with_reducible repeat (first | apply Kd.R_alloc | apply Kd.R_drewN | apply Kd.R_drew)); exact Kd.R_mono HO389.out (fun _ hk => ⟨hk.1.1.1.1.1, ⟨hk.1.1.1.1.2.1, ⟨hk.1.1.1.1.2.2, ⟨hk.1.1.1.2, ⟨hk.1.1.2, ⟨hk.1.2, hk.2⟩⟩⟩⟩⟩⟩)), (by (with_reducible repeat (first | apply Kd.R_alloc | apply Kd.R_drewN | apply Kd.R_drew)); exact Kd.R_mono HO392.out (fun _ hk => ⟨hk.1.1.1.1.1, ⟨hk.1.1.1.1.2.1, ⟨hk.1.1.1.1.2.2, ⟨hk.1.1.1.2, ⟨hk.1.1.2, ⟨hk.1.2, hk.2⟩⟩⟩⟩⟩⟩)), (rq HO396.out), (by (with_reducible repeat (first | apply Kd.R_alloc | apply Kd.R_drewN | apply Kd.R_drew)); exact Kd.R_mono HO423.out (fun _ hk => ⟨hk.1.1.1.1.1.2, ⟨hk.1.1.1.1.2, ⟨hk.1.1.1.2, ⟨hk.1.1.2, ⟨hk.1.1.1.1.1.1, ⟨hk.1.2, hk.2⟩⟩⟩⟩⟩⟩)), (by (with_reducible repeat (first | apply Kd.R_alloc | apply Kd.R_drewN | apply Kd.R_drew)); exact Kd.R_mono HO426.out (fun _ hk => ⟨hk.1.1.1.1.1.2, ⟨hk.1.1.1.1.2, ⟨hk.1.1.1.2, ⟨hk.1.1.2, ⟨hk.1.1.1.1.1.1, ⟨hk.1.2, hk.2⟩⟩⟩⟩⟩⟩)), (by (with_reducible repeat (first | apply Kd.R_alloc | apply Kd.R_drewN | apply Kd.R_drew)); exact Kd.R_mono HO434.out (fun _ hk => ⟨hk.1.1.1.1.1.2, ⟨hk.1.1.1.1.2, ⟨hk.1.1.1.2, ⟨hk.1.1.2, ⟨hk.1.2, ⟨hk.2, hk.1.1.1.1.1.1⟩⟩⟩⟩⟩⟩)), (by (with_reducible repeat (first | apply Kd.R_alloc | apply Kd.R_drewN | apply Kd.R_drew)); exact Kd.R_mono HO437.out (fun _ hk => ⟨hk.1.1.1.1.1.2, ⟨hk.1.1.1.1.2, ⟨hk.1.1.1.2, ⟨hk.1.1.2, ⟨hk.1.2, ⟨hk.2, hk.1.1.1.1.1.1⟩⟩⟩⟩⟩⟩)), (by (with_reducible repeat (first | apply Kd.R_alloc | apply Kd.R_drewN | apply Kd.R_drew)); exact Kd.R_mono HO441.out (fun _ hk => ⟨hk.1.2, hk.2⟩)), (blkq BK349.out), (blkq BK350.out), (blkq BK374.out), (blkq BK398.out), (blkq BK443.out), GW443.out, GE443.out, NB349_443.out, NB443_349.out, NB350_443.out, NB443_350.out, NB374_443.out, NB443_374.out, NB398_443.out, NB443_398.out, bel⟩)
      · skip
        refine box_step ?hg (N := 20) ?hd (cs := #[.slice none 0 0, .slice none 0 0, .int .i64 0]) (t := 30) ?hr ?_; (case hd => rfl); (case hg => rfl); (case hr => first | (go_simp; done) | (go_simp; rfl))
        intro gb443 hg w119 hbox hb
        replace HO365 := am (Kd.R_below (rq HO365.out) hb)
        replace HO368 := am (Kd.R_below (rq HO368.out) hb)
        replace HO372 := am (Kd.R_below (rq HO372.out) hb)
        replace HO389 := am (Kd.R_below (rq HO389.out) hb)
        replace HO392 := am (Kd.R_below (rq HO392.out) hb)
        replace HO396 := am (Kd.R_below (rq HO396.out) hb)
        replace HO423 := am (Kd.R_below (rq HO423.out) hb)
        replace HO426 := am (Kd.R_below (rq HO426.out) hb)
        have BK443 := am (hbox)
        have GW443 := am ((by rw [hg]; exact (below_size bel) : w.heap.size ≤ gb443))
        have GE443 := am ((by rw [hg]; exact (below_size bel) : w.heap.size ≤ gb443))
        replace HB := am (below_step bel hb)
        have NB349_443 := am ((by rw [hg]; exact Nat.ne_of_lt (blk_lt (blkq BK349.out)) : gb349 ≠ gb443))
        have NB443_349 := am ((by rw [hg]; exact Nat.ne_of_gt (blk_lt (blkq BK349.out)) : gb443 ≠ gb349))
        replace BK349 := am (blk_below (blkq BK349.out) hb)
        have NB350_443 := am ((by rw [hg]; exact Nat.ne_of_lt (blk_lt (blkq BK350.out)) : gb350 ≠ gb443))
        have NB443_350 := am ((by rw [hg]; exact Nat.ne_of_gt (blk_lt (blkq BK350.out)) : gb443 ≠ gb350))
        replace BK350 := am (blk_below (blkq BK350.out) hb)
        have NB374_443 := am ((by rw [hg]; exact Nat.ne_of_lt (blk_lt (blkq BK374.out)) : gb374 ≠ gb443))
        have NB443_374 := am ((by rw [hg]; exact Nat.ne_of_gt (blk_lt (blkq BK374.out)) : gb443 ≠ gb374))
        replace BK374 := am (blk_below (blkq BK374.out) hb)
        have NB398_443 := am ((by rw [hg]; exact Nat.ne_of_lt (blk_lt (blkq BK398.out)) : gb398 ≠ gb443))
        have NB443_398 := am ((by rw [hg]; exact Nat.ne_of_gt (blk_lt (blkq BK398.out)) : gb443 ≠ gb398))
        replace BK398 := am (blk_below (blkq BK398.out) hb)
        clear hb hbox hg
        refine hK.out _ _ ⟨(blk_cell BK349.out 0).trans rfl, (blk_cell BK349.out 1).trans rfl, (blk_cell BK349.out 2).trans rfl, (blk_cell BK350.out 0).trans rfl, (blk_cell BK350.out 1).trans rfl, (blk_cell BK350.out 2).trans rfl, (blk_cell BK350.out 3).trans rfl⟩ (fun hHeld => ?_)
        clear hK K
        refine norm_ (a' := ?_) ?_ ?_
        rotate_left
        · show Act.put _ (some 20) _ = _
          simp only [Act.put, List.setIfInBounds_toArray, List.set_cons_zero, List.set_cons_succ, i64_w, i32_w]
          rfl
        refine one_ (i := 5) (N := some 118) #[true, true, true, true, true, true, false, false, false, false, false, true, false, false, false] rfl rfl (one_of HT_.out (by kernel_rfl)) (by decide) (fun K hK => ?_)
        refine goes_ Try.func11 (by kernel_rfl) rfl #[.agg #[.int .i64 a3_0, .int .i64 a3_1, .int .i64 a3_2, .int .i64 a3_3]] (by rfl) rfl rfl (by (try simp only [List.map_toArray, List.map_cons, List.map_nil]); first | done | rfl | (simp only [List.length_drop, List.length_take]; rfl)) ?_
        with_reducible refine (laws_toFrame.calls a3_0 a3_1 a3_2 a3_3 t428 t429 t430 t431 _ A39.out).mono ?_
        rintro e w120 ⟨rfl, hb⟩
        refine ⟨_, rfl, ?_⟩
        replace HO365 := am (Kd.R_below (rq HO365.out) hb)
        replace HO368 := am (Kd.R_below (rq HO368.out) hb)
        replace HO372 := am (Kd.R_below (rq HO372.out) hb)
        replace HO389 := am (Kd.R_below (rq HO389.out) hb)
        replace HO392 := am (Kd.R_below (rq HO392.out) hb)
        replace HO396 := am (Kd.R_below (rq HO396.out) hb)
        replace HO423 := am (Kd.R_below (rq HO423.out) hb)
        replace HO426 := am (Kd.R_below (rq HO426.out) hb)
        replace BK349 := am (blk_below (blkq BK349.out) hb)
        replace BK350 := am (blk_below (blkq BK350.out) hb)
        replace BK374 := am (blk_below (blkq BK374.out) hb)
        replace BK398 := am (blk_below (blkq BK398.out) hb)
        replace BK443 := am (blk_below (blkq BK443.out) hb)
        replace HB := am (below_step bel hb)
        (try clear hb)
        obtain ⟨Ao121, co121, eo121⟩ := Kd.R_slice HO423.out
        (first | subst eo121 | (injection eo121 with f1_ f2_ f3_; have f4_ := f1_.symm; have f5_ := f3_.symm; clear f1_ f2_ f3_; subst f4_; subst f5_))
        obtain ⟨Ao122, co122, eo122⟩ := Kd.R_slice HO426.out
        (first | subst eo122 | (injection eo122 with f1_ f2_ f3_; have f4_ := f1_.symm; have f5_ := f3_.symm; clear f1_ f2_ f3_; subst f4_; subst f5_))
        refine hK.out _ _ ⟨(blk_cell BK349.out 0).trans rfl, (blk_cell BK349.out 1).trans rfl, (blk_cell BK349.out 2).trans rfl, (blk_cell BK350.out 0).trans rfl, (blk_cell BK350.out 1).trans rfl, (blk_cell BK350.out 2).trans rfl, (blk_cell BK350.out 3).trans rfl⟩ (fun hHeld => ?_)
        clear hK K
        refine norm_ (a' := ?_) ?_ ?_
        rotate_left
        · show Act.put _ (some 118) _ = _
          simp only [Act.put, List.setIfInBounds_toArray, List.set_cons_zero, List.set_cons_succ, i64_w, i32_w]
          rfl
        refine one_ (i := 6) (N := some 119) #[true, true, true, true, true, true, true, false, false, false, false, true, false, false, false] rfl rfl (one_of HT_.out (by kernel_rfl)) (by decide) (fun K hK => ?_)
        refine goes_ Try.func12 (by kernel_rfl) rfl #[.agg #[.slice Ao121 t421.length co121, .slice Ao122 t424.length co122, .int .i64 t427], .int .i64 a1, .bool a2, .agg #[.int .i64 t428, .int .i64 t429, .int .i64 t430, .int .i64 t431]] (by rfl) rfl rfl (by (try simp only [List.map_toArray, List.map_cons, List.map_nil]); first | done | rfl | (simp only [List.length_drop, List.length_take]; rfl)) ?_
        with_reducible refine (impl_AddJoin.calls k _ _ t421 _ _ t424 t427 a1 a2 t428 t429 t430 t431 t432 t435 t438 t439 t442 _ ?side1 ?side2 ?side3 ?side4 A40.out).mono ?_
        (case side1 => repeat (first | exact (Kd.R_reads' HO423.out).2.2 | (with_reducible refine Kd.C_alloc ?_ _) | (with_reducible refine Kd.C_drewN ?_ _) | (with_reducible refine Kd.C_drew ?_)))
        (case side2 => exact (Kd.R_reads' HO423.out).2.1)
        (case side3 => repeat (first | exact (Kd.R_reads' HO426.out).2.2 | (with_reducible refine Kd.C_alloc ?_ _) | (with_reducible refine Kd.C_drewN ?_ _) | (with_reducible refine Kd.C_drew ?_)))
        (case side4 => exact (Kd.R_reads' HO426.out).2.1)
        rintro e w123 ⟨v433, v436, v440, rfl, ho0, ho1, ho2, hb⟩
        refine ⟨_, rfl, ?_⟩
        have HO434 := am (Kd.R_lower (Kd.R_new' (Kd.R_new' (Kd.R_new' (Kd.R_new' (Kd.R_new' (Kd.R_new' ho0 (Kd.R_lt (rq HO365.out))) (Kd.R_lt (rq HO368.out))) (Kd.R_lt (rq HO389.out))) (Kd.R_lt (rq HO392.out))) (Kd.R_lt (rq HO423.out))) (Kd.R_lt (rq HO426.out))) (below_size bel))
        have HO437 := am (Kd.R_lower (Kd.R_new' (Kd.R_new' (Kd.R_new' (Kd.R_new' (Kd.R_new' (Kd.R_new' ho1 (Kd.R_lt (rq HO365.out))) (Kd.R_lt (rq HO368.out))) (Kd.R_lt (rq HO389.out))) (Kd.R_lt (rq HO392.out))) (Kd.R_lt (rq HO423.out))) (Kd.R_lt (rq HO426.out))) (below_size bel))
        replace HO365 := am (Kd.R_mono (Kd.R_told (Kd.R_told (Kd.R_old (rq HO365.out) hb) (Kd.R_base ho0)) (Kd.R_base ho1)) (fun _ h_ => h_.1))
        replace HO368 := am (Kd.R_mono (Kd.R_told (Kd.R_told (Kd.R_old (rq HO368.out) hb) (Kd.R_base ho0)) (Kd.R_base ho1)) (fun _ h_ => h_.1))
        replace HO389 := am (Kd.R_mono (Kd.R_told (Kd.R_told (Kd.R_old (rq HO389.out) hb) (Kd.R_base ho0)) (Kd.R_base ho1)) (fun _ h_ => h_.1))
        replace HO392 := am (Kd.R_mono (Kd.R_told (Kd.R_told (Kd.R_old (rq HO392.out) hb) (Kd.R_base ho0)) (Kd.R_base ho1)) (fun _ h_ => h_.1))
        replace HO423 := am (Kd.R_mono (Kd.R_told (Kd.R_told (Kd.R_old (rq HO423.out) hb) (Kd.R_base ho0)) (Kd.R_base ho1)) (fun _ h_ => h_.1))
        replace HO426 := am (Kd.R_mono (Kd.R_told (Kd.R_told (Kd.R_old (rq HO426.out) hb) (Kd.R_base ho0)) (Kd.R_base ho1)) (fun _ h_ => h_.1))
        have HO441 := am (Kd.R_lower (Kd.R_new' (Kd.R_new' ho2 (Kd.R_lt (rq HO372.out))) (Kd.R_lt (rq HO396.out))) (below_size bel))
        replace HO372 := am (Kd.R_elder' (rq HO372.out) (Kd.R_base ho2) hb)
        replace HO396 := am (Kd.R_elder' (rq HO396.out) (Kd.R_base ho2) hb)
        replace BK349 := am (blk_below (blkq BK349.out) hb)
        replace BK350 := am (blk_below (blkq BK350.out) hb)
        replace BK374 := am (blk_below (blkq BK374.out) hb)
        replace BK398 := am (blk_below (blkq BK398.out) hb)
        replace BK443 := am (blk_below (blkq BK443.out) hb)
        replace HB := am (below_step bel hb)
        (try clear hb)
        (try clear ho0)
        (try clear ho1)
        (try clear ho2)
        refine hK.out _ _ ⟨(blk_cell BK349.out 0).trans rfl, (blk_cell BK349.out 1).trans rfl, (blk_cell BK349.out 2).trans rfl, (blk_cell BK350.out 0).trans rfl, (blk_cell BK350.out 1).trans rfl, (blk_cell BK350.out 2).trans rfl, (blk_cell BK350.out 3).trans rfl⟩ (fun hHeld => ?_)
        clear hK K
        refine norm_ (a' := ?_) ?_ ?_
        rotate_left
        · show Act.put _ (some 119) _ = _
          simp only [Act.put, List.setIfInBounds_toArray, List.set_cons_zero, List.set_cons_succ, i64_w, i32_w]
          rfl
        refine pure_ (i := 7) (N := some 112) (v := ?_) (a' := ?_) #[true, true, true, true, true, true, true, true, false, false, false, true, false, false, false] rfl rfl (any_of HT_.out (by kernel_rfl)) (fun _ _ _ h => h) (Or.inl ⟨by rfl, ?_⟩) ?_ ?_
        rotate_left
        · intro w'
          go_simp
          with_reducible rfl
        rotate_left
        · simp only [Act.put, List.setIfInBounds_toArray, List.set_cons_zero, List.set_cons_succ, i64_w, i32_w]
          rfl
        refine pure_ (i := 8) (N := some 120) (v := ?_) (a' := ?_) #[true, true, true, true, true, true, true, true, true, false, false, true, false, false, false] rfl rfl (any_of HT_.out (by kernel_rfl)) (fun _ _ _ h => h) (Or.inl ⟨by rfl, ?_⟩) ?_ ?_
        rotate_left
        · intro w'
          go_simp
          with_reducible rfl
        rotate_left
        · simp only [Act.put, List.setIfInBounds_toArray, List.set_cons_zero, List.set_cons_succ, i64_w, i32_w]
          rfl
        refine pure_ (i := 9) (N := some 121) (v := ?_) (a' := ?_) #[true, true, true, true, true, true, true, true, true, true, false, true, false, false, false] rfl rfl (any_of HT_.out (by kernel_rfl)) (fun _ _ _ h => h) (Or.inl ⟨by rfl, ?_⟩) ?_ ?_
        rotate_left
        · intro w'
          go_simp
          with_reducible rfl
        rotate_left
        · simp only [Act.put, List.setIfInBounds_toArray, List.set_cons_zero, List.set_cons_succ, i64_w, i32_w]
          rfl
        refine pure_ (i := 10) (N := some 122) (v := ?_) (a' := ?_) #[true, true, true, true, true, true, true, true, true, true, true, true, false, false, false] rfl rfl (any_of HT_.out (by kernel_rfl)) (fun _ _ _ h => h) (Or.inl ⟨by rfl, ?_⟩) ?_ ?_
        rotate_left
        · intro w'
          go_simp
          with_reducible rfl
        rotate_left
        · simp only [Act.put, List.setIfInBounds_toArray, List.set_cons_zero, List.set_cons_succ, i64_w, i32_w]
          rfl
        exact norm_ (by simp only [putAll, Act.put, List.setIfInBounds_toArray, List.set_cons_zero, List.set_cons_succ]) (hCont (.slice Ao121 t421.length co121, .slice Ao122 t424.length co122, v433, v436, v440, gb443) _ ⟨hHeld, (by (with_reducible repeat (first | apply Kd.R_alloc | apply Kd.R_drewN | apply Kd.R_drew)); exact Kd.R_mono HO365.out (fun _ hk => ⟨hk.1.1.1.1.1, ⟨hk.1.1.1.1.2.1, ⟨hk.1.1.1.1.2.2, ⟨hk.1.1.1.2, ⟨hk.1.1.2, ⟨hk.1.2, hk.2⟩⟩⟩⟩⟩⟩)), (by (with_reducible repeat (first | apply Kd.R_alloc | apply Kd.R_drewN | apply Kd.R_drew)); exact Kd.R_mono HO368.out (fun _ hk => ⟨hk.1.1.1.1.1, ⟨hk.1.1.1.1.2.1, ⟨hk.1.1.1.1.2.2, ⟨hk.1.1.1.2, ⟨hk.1.1.2, ⟨hk.1.2, hk.2⟩⟩⟩⟩⟩⟩)), (rq HO372.out), (by (with_reducible repeat (first | apply Kd.R_alloc | apply Kd.R_drewN | apply Kd.R_drew)); exact Kd.R_mono HO389.out (fun _ hk => ⟨hk.1.1.1.1.1, ⟨hk.1.1.1.1.2.1, ⟨hk.1.1.1.1.2.2, ⟨hk.1.1.1.2, ⟨hk.1.1.2, ⟨hk.1.2, hk.2⟩⟩⟩⟩⟩⟩)), (by (with_reducible repeat (first | apply Kd.R_alloc | apply Kd.R_drewN | apply Kd.R_drew)); exact Kd.R_mono HO392.out (fun _ hk => ⟨hk.1.1.1.1.1, ⟨hk.1.1.1.1.2.1, ⟨hk.1.1.1.1.2.2, ⟨hk.1.1.1.2, ⟨hk.1.1.2, ⟨hk.1.2, hk.2⟩⟩⟩⟩⟩⟩)), (rq HO396.out), (by (with_reducible repeat (first | apply Kd.R_alloc | apply Kd.R_drewN | apply Kd.R_drew)); exact Kd.R_mono HO423.out (fun _ hk => ⟨hk.1.1.1.1.1.2, ⟨hk.1.1.1.1.2, ⟨hk.1.1.1.2, ⟨hk.1.1.2, ⟨hk.1.1.1.1.1.1, ⟨hk.1.2, hk.2⟩⟩⟩⟩⟩⟩)), (by (with_reducible repeat (first | apply Kd.R_alloc | apply Kd.R_drewN | apply Kd.R_drew)); exact Kd.R_mono HO426.out (fun _ hk => ⟨hk.1.1.1.1.1.2, ⟨hk.1.1.1.1.2, ⟨hk.1.1.1.2, ⟨hk.1.1.2, ⟨hk.1.1.1.1.1.1, ⟨hk.1.2, hk.2⟩⟩⟩⟩⟩⟩)), (by (with_reducible repeat (first | apply Kd.R_alloc | apply Kd.R_drewN | apply Kd.R_drew)); exact Kd.R_mono HO434.out (fun _ hk => ⟨hk.1.1.1.1.1.2, ⟨hk.1.1.1.1.2, ⟨hk.1.1.1.2, ⟨hk.1.1.2, ⟨hk.1.2, ⟨hk.2, hk.1.1.1.1.1.1⟩⟩⟩⟩⟩⟩)), (by (with_reducible repeat (first | apply Kd.R_alloc | apply Kd.R_drewN | apply Kd.R_drew)); exact Kd.R_mono HO437.out (fun _ hk => ⟨hk.1.1.1.1.1.2, ⟨hk.1.1.1.1.2, ⟨hk.1.1.1.2, ⟨hk.1.1.2, ⟨hk.1.2, ⟨hk.2, hk.1.1.1.1.1.1⟩⟩⟩⟩⟩⟩)), (by (with_reducible repeat (first | apply Kd.R_alloc | apply Kd.R_drewN | apply Kd.R_drew)); exact Kd.R_mono HO441.out (fun _ hk => ⟨hk.1.2, hk.2⟩)), (blkq BK349.out), (blkq BK350.out), (blkq BK374.out), (blkq BK398.out), (blkq BK443.out), GW443.out, GE443.out, NB349_443.out, NB443_349.out, NB350_443.out, NB443_350.out, NB374_443.out, NB443_374.out, NB398_443.out, NB443_398.out, bel⟩)
    · skip
      refine box_step ?hg (N := 20) ?hd (cs := #[.slice none 0 0, .slice none 0 0, .int .i64 0]) (t := 30) ?hr ?_; (case hd => rfl); (case hg => rfl); (case hr => first | (go_simp; done) | (go_simp; rfl))
      intro gb443 hg w118 hbox hb
      replace HO365 := am (Kd.R_below (rq HO365.out) hb)
      replace HO368 := am (Kd.R_below (rq HO368.out) hb)
      replace HO372 := am (Kd.R_below (rq HO372.out) hb)
      replace HO389 := am (Kd.R_below (rq HO389.out) hb)
      replace HO392 := am (Kd.R_below (rq HO392.out) hb)
      replace HO396 := am (Kd.R_below (rq HO396.out) hb)
      have BK443 := am (hbox)
      have GW443 := am ((by rw [hg]; exact (below_size bel) : w.heap.size ≤ gb443))
      have GE443 := am ((by rw [hg]; exact (below_size bel) : w.heap.size ≤ gb443))
      replace HB := am (below_step bel hb)
      have NB349_443 := am ((by rw [hg]; exact Nat.ne_of_lt (blk_lt (blkq BK349.out)) : gb349 ≠ gb443))
      have NB443_349 := am ((by rw [hg]; exact Nat.ne_of_gt (blk_lt (blkq BK349.out)) : gb443 ≠ gb349))
      replace BK349 := am (blk_below (blkq BK349.out) hb)
      have NB350_443 := am ((by rw [hg]; exact Nat.ne_of_lt (blk_lt (blkq BK350.out)) : gb350 ≠ gb443))
      have NB443_350 := am ((by rw [hg]; exact Nat.ne_of_gt (blk_lt (blkq BK350.out)) : gb443 ≠ gb350))
      replace BK350 := am (blk_below (blkq BK350.out) hb)
      have NB374_443 := am ((by rw [hg]; exact Nat.ne_of_lt (blk_lt (blkq BK374.out)) : gb374 ≠ gb443))
      have NB443_374 := am ((by rw [hg]; exact Nat.ne_of_gt (blk_lt (blkq BK374.out)) : gb443 ≠ gb374))
      replace BK374 := am (blk_below (blkq BK374.out) hb)
      have NB398_443 := am ((by rw [hg]; exact Nat.ne_of_lt (blk_lt (blkq BK398.out)) : gb398 ≠ gb443))
      have NB443_398 := am ((by rw [hg]; exact Nat.ne_of_gt (blk_lt (blkq BK398.out)) : gb443 ≠ gb398))
      replace BK398 := am (blk_below (blkq BK398.out) hb)
      clear hb hbox hg
      refine hK.out _ _ ⟨(blk_cell BK349.out 0).trans rfl, (blk_cell BK349.out 1).trans rfl, (blk_cell BK349.out 2).trans rfl, (blk_cell BK350.out 0).trans rfl, (blk_cell BK350.out 1).trans rfl, (blk_cell BK350.out 2).trans rfl, (blk_cell BK350.out 3).trans rfl⟩ (fun hHeld => ?_)
      clear hK K
      refine norm_ (a' := ?_) ?_ ?_
      rotate_left
      · show Act.put _ (some 20) _ = _
        simp only [Act.put, List.setIfInBounds_toArray, List.set_cons_zero, List.set_cons_succ, i64_w, i32_w]
        rfl
      refine one_ (i := 1) (N := some 114) #[true, true, true, true, true, false, false, false, false, false, false, true, false, false, false] rfl rfl (one_of HT_.out (by kernel_rfl)) (by decide) (fun K hK => ?_)
      refine goes_ Try.func10 (by kernel_rfl) rfl #[.agg #[.slice A0_0 l0_0.length c0_0, .slice A0_1 l0_1.length c0_1, .int .i64 a0_2]] (by rfl) rfl rfl (by (try simp only [List.map_toArray, List.map_cons, List.map_nil]); first | done | rfl | (simp only [List.length_drop, List.length_take]; rfl)) ?_
      with_reducible refine (laws_toJoin.calls k _ _ l0_0 _ _ l0_1 a0_2 t421 t424 t427 _ ?side1 ?side2 ?side3 ?side4 A38.out).mono ?_
      (case side1 => repeat (first | exact (Kd.C_below HR0_0.out HB.out) | (with_reducible refine Kd.C_alloc ?_ _) | (with_reducible refine Kd.C_drewN ?_ _) | (with_reducible refine Kd.C_drew ?_)))
      (case side2 => exact HC0_0.out)
      (case side3 => repeat (first | exact (Kd.C_below HR0_1.out HB.out) | (with_reducible refine Kd.C_alloc ?_ _) | (with_reducible refine Kd.C_drewN ?_ _) | (with_reducible refine Kd.C_drew ?_)))
      (case side4 => exact HC0_1.out)
      rintro e w119 ⟨v422, v425, rfl, ho0, ho1, hb⟩
      refine ⟨_, rfl, ?_⟩
      replace HO372 := am (Kd.R_below (rq HO372.out) hb)
      replace HO396 := am (Kd.R_below (rq HO396.out) hb)
      have HO423 := am (Kd.R_lower (Kd.R_new' (Kd.R_new' (Kd.R_new' (Kd.R_new' ho0 (Kd.R_lt (rq HO365.out))) (Kd.R_lt (rq HO368.out))) (Kd.R_lt (rq HO389.out))) (Kd.R_lt (rq HO392.out))) (below_size bel))
      have HO426 := am (Kd.R_lower (Kd.R_new' (Kd.R_new' (Kd.R_new' (Kd.R_new' ho1 (Kd.R_lt (rq HO365.out))) (Kd.R_lt (rq HO368.out))) (Kd.R_lt (rq HO389.out))) (Kd.R_lt (rq HO392.out))) (below_size bel))
      replace HO365 := am (Kd.R_mono (Kd.R_told (Kd.R_told (Kd.R_old (rq HO365.out) hb) (Kd.R_base ho0)) (Kd.R_base ho1)) (fun _ h_ => h_.1))
      replace HO368 := am (Kd.R_mono (Kd.R_told (Kd.R_told (Kd.R_old (rq HO368.out) hb) (Kd.R_base ho0)) (Kd.R_base ho1)) (fun _ h_ => h_.1))
      replace HO389 := am (Kd.R_mono (Kd.R_told (Kd.R_told (Kd.R_old (rq HO389.out) hb) (Kd.R_base ho0)) (Kd.R_base ho1)) (fun _ h_ => h_.1))
      replace HO392 := am (Kd.R_mono (Kd.R_told (Kd.R_told (Kd.R_old (rq HO392.out) hb) (Kd.R_base ho0)) (Kd.R_base ho1)) (fun _ h_ => h_.1))
      replace BK349 := am (blk_below (blkq BK349.out) hb)
      replace BK350 := am (blk_below (blkq BK350.out) hb)
      replace BK374 := am (blk_below (blkq BK374.out) hb)
      replace BK398 := am (blk_below (blkq BK398.out) hb)
      replace BK443 := am (blk_below (blkq BK443.out) hb)
      replace HB := am (below_step bel hb)
      (try clear hb)
      (try clear ho0)
      (try clear ho1)
      refine hK.out _ _ ⟨(blk_cell BK349.out 0).trans rfl, (blk_cell BK349.out 1).trans rfl, (blk_cell BK349.out 2).trans rfl, (blk_cell BK350.out 0).trans rfl, (blk_cell BK350.out 1).trans rfl, (blk_cell BK350.out 2).trans rfl, (blk_cell BK350.out 3).trans rfl⟩ (fun hHeld => ?_)
      clear hK K
      refine norm_ (a' := ?_) ?_ ?_
      rotate_left
      · show Act.put _ (some 114) _ = _
        simp only [Act.put, List.setIfInBounds_toArray, List.set_cons_zero, List.set_cons_succ, i64_w, i32_w]
        rfl
      refine one_ (i := 5) (N := some 118) #[true, true, true, true, true, true, false, false, false, false, false, true, false, false, false] rfl rfl (one_of HT_.out (by kernel_rfl)) (by decide) (fun K hK => ?_)
      refine goes_ Try.func11 (by kernel_rfl) rfl #[.agg #[.int .i64 a3_0, .int .i64 a3_1, .int .i64 a3_2, .int .i64 a3_3]] (by rfl) rfl rfl (by (try simp only [List.map_toArray, List.map_cons, List.map_nil]); first | done | rfl | (simp only [List.length_drop, List.length_take]; rfl)) ?_
      with_reducible refine (laws_toFrame.calls a3_0 a3_1 a3_2 a3_3 t428 t429 t430 t431 _ A39.out).mono ?_
      rintro e w120 ⟨rfl, hb⟩
      refine ⟨_, rfl, ?_⟩
      replace HO365 := am (Kd.R_below (rq HO365.out) hb)
      replace HO368 := am (Kd.R_below (rq HO368.out) hb)
      replace HO372 := am (Kd.R_below (rq HO372.out) hb)
      replace HO389 := am (Kd.R_below (rq HO389.out) hb)
      replace HO392 := am (Kd.R_below (rq HO392.out) hb)
      replace HO396 := am (Kd.R_below (rq HO396.out) hb)
      replace HO423 := am (Kd.R_below (rq HO423.out) hb)
      replace HO426 := am (Kd.R_below (rq HO426.out) hb)
      replace BK349 := am (blk_below (blkq BK349.out) hb)
      replace BK350 := am (blk_below (blkq BK350.out) hb)
      replace BK374 := am (blk_below (blkq BK374.out) hb)
      replace BK398 := am (blk_below (blkq BK398.out) hb)
      replace BK443 := am (blk_below (blkq BK443.out) hb)
      replace HB := am (below_step bel hb)
      (try clear hb)
      obtain ⟨Ao121, co121, eo121⟩ := Kd.R_slice HO423.out
      (first | subst eo121 | (injection eo121 with f1_ f2_ f3_; have f4_ := f1_.symm; have f5_ := f3_.symm; clear f1_ f2_ f3_; subst f4_; subst f5_))
      obtain ⟨Ao122, co122, eo122⟩ := Kd.R_slice HO426.out
      (first | subst eo122 | (injection eo122 with f1_ f2_ f3_; have f4_ := f1_.symm; have f5_ := f3_.symm; clear f1_ f2_ f3_; subst f4_; subst f5_))
      refine hK.out _ _ ⟨(blk_cell BK349.out 0).trans rfl, (blk_cell BK349.out 1).trans rfl, (blk_cell BK349.out 2).trans rfl, (blk_cell BK350.out 0).trans rfl, (blk_cell BK350.out 1).trans rfl, (blk_cell BK350.out 2).trans rfl, (blk_cell BK350.out 3).trans rfl⟩ (fun hHeld => ?_)
      clear hK K
      refine norm_ (a' := ?_) ?_ ?_
      rotate_left
      · show Act.put _ (some 118) _ = _
        simp only [Act.put, List.setIfInBounds_toArray, List.set_cons_zero, List.set_cons_succ, i64_w, i32_w]
        rfl
      refine one_ (i := 6) (N := some 119) #[true, true, true, true, true, true, true, false, false, false, false, true, false, false, false] rfl rfl (one_of HT_.out (by kernel_rfl)) (by decide) (fun K hK => ?_)
      refine goes_ Try.func12 (by kernel_rfl) rfl #[.agg #[.slice Ao121 t421.length co121, .slice Ao122 t424.length co122, .int .i64 t427], .int .i64 a1, .bool a2, .agg #[.int .i64 t428, .int .i64 t429, .int .i64 t430, .int .i64 t431]] (by rfl) rfl rfl (by (try simp only [List.map_toArray, List.map_cons, List.map_nil]); first | done | rfl | (simp only [List.length_drop, List.length_take]; rfl)) ?_
      with_reducible refine (impl_AddJoin.calls k _ _ t421 _ _ t424 t427 a1 a2 t428 t429 t430 t431 t432 t435 t438 t439 t442 _ ?side1 ?side2 ?side3 ?side4 A40.out).mono ?_
      (case side1 => repeat (first | exact (Kd.R_reads' HO423.out).2.2 | (with_reducible refine Kd.C_alloc ?_ _) | (with_reducible refine Kd.C_drewN ?_ _) | (with_reducible refine Kd.C_drew ?_)))
      (case side2 => exact (Kd.R_reads' HO423.out).2.1)
      (case side3 => repeat (first | exact (Kd.R_reads' HO426.out).2.2 | (with_reducible refine Kd.C_alloc ?_ _) | (with_reducible refine Kd.C_drewN ?_ _) | (with_reducible refine Kd.C_drew ?_)))
      (case side4 => exact (Kd.R_reads' HO426.out).2.1)
      rintro e w123 ⟨v433, v436, v440, rfl, ho0, ho1, ho2, hb⟩
      refine ⟨_, rfl, ?_⟩
      have HO434 := am (Kd.R_lower (Kd.R_new' (Kd.R_new' (Kd.R_new' (Kd.R_new' (Kd.R_new' (Kd.R_new' ho0 (Kd.R_lt (rq HO365.out))) (Kd.R_lt (rq HO368.out))) (Kd.R_lt (rq HO389.out))) (Kd.R_lt (rq HO392.out))) (Kd.R_lt (rq HO423.out))) (Kd.R_lt (rq HO426.out))) (below_size bel))
      have HO437 := am (Kd.R_lower (Kd.R_new' (Kd.R_new' (Kd.R_new' (Kd.R_new' (Kd.R_new' (Kd.R_new' ho1 (Kd.R_lt (rq HO365.out))) (Kd.R_lt (rq HO368.out))) (Kd.R_lt (rq HO389.out))) (Kd.R_lt (rq HO392.out))) (Kd.R_lt (rq HO423.out))) (Kd.R_lt (rq HO426.out))) (below_size bel))
      replace HO365 := am (Kd.R_mono (Kd.R_told (Kd.R_told (Kd.R_old (rq HO365.out) hb) (Kd.R_base ho0)) (Kd.R_base ho1)) (fun _ h_ => h_.1))
      replace HO368 := am (Kd.R_mono (Kd.R_told (Kd.R_told (Kd.R_old (rq HO368.out) hb) (Kd.R_base ho0)) (Kd.R_base ho1)) (fun _ h_ => h_.1))
      replace HO389 := am (Kd.R_mono (Kd.R_told (Kd.R_told (Kd.R_old (rq HO389.out) hb) (Kd.R_base ho0)) (Kd.R_base ho1)) (fun _ h_ => h_.1))
      replace HO392 := am (Kd.R_mono (Kd.R_told (Kd.R_told (Kd.R_old (rq HO392.out) hb) (Kd.R_base ho0)) (Kd.R_base ho1)) (fun _ h_ => h_.1))
      replace HO423 := am (Kd.R_mono (Kd.R_told (Kd.R_told (Kd.R_old (rq HO423.out) hb) (Kd.R_base ho0)) (Kd.R_base ho1)) (fun _ h_ => h_.1))
      replace HO426 := am (Kd.R_mono (Kd.R_told (Kd.R_told (Kd.R_old (rq HO426.out) hb) (Kd.R_base ho0)) (Kd.R_base ho1)) (fun _ h_ => h_.1))
      have HO441 := am (Kd.R_lower (Kd.R_new' (Kd.R_new' ho2 (Kd.R_lt (rq HO372.out))) (Kd.R_lt (rq HO396.out))) (below_size bel))
      replace HO372 := am (Kd.R_elder' (rq HO372.out) (Kd.R_base ho2) hb)
      replace HO396 := am (Kd.R_elder' (rq HO396.out) (Kd.R_base ho2) hb)
      replace BK349 := am (blk_below (blkq BK349.out) hb)
      replace BK350 := am (blk_below (blkq BK350.out) hb)
      replace BK374 := am (blk_below (blkq BK374.out) hb)
      replace BK398 := am (blk_below (blkq BK398.out) hb)
      replace BK443 := am (blk_below (blkq BK443.out) hb)
      replace HB := am (below_step bel hb)
      (try clear hb)
      (try clear ho0)
      (try clear ho1)
      (try clear ho2)
      refine hK.out _ _ ⟨(blk_cell BK349.out 0).trans rfl, (blk_cell BK349.out 1).trans rfl, (blk_cell BK349.out 2).trans rfl, (blk_cell BK350.out 0).trans rfl, (blk_cell BK350.out 1).trans rfl, (blk_cell BK350.out 2).trans rfl, (blk_cell BK350.out 3).trans rfl⟩ (fun hHeld => ?_)
      clear hK K
      refine norm_ (a' := ?_) ?_ ?_
      rotate_left
      · show Act.put _ (some 119) _ = _
        simp only [Act.put, List.setIfInBounds_toArray, List.set_cons_zero, List.set_cons_succ, i64_w, i32_w]
        rfl
      refine pure_ (i := 7) (N := some 112) (v := ?_) (a' := ?_) #[true, true, true, true, true, true, true, true, false, false, false, true, false, false, false] rfl rfl (any_of HT_.out (by kernel_rfl)) (fun _ _ _ h => h) (Or.inl ⟨by rfl, ?_⟩) ?_ ?_
      rotate_left
      · intro w'
        go_simp
        with_reducible rfl
      rotate_left
      · simp only [Act.put, List.setIfInBounds_toArray, List.set_cons_zero, List.set_cons_succ, i64_w, i32_w]
        rfl
      refine pure_ (i := 8) (N := some 120) (v := ?_) (a' := ?_) #[true, true, true, true, true, true, true, true, true, false, false, true, false, false, false] rfl rfl (any_of HT_.out (by kernel_rfl)) (fun _ _ _ h => h) (Or.inl ⟨by rfl, ?_⟩) ?_ ?_
      rotate_left
      · intro w'
        go_simp
        with_reducible rfl
      rotate_left
      · simp only [Act.put, List.setIfInBounds_toArray, List.set_cons_zero, List.set_cons_succ, i64_w, i32_w]
        rfl
      refine pure_ (i := 9) (N := some 121) (v := ?_) (a' := ?_) #[true, true, true, true, true, true, true, true, true, true, false, true, false, false, false] rfl rfl (any_of HT_.out (by kernel_rfl)) (fun _ _ _ h => h) (Or.inl ⟨by rfl, ?_⟩) ?_ ?_
      rotate_left
      · intro w'
        go_simp
        with_reducible rfl
      rotate_left
      · simp only [Act.put, List.setIfInBounds_toArray, List.set_cons_zero, List.set_cons_succ, i64_w, i32_w]
        rfl
      refine pure_ (i := 10) (N := some 122) (v := ?_) (a' := ?_) #[true, true, true, true, true, true, true, true, true, true, true, true, false, false, false] rfl rfl (any_of HT_.out (by kernel_rfl)) (fun _ _ _ h => h) (Or.inl ⟨by rfl, ?_⟩) ?_ ?_
      rotate_left
      · intro w'
        go_simp
        with_reducible rfl
      rotate_left
      · simp only [Act.put, List.setIfInBounds_toArray, List.set_cons_zero, List.set_cons_succ, i64_w, i32_w]
        rfl
      exact norm_ (by simp only [putAll, Act.put, List.setIfInBounds_toArray, List.set_cons_zero, List.set_cons_succ]) (hCont (.slice Ao121 t421.length co121, .slice Ao122 t424.length co122, v433, v436, v440, gb443) _ ⟨hHeld, (by (with_reducible repeat (first | apply Kd.R_alloc | apply Kd.R_drewN | apply Kd.R_drew)); exact Kd.R_mono HO365.out (fun _ hk => ⟨hk.1.1.1.1.1, ⟨hk.1.1.1.1.2.1, ⟨hk.1.1.1.1.2.2, ⟨hk.1.1.1.2, ⟨hk.1.1.2, ⟨hk.1.2, hk.2⟩⟩⟩⟩⟩⟩)), (by (with_reducible repeat (first | apply Kd.R_alloc | apply Kd.R_drewN | apply Kd.R_drew)); exact Kd.R_mono HO368.out (fun _ hk => ⟨hk.1.1.1.1.1, ⟨hk.1.1.1.1.2.1, ⟨hk.1.1.1.1.2.2, ⟨hk.1.1.1.2, ⟨hk.1.1.2, ⟨hk.1.2, hk.2⟩⟩⟩⟩⟩⟩)), (rq HO372.out), (by (with_reducible repeat (first | apply Kd.R_alloc | apply Kd.R_drewN | apply Kd.R_drew)); exact Kd.R_mono HO389.out (fun _ hk => ⟨hk.1.1.1.1.1, ⟨hk.1.1.1.1.2.1, ⟨hk.1.1.1.1.2.2, ⟨hk.1.1.1.2, ⟨hk.1.1.2, ⟨hk.1.2, hk.2⟩⟩⟩⟩⟩⟩)), (by (with_reducible repeat (first | apply Kd.R_alloc | apply Kd.R_drewN | apply Kd.R_drew)); exact Kd.R_mono HO392.out (fun _ hk => ⟨hk.1.1.1.1.1, ⟨hk.1.1.1.1.2.1, ⟨hk.1.1.1.1.2.2, ⟨hk.1.1.1.2, ⟨hk.1.1.2, ⟨hk.1.2, hk.2⟩⟩⟩⟩⟩⟩)), (rq HO396.out), (by (with_reducible repeat (first | apply Kd.R_alloc | apply Kd.R_drewN | apply Kd.R_drew)); exact Kd.R_mono HO423.out (fun _ hk => ⟨hk.1.1.1.1.1.2, ⟨hk.1.1.1.1.2, ⟨hk.1.1.1.2, ⟨hk.1.1.2, ⟨hk.1.1.1.1.1.1, ⟨hk.1.2, hk.2⟩⟩⟩⟩⟩⟩)), (by (with_reducible repeat (first | apply Kd.R_alloc | apply Kd.R_drewN | apply Kd.R_drew)); exact Kd.R_mono HO426.out (fun _ hk => ⟨hk.1.1.1.1.1.2, ⟨hk.1.1.1.1.2, ⟨hk.1.1.1.2, ⟨hk.1.1.2, ⟨hk.1.1.1.1.1.1, ⟨hk.1.2, hk.2⟩⟩⟩⟩⟩⟩)), (by (with_reducible repeat (first | apply Kd.R_alloc | apply Kd.R_drewN | apply Kd.R_drew)); exact Kd.R_mono HO434.out (fun _ hk => ⟨hk.1.1.1.1.1.2, ⟨hk.1.1.1.1.2, ⟨hk.1.1.1.2, ⟨hk.1.1.2, ⟨hk.1.2, ⟨hk.2, hk.1.1.1.1.1.1⟩⟩⟩⟩⟩⟩)), (by (with_reducible repeat (first | apply Kd.R_alloc | apply Kd.R_drewN | apply Kd.R_drew)); exact Kd.R_mono HO437.out (fun _ hk => ⟨hk.1.1.1.1.1.2, ⟨hk.1.1.1.1.2, ⟨hk.1.1.1.2, ⟨hk.1.1.2, ⟨hk.1.2, ⟨hk.2, hk.1.1.1.1.1.1⟩⟩⟩⟩⟩⟩)), (by (with_reducible repeat (first | apply Kd.R_alloc | apply Kd.R_drewN | apply Kd.R_drew)); exact Kd.R_mono HO441.out (fun _ hk => ⟨hk.1.2, hk.2⟩)), (blkq BK349.out), (blkq BK350.out), (blkq BK374.out), (blkq BK398.out), (blkq BK443.out), GW443.out, GE443.out, NB349_443.out, NB443_349.out, NB350_443.out, NB443_350.out, NB374_443.out, NB443_374.out, NB398_443.out, NB443_398.out, bel⟩)
  rintro ⟨v422, v425, v433, v436, v440, gb443⟩ w124 ⟨hS_, h0_, h1_, h2_, h3_, h4_, h5_, h6_, h7_, h8_, h9_, h10_, h11_, h12_, h13_, h14_, h15_, h16_, h17_, h18_, h19_, h20_, h21_, h22_, h23_, h24_, h25_, h26_⟩
  have n0_ : Aside0 (Kd.R k35 35 w124 w.heap.size (fun k_ => nb k_ (sv Ao66 t366 co66) ∧ nb k_ (sv Ao85 t387 co85) ∧ nb k_ (sv Ao87 t390 co87) ∧ nb k_ v422 ∧ nb k_ v425 ∧ nb k_ v433 ∧ nb k_ v436) (.slice Ao64 t363.length co64) t363) := ⟨h0_⟩
  have n1_ : Aside0 (Kd.R k35 35 w124 w.heap.size (fun k_ => nb k_ (sv Ao64 t363 co64) ∧ nb k_ (sv Ao85 t387 co85) ∧ nb k_ (sv Ao87 t390 co87) ∧ nb k_ v422 ∧ nb k_ v425 ∧ nb k_ v433 ∧ nb k_ v436) (.slice Ao66 t366.length co66) t366) := ⟨h1_⟩
  have n2_ : Aside0 (Kd.R k75 75 w124 w.heap.size (fun k_ => nb k_ (sv Ao98 t394 co98) ∧ nb k_ v440) (.slice Ao99 t370.length co99) t370) := ⟨h2_⟩
  have n3_ : Aside0 (Kd.R k35 35 w124 w.heap.size (fun k_ => nb k_ (sv Ao64 t363 co64) ∧ nb k_ (sv Ao66 t366 co66) ∧ nb k_ (sv Ao87 t390 co87) ∧ nb k_ v422 ∧ nb k_ v425 ∧ nb k_ v433 ∧ nb k_ v436) (.slice Ao85 t387.length co85) t415) := ⟨h3_⟩
  have n4_ : Aside0 (Kd.R k35 35 w124 w.heap.size (fun k_ => nb k_ (sv Ao64 t363 co64) ∧ nb k_ (sv Ao66 t366 co66) ∧ nb k_ (sv Ao85 t387 co85) ∧ nb k_ v422 ∧ nb k_ v425 ∧ nb k_ v433 ∧ nb k_ v436) (.slice Ao87 t390.length co87) t416) := ⟨h4_⟩
  have n5_ : Aside0 (Kd.R k75 75 w124 w.heap.size (fun k_ => nb k_ (sv Ao99 t370 co99) ∧ nb k_ v440) (.slice Ao98 t394.length co98) t418) := ⟨h5_⟩
  have n6_ : Aside0 (Kd.R k35 35 w124 w.heap.size (fun k_ => nb k_ (sv Ao64 t363 co64) ∧ nb k_ (sv Ao66 t366 co66) ∧ nb k_ (sv Ao85 t387 co85) ∧ nb k_ (sv Ao87 t390 co87) ∧ nb k_ v425 ∧ nb k_ v433 ∧ nb k_ v436) v422 t421) := ⟨h6_⟩
  have n7_ : Aside0 (Kd.R k35 35 w124 w.heap.size (fun k_ => nb k_ (sv Ao64 t363 co64) ∧ nb k_ (sv Ao66 t366 co66) ∧ nb k_ (sv Ao85 t387 co85) ∧ nb k_ (sv Ao87 t390 co87) ∧ nb k_ v422 ∧ nb k_ v433 ∧ nb k_ v436) v425 t424) := ⟨h7_⟩
  have n8_ : Aside0 (Kd.R k35 35 w124 w.heap.size (fun k_ => nb k_ (sv Ao64 t363 co64) ∧ nb k_ (sv Ao66 t366 co66) ∧ nb k_ (sv Ao85 t387 co85) ∧ nb k_ (sv Ao87 t390 co87) ∧ nb k_ v422 ∧ nb k_ v425 ∧ nb k_ v436) v433 t432) := ⟨h8_⟩
  have n9_ : Aside0 (Kd.R k35 35 w124 w.heap.size (fun k_ => nb k_ (sv Ao64 t363 co64) ∧ nb k_ (sv Ao66 t366 co66) ∧ nb k_ (sv Ao85 t387 co85) ∧ nb k_ (sv Ao87 t390 co87) ∧ nb k_ v422 ∧ nb k_ v425 ∧ nb k_ v433) v436 t435) := ⟨h9_⟩
  have n10_ : Aside0 (Kd.R k75 75 w124 w.heap.size (fun k_ => nb k_ (sv Ao99 t370 co99) ∧ nb k_ (sv Ao98 t394 co98)) v440 t439) := ⟨h10_⟩
  have n11_ : Aside0 (w124.heap[gb349]? = some (.cells #[.slice A0_0 l0_0.length c0_0, .slice A0_1 l0_1.length c0_1, .int .i64 a0_2] 24 (0, 0))) := ⟨h11_⟩
  have n12_ : Aside0 (w124.heap[gb350]? = some (.cells #[.int .i64 a3_0, .int .i64 a3_1, .int .i64 a3_2, .int .i64 a3_3] 26 (0, 0))) := ⟨h12_⟩
  have n13_ : Aside0 (w124.heap[gb374]? = some (.cells #[.slice Ao64 t363.length co64, .slice Ao66 t366.length co66, .int .i64 t369] 30 (0, 0))) := ⟨h13_⟩
  have n14_ : Aside0 (w124.heap[gb398]? = some (.cells #[.slice Ao85 t387.length co85, .slice Ao87 t390.length co87, .int .i64 t393] 30 (0, 0))) := ⟨h14_⟩
  have n15_ : Aside0 (w124.heap[gb443]? = some (.cells #[.slice none 0 0, .slice none 0 0, .int .i64 0] 30 (0, 0))) := ⟨h15_⟩
  have n16_ : Aside0 (w.heap.size ≤ gb443) := ⟨h16_⟩
  have n17_ : Aside0 (w.heap.size ≤ gb443) := ⟨h17_⟩
  have n18_ : Aside0 (gb349 ≠ gb443) := ⟨h18_⟩
  have n19_ : Aside0 (gb443 ≠ gb349) := ⟨h19_⟩
  have n20_ : Aside0 (gb350 ≠ gb443) := ⟨h20_⟩
  have n21_ : Aside0 (gb443 ≠ gb350) := ⟨h21_⟩
  have n22_ : Aside0 (gb374 ≠ gb443) := ⟨h22_⟩
  have n23_ : Aside0 (gb443 ≠ gb374) := ⟨h23_⟩
  have n24_ : Aside0 (gb398 ≠ gb443) := ⟨h24_⟩
  have n25_ : Aside0 (gb443 ≠ gb398) := ⟨h25_⟩
  have n26_ : Aside0 (Below w.heap.size w w124) := ⟨h26_⟩
  clear HO365 HO368 HO372 HO389 HO392 HO396 BK349 BK350 BK374 BK398 HB h0_ h1_ h2_ h3_ h4_ h5_ h6_ h7_ h8_ h9_ h10_ h11_ h12_ h13_ h14_ h15_ h16_ h17_ h18_ h19_ h20_ h21_ h22_ h23_ h24_ h25_ h26_
  have HO365 := n0_
  have HO368 := n1_
  have HO372 := n2_
  have HO389 := n3_
  have HO392 := n4_
  have HO396 := n5_
  have HO423 := n6_
  have HO426 := n7_
  have HO434 := n8_
  have HO437 := n9_
  have HO441 := n10_
  have BK349 := n11_
  have BK350 := n12_
  have BK374 := n13_
  have BK398 := n14_
  have BK443 := n15_
  have GW443 := n16_
  have GE443 := n17_
  have NB349_443 := n18_
  have NB443_349 := n19_
  have NB350_443 := n20_
  have NB443_350 := n21_
  have NB374_443 := n22_
  have NB443_374 := n23_
  have NB398_443 := n24_
  have NB443_398 := n25_
  have HB := n26_
  clear n0_ n1_ n2_ n3_ n4_ n5_ n6_ n7_ n8_ n9_ n10_ n11_ n12_ n13_ n14_ n15_ n16_ n17_ n18_ n19_ n20_ n21_ n22_ n23_ n24_ n25_ n26_
  have hHeld : w124.cell? ⟨gb349, 0, none⟩ = some (.slice A0_0 l0_0.length c0_0) ∧ w124.cell? ⟨gb349, 1, none⟩ = some (.slice A0_1 l0_1.length c0_1) ∧ w124.cell? ⟨gb349, 2, none⟩ = some (.int .i64 a0_2) ∧ w124.cell? ⟨gb350, 0, none⟩ = some (.int .i64 a3_0) ∧ w124.cell? ⟨gb350, 1, none⟩ = some (.int .i64 a3_1) ∧ w124.cell? ⟨gb350, 2, none⟩ = some (.int .i64 a3_2) ∧ w124.cell? ⟨gb350, 3, none⟩ = some (.int .i64 a3_3) := hS_
  obtain ⟨Ao125, co125, eo125⟩ := Kd.R_slice HO434.out
  (first | subst eo125 | (injection eo125 with f1_ f2_ f3_; have f4_ := f1_.symm; have f5_ := f3_.symm; clear f1_ f2_ f3_; subst f4_; subst f5_))
  obtain ⟨Ao127, co127, eo127⟩ := Kd.R_slice HO437.out
  (first | subst eo127 | (injection eo127 with f1_ f2_ f3_; have f4_ := f1_.symm; have f5_ := f3_.symm; clear f1_ f2_ f3_; subst f4_; subst f5_))
  refine norm_ (a' := ?_) ?_ ?_
  rotate_left
  · simp only [putAll, Act.put, List.setIfInBounds_toArray, List.set_cons_zero, List.set_cons_succ]
    rfl
  refine one_ (i := 12) (N := none) #[true, true, true, true, true, true, true, true, true, true, true, true, true, false, false] rfl rfl (one_of HT_.out (by kernel_rfl)) (by decide) (fun K hK => ?_)
  have hs126 : w124.cell? ⟨gb443, 0, none⟩ = some (.slice none 0 0) := (blk_cell BK443.out 0).trans rfl
  have hfs126 := blk_frozen BK443.out 0
  have hns126_0 := NB349_443.out
  have hns126_1 := NB350_443.out
  have hns126_2 := NB374_443.out
  have hns126_3 := NB398_443.out
  have hms126_0 := NB443_349.out
  have hms126_1 := NB443_350.out
  have hms126_2 := NB443_374.out
  have hms126_3 := NB443_398.out
  have hs128 : w124.cell? ⟨gb443, 1, none⟩ = some (.slice none 0 0) := (blk_cell BK443.out 1).trans rfl
  have hfs128 := blk_frozen BK443.out 1
  have hns128_0 := NB349_443.out
  have hns128_1 := NB350_443.out
  have hns128_2 := NB374_443.out
  have hns128_3 := NB398_443.out
  have hms128_0 := NB443_349.out
  have hms128_1 := NB443_350.out
  have hms128_2 := NB443_374.out
  have hms128_3 := NB443_398.out
  have hs129 : w124.cell? ⟨gb443, 2, none⟩ = some (.int .i64 0) := (blk_cell BK443.out 2).trans rfl
  have hfs129 := blk_frozen BK443.out 2
  have hns129_0 := NB349_443.out
  have hns129_1 := NB350_443.out
  have hns129_2 := NB374_443.out
  have hns129_3 := NB398_443.out
  have hms129_0 := NB443_349.out
  have hms129_1 := NB443_350.out
  have hms129_2 := NB443_374.out
  have hms129_3 := NB443_398.out
  refine skip_ (w1 := ?_) (by rfl) rfl ?_ ?_
  rotate_left
  · go_simp
    rfl
  refine hK.out _ _ ⟨((cell_far (p := ⟨gb443, _, none⟩) NB349_443.out _).trans (((cell_far (p := ⟨gb443, _, none⟩) NB349_443.out _).trans (((cell_far (p := ⟨gb443, _, none⟩) NB349_443.out _).trans (hHeld.1)))))), ((cell_far (p := ⟨gb443, _, none⟩) NB349_443.out _).trans (((cell_far (p := ⟨gb443, _, none⟩) NB349_443.out _).trans (((cell_far (p := ⟨gb443, _, none⟩) NB349_443.out _).trans (hHeld.2.1)))))), ((cell_far (p := ⟨gb443, _, none⟩) NB349_443.out _).trans (((cell_far (p := ⟨gb443, _, none⟩) NB349_443.out _).trans (((cell_far (p := ⟨gb443, _, none⟩) NB349_443.out _).trans (hHeld.2.2.1)))))), ((cell_far (p := ⟨gb443, _, none⟩) NB350_443.out _).trans (((cell_far (p := ⟨gb443, _, none⟩) NB350_443.out _).trans (((cell_far (p := ⟨gb443, _, none⟩) NB350_443.out _).trans (hHeld.2.2.2.1)))))), ((cell_far (p := ⟨gb443, _, none⟩) NB350_443.out _).trans (((cell_far (p := ⟨gb443, _, none⟩) NB350_443.out _).trans (((cell_far (p := ⟨gb443, _, none⟩) NB350_443.out _).trans (hHeld.2.2.2.2.1)))))), ((cell_far (p := ⟨gb443, _, none⟩) NB350_443.out _).trans (((cell_far (p := ⟨gb443, _, none⟩) NB350_443.out _).trans (((cell_far (p := ⟨gb443, _, none⟩) NB350_443.out _).trans (hHeld.2.2.2.2.2.1)))))), ((cell_far (p := ⟨gb443, _, none⟩) NB350_443.out _).trans (((cell_far (p := ⟨gb443, _, none⟩) NB350_443.out _).trans (((cell_far (p := ⟨gb443, _, none⟩) NB350_443.out _).trans (hHeld.2.2.2.2.2.2))))))⟩ (fun hHeld => ?_)
  clear hK K
  refine pure_ (i := 13) (N := some 21) (v := ?_) (a' := ?_) #[true, true, true, true, true, true, true, true, true, true, true, true, true, true, false] rfl rfl (any_of HT_.out (by kernel_rfl)) (fun _ _ _ h => h) (Or.inl ⟨by rfl, ?_⟩) ?_ ?_
  rotate_left
  · intro w'
    go_simp
    with_reducible rfl
  rotate_left
  · simp only [Act.put, List.setIfInBounds_toArray, List.set_cons_zero, List.set_cons_succ, i64_w, i32_w]
    rfl
  refine pure_ (i := 14) (N := some 22) (v := ?_) (a' := ?_) #[true, true, true, true, true, true, true, true, true, true, true, true, true, true, true] rfl rfl (any_of HT_.out (by kernel_rfl)) (fun _ _ _ h => h) (Or.inl ⟨by rfl, ?_⟩) ?_ ?_
  rotate_left
  · intro w'
    go_simp
    with_reducible rfl
  rotate_left
  · simp only [Act.put, List.setIfInBounds_toArray, List.set_cons_zero, List.set_cons_succ, i64_w, i32_w]
    rfl
  refine done_ (done_of HT_.out (by kernel_rfl)) ?_
  have hnb130 := NB443_349.out
  have hnc130 := NB349_443.out
  have hnb131 := NB443_350.out
  have hnc131 := NB350_443.out
  have hnb132 := NB443_374.out
  have hnc132 := NB374_443.out
  have hnb133 := NB443_398.out
  have hnc133 := NB398_443.out
  have hcz134_0 : w124.cell? ⟨gb443, 0, none⟩ = some (.slice none 0 0) := (blk_cell BK443.out 0).trans rfl
  have hcz134_1 : w124.cell? ⟨gb443, 1, none⟩ = some (.slice none 0 0) := (blk_cell BK443.out 1).trans rfl
  have hcz134_2 : w124.cell? ⟨gb443, 2, none⟩ = some (.int .i64 0) := (blk_cell BK443.out 2).trans rfl
  have hfz134_0 := blk_frozen BK443.out 0
  have hfz134_1 := blk_frozen BK443.out 1
  have hfz134_2 := blk_frozen BK443.out 2
  have hcz135_0 : w124.cell? ⟨gb374, 0, none⟩ = some (.slice Ao64 t363.length co64) := (blk_cell BK374.out 0).trans rfl
  have hcz135_1 : w124.cell? ⟨gb374, 1, none⟩ = some (.slice Ao66 t366.length co66) := (blk_cell BK374.out 1).trans rfl
  have hcz135_2 : w124.cell? ⟨gb374, 2, none⟩ = some (.int .i64 t369) := (blk_cell BK374.out 2).trans rfl
  have hfz135_0 := blk_frozen BK374.out 0
  have hfz135_1 := blk_frozen BK374.out 1
  have hfz135_2 := blk_frozen BK374.out 2
  try go_wp2_with (first | ((with_reducible refine gate_callee (f := 13) rfl ?_); refine goesL1 125 Try.func13 #[.agg #[.slice Ao125 t432.length co125, .slice Ao127 t435.length co127, .int .i64 t438], .agg #[.slice Ao64 t363.length co64, .slice Ao66 t366.length co66, .int .i64 t369]] ?_; (with_reducible refine (laws_eqJoin.calls k _ _ t432 _ _ t435 t438 _ _ t363 _ _ t366 t369 true _ ?side1 ?side2 ?side3 ?side4 ?side5 ?side6 ?side7 ?side8 A41.out).mono ?_); (case side1 => refine (Kd.R_reads' (e := 35) (base := w.heap.size) (ok := fun k_ => (nb k_ (sv Ao64 t363 co64) ∧ (nb k_ (sv Ao66 t366 co66) ∧ (nb k_ (sv Ao85 t387 co85) ∧ (nb k_ (sv Ao87 t390 co87) ∧ (nb k_ v422 ∧ (nb k_ v425 ∧ nb k_ (sv Ao127 t435 co127)))))))) (n := t432.length) (c := co125) ?_).2.2; exact (by (with_reducible repeat (first | apply Kd.R_alloc | apply Kd.R_drewN | apply Kd.R_drew)); exact (Kd.R_mono (Kd.R_far (p := ⟨gb443, 2, none⟩) (Kd.R_far (p := ⟨gb443, 1, none⟩) (Kd.R_far (p := ⟨gb443, 0, none⟩) (Kd.R_types HO434.out BK443.out (by decide)) (fun _ hk => hk.2) (.slice Ao125 t432.length co125)) (fun _ hk => hk.2) (.slice Ao127 t435.length co127)) (fun _ hk => hk.2) (.int .i64 t438)) (fun _ h_ => h_.1)))); (case side2 => exact (Kd.R_reads' HO434.out).2.1); (case side3 => refine (Kd.R_reads' (e := 35) (base := w.heap.size) (ok := fun k_ => (nb k_ (sv Ao64 t363 co64) ∧ (nb k_ (sv Ao66 t366 co66) ∧ (nb k_ (sv Ao85 t387 co85) ∧ (nb k_ (sv Ao87 t390 co87) ∧ (nb k_ v422 ∧ (nb k_ v425 ∧ nb k_ (sv Ao125 t432 co125)))))))) (n := t435.length) (c := co127) ?_).2.2; exact (by (with_reducible repeat (first | apply Kd.R_alloc | apply Kd.R_drewN | apply Kd.R_drew)); exact (Kd.R_mono (Kd.R_far (p := ⟨gb443, 2, none⟩) (Kd.R_far (p := ⟨gb443, 1, none⟩) (Kd.R_far (p := ⟨gb443, 0, none⟩) (Kd.R_types HO437.out BK443.out (by decide)) (fun _ hk => hk.2) (.slice Ao125 t432.length co125)) (fun _ hk => hk.2) (.slice Ao127 t435.length co127)) (fun _ hk => hk.2) (.int .i64 t438)) (fun _ h_ => h_.1)))); (case side4 => exact (Kd.R_reads' HO437.out).2.1); (case side5 => refine (Kd.R_reads' (e := 35) (base := w.heap.size) (ok := fun k_ => (nb k_ (sv Ao66 t366 co66) ∧ (nb k_ (sv Ao85 t387 co85) ∧ (nb k_ (sv Ao87 t390 co87) ∧ (nb k_ v422 ∧ (nb k_ v425 ∧ (nb k_ (sv Ao125 t432 co125) ∧ nb k_ (sv Ao127 t435 co127)))))))) (n := t363.length) (c := co64) ?_).2.2; exact (by (with_reducible repeat (first | apply Kd.R_alloc | apply Kd.R_drewN | apply Kd.R_drew)); exact (Kd.R_mono (Kd.R_far (p := ⟨gb443, 2, none⟩) (Kd.R_far (p := ⟨gb443, 1, none⟩) (Kd.R_far (p := ⟨gb443, 0, none⟩) (Kd.R_types HO365.out BK443.out (by decide)) (fun _ hk => hk.2) (.slice Ao125 t432.length co125)) (fun _ hk => hk.2) (.slice Ao127 t435.length co127)) (fun _ hk => hk.2) (.int .i64 t438)) (fun _ h_ => h_.1)))); (case side6 => exact (Kd.R_reads' HO365.out).2.1); (case side7 => refine (Kd.R_reads' (e := 35) (base := w.heap.size) (ok := fun k_ => (nb k_ (sv Ao64 t363 co64) ∧ (nb k_ (sv Ao85 t387 co85) ∧ (nb k_ (sv Ao87 t390 co87) ∧ (nb k_ v422 ∧ (nb k_ v425 ∧ (nb k_ (sv Ao125 t432 co125) ∧ nb k_ (sv Ao127 t435 co127)))))))) (n := t366.length) (c := co66) ?_).2.2; exact (by (with_reducible repeat (first | apply Kd.R_alloc | apply Kd.R_drewN | apply Kd.R_drew)); exact (Kd.R_mono (Kd.R_far (p := ⟨gb443, 2, none⟩) (Kd.R_far (p := ⟨gb443, 1, none⟩) (Kd.R_far (p := ⟨gb443, 0, none⟩) (Kd.R_types HO368.out BK443.out (by decide)) (fun _ hk => hk.2) (.slice Ao125 t432.length co125)) (fun _ hk => hk.2) (.slice Ao127 t435.length co127)) (fun _ hk => hk.2) (.int .i64 t438)) (fun _ h_ => h_.1)))); (case side8 => exact (Kd.R_reads' HO368.out).2.1); rintro e w136 ⟨rfl, hb⟩; refine ⟨_, rfl, ?_⟩; replace HO365 := am (Kd.R_below (by (with_reducible repeat (first | apply Kd.R_alloc | apply Kd.R_drewN | apply Kd.R_drew)); exact (Kd.R_mono (Kd.R_far (p := ⟨gb443, 2, none⟩) (Kd.R_far (p := ⟨gb443, 1, none⟩) (Kd.R_far (p := ⟨gb443, 0, none⟩) (Kd.R_types HO365.out BK443.out (by decide)) (fun _ hk => hk.2) (.slice Ao125 t432.length co125)) (fun _ hk => hk.2) (.slice Ao127 t435.length co127)) (fun _ hk => hk.2) (.int .i64 t438)) (fun _ h_ => h_.1))) hb); replace HO368 := am (Kd.R_below (by (with_reducible repeat (first | apply Kd.R_alloc | apply Kd.R_drewN | apply Kd.R_drew)); exact (Kd.R_mono (Kd.R_far (p := ⟨gb443, 2, none⟩) (Kd.R_far (p := ⟨gb443, 1, none⟩) (Kd.R_far (p := ⟨gb443, 0, none⟩) (Kd.R_types HO368.out BK443.out (by decide)) (fun _ hk => hk.2) (.slice Ao125 t432.length co125)) (fun _ hk => hk.2) (.slice Ao127 t435.length co127)) (fun _ hk => hk.2) (.int .i64 t438)) (fun _ h_ => h_.1))) hb); replace HO372 := am (Kd.R_below (by (with_reducible repeat (first | apply Kd.R_alloc | apply Kd.R_drewN | apply Kd.R_drew)); exact (Kd.R_mono (Kd.R_far (p := ⟨gb443, 2, none⟩) (Kd.R_far (p := ⟨gb443, 1, none⟩) (Kd.R_far (p := ⟨gb443, 0, none⟩) (Kd.R_types HO372.out BK443.out (by decide)) (fun _ hk => hk.2) (.slice Ao125 t432.length co125)) (fun _ hk => hk.2) (.slice Ao127 t435.length co127)) (fun _ hk => hk.2) (.int .i64 t438)) (fun _ h_ => h_.1))) hb); replace HO389 := am (Kd.R_below (by (with_reducible repeat (first | apply Kd.R_alloc | apply Kd.R_drewN | apply Kd.R_drew)); exact (Kd.R_mono (Kd.R_far (p := ⟨gb443, 2, none⟩) (Kd.R_far (p := ⟨gb443, 1, none⟩) (Kd.R_far (p := ⟨gb443, 0, none⟩) (Kd.R_types HO389.out BK443.out (by decide)) (fun _ hk => hk.2) (.slice Ao125 t432.length co125)) (fun _ hk => hk.2) (.slice Ao127 t435.length co127)) (fun _ hk => hk.2) (.int .i64 t438)) (fun _ h_ => h_.1))) hb); replace HO392 := am (Kd.R_below (by (with_reducible repeat (first | apply Kd.R_alloc | apply Kd.R_drewN | apply Kd.R_drew)); exact (Kd.R_mono (Kd.R_far (p := ⟨gb443, 2, none⟩) (Kd.R_far (p := ⟨gb443, 1, none⟩) (Kd.R_far (p := ⟨gb443, 0, none⟩) (Kd.R_types HO392.out BK443.out (by decide)) (fun _ hk => hk.2) (.slice Ao125 t432.length co125)) (fun _ hk => hk.2) (.slice Ao127 t435.length co127)) (fun _ hk => hk.2) (.int .i64 t438)) (fun _ h_ => h_.1))) hb); replace HO396 := am (Kd.R_below (by (with_reducible repeat (first | apply Kd.R_alloc | apply Kd.R_drewN | apply Kd.R_drew)); exact (Kd.R_mono (Kd.R_far (p := ⟨gb443, 2, none⟩) (Kd.R_far (p := ⟨gb443, 1, none⟩) (Kd.R_far (p := ⟨gb443, 0, none⟩) (Kd.R_types HO396.out BK443.out (by decide)) (fun _ hk => hk.2) (.slice Ao125 t432.length co125)) (fun _ hk => hk.2) (.slice Ao127 t435.length co127)) (fun _ hk => hk.2) (.int .i64 t438)) (fun _ h_ => h_.1))) hb); replace HO423 := am (Kd.R_below (by (with_reducible repeat (first | apply Kd.R_alloc | apply Kd.R_drewN | apply Kd.R_drew)); exact (Kd.R_mono (Kd.R_far (p := ⟨gb443, 2, none⟩) (Kd.R_far (p := ⟨gb443, 1, none⟩) (Kd.R_far (p := ⟨gb443, 0, none⟩) (Kd.R_types HO423.out BK443.out (by decide)) (fun _ hk => hk.2) (.slice Ao125 t432.length co125)) (fun _ hk => hk.2) (.slice Ao127 t435.length co127)) (fun _ hk => hk.2) (.int .i64 t438)) (fun _ h_ => h_.1))) hb); replace HO426 := am (Kd.R_below (by (with_reducible repeat (first | apply Kd.R_alloc | apply Kd.R_drewN | apply Kd.R_drew)); exact (Kd.R_mono (Kd.R_far (p := ⟨gb443, 2, none⟩) (Kd.R_far (p := ⟨gb443, 1, none⟩) (Kd.R_far (p := ⟨gb443, 0, none⟩) (Kd.R_types HO426.out BK443.out (by decide)) (fun _ hk => hk.2) (.slice Ao125 t432.length co125)) (fun _ hk => hk.2) (.slice Ao127 t435.length co127)) (fun _ hk => hk.2) (.int .i64 t438)) (fun _ h_ => h_.1))) hb); replace HO434 := am (Kd.R_below (by (with_reducible repeat (first | apply Kd.R_alloc | apply Kd.R_drewN | apply Kd.R_drew)); exact (Kd.R_mono (Kd.R_far (p := ⟨gb443, 2, none⟩) (Kd.R_far (p := ⟨gb443, 1, none⟩) (Kd.R_far (p := ⟨gb443, 0, none⟩) (Kd.R_types HO434.out BK443.out (by decide)) (fun _ hk => hk.2) (.slice Ao125 t432.length co125)) (fun _ hk => hk.2) (.slice Ao127 t435.length co127)) (fun _ hk => hk.2) (.int .i64 t438)) (fun _ h_ => h_.1))) hb); replace HO437 := am (Kd.R_below (by (with_reducible repeat (first | apply Kd.R_alloc | apply Kd.R_drewN | apply Kd.R_drew)); exact (Kd.R_mono (Kd.R_far (p := ⟨gb443, 2, none⟩) (Kd.R_far (p := ⟨gb443, 1, none⟩) (Kd.R_far (p := ⟨gb443, 0, none⟩) (Kd.R_types HO437.out BK443.out (by decide)) (fun _ hk => hk.2) (.slice Ao125 t432.length co125)) (fun _ hk => hk.2) (.slice Ao127 t435.length co127)) (fun _ hk => hk.2) (.int .i64 t438)) (fun _ h_ => h_.1))) hb); replace HO441 := am (Kd.R_below (by (with_reducible repeat (first | apply Kd.R_alloc | apply Kd.R_drewN | apply Kd.R_drew)); exact (Kd.R_mono (Kd.R_far (p := ⟨gb443, 2, none⟩) (Kd.R_far (p := ⟨gb443, 1, none⟩) (Kd.R_far (p := ⟨gb443, 0, none⟩) (Kd.R_types HO441.out BK443.out (by decide)) (fun _ hk => hk.2) (.slice Ao125 t432.length co125)) (fun _ hk => hk.2) (.slice Ao127 t435.length co127)) (fun _ hk => hk.2) (.int .i64 t438)) (fun _ h_ => h_.1))) hb); replace BK349 := am (blk_below (g := gb349) (o := .cells #[.slice A0_0 l0_0.length c0_0, .slice A0_1 l0_1.length c0_1, .int .i64 a0_2] 24 (0, 0)) (by (with_reducible repeat (first | refine blk_drewN ?_ _ | refine blk_drew ?_ | refine blk_alloc ?_ _)); refine blk_far ?_ NB349_443.out _; (with_reducible repeat (first | refine blk_drewN ?_ _ | refine blk_drew ?_ | refine blk_alloc ?_ _)); refine blk_far ?_ NB349_443.out _; (with_reducible repeat (first | refine blk_drewN ?_ _ | refine blk_drew ?_ | refine blk_alloc ?_ _)); refine blk_far ?_ NB349_443.out _; (with_reducible repeat (first | refine blk_drewN ?_ _ | refine blk_drew ?_ | refine blk_alloc ?_ _)); exact BK349.out) hb); replace BK350 := am (blk_below (g := gb350) (o := .cells #[.int .i64 a3_0, .int .i64 a3_1, .int .i64 a3_2, .int .i64 a3_3] 26 (0, 0)) (by (with_reducible repeat (first | refine blk_drewN ?_ _ | refine blk_drew ?_ | refine blk_alloc ?_ _)); refine blk_far ?_ NB350_443.out _; (with_reducible repeat (first | refine blk_drewN ?_ _ | refine blk_drew ?_ | refine blk_alloc ?_ _)); refine blk_far ?_ NB350_443.out _; (with_reducible repeat (first | refine blk_drewN ?_ _ | refine blk_drew ?_ | refine blk_alloc ?_ _)); refine blk_far ?_ NB350_443.out _; (with_reducible repeat (first | refine blk_drewN ?_ _ | refine blk_drew ?_ | refine blk_alloc ?_ _)); exact BK350.out) hb); replace BK374 := am (blk_below (g := gb374) (o := .cells #[.slice Ao64 t363.length co64, .slice Ao66 t366.length co66, .int .i64 t369] 30 (0, 0)) (by (with_reducible repeat (first | refine blk_drewN ?_ _ | refine blk_drew ?_ | refine blk_alloc ?_ _)); refine blk_far ?_ NB374_443.out _; (with_reducible repeat (first | refine blk_drewN ?_ _ | refine blk_drew ?_ | refine blk_alloc ?_ _)); refine blk_far ?_ NB374_443.out _; (with_reducible repeat (first | refine blk_drewN ?_ _ | refine blk_drew ?_ | refine blk_alloc ?_ _)); refine blk_far ?_ NB374_443.out _; (with_reducible repeat (first | refine blk_drewN ?_ _ | refine blk_drew ?_ | refine blk_alloc ?_ _)); exact BK374.out) hb); replace BK398 := am (blk_below (g := gb398) (o := .cells #[.slice Ao85 t387.length co85, .slice Ao87 t390.length co87, .int .i64 t393] 30 (0, 0)) (by (with_reducible repeat (first | refine blk_drewN ?_ _ | refine blk_drew ?_ | refine blk_alloc ?_ _)); refine blk_far ?_ NB398_443.out _; (with_reducible repeat (first | refine blk_drewN ?_ _ | refine blk_drew ?_ | refine blk_alloc ?_ _)); refine blk_far ?_ NB398_443.out _; (with_reducible repeat (first | refine blk_drewN ?_ _ | refine blk_drew ?_ | refine blk_alloc ?_ _)); refine blk_far ?_ NB398_443.out _; (with_reducible repeat (first | refine blk_drewN ?_ _ | refine blk_drew ?_ | refine blk_alloc ?_ _)); exact BK398.out) hb); replace BK443 := am (blk_below (g := gb443) (o := .cells #[.slice Ao125 t432.length co125, .slice Ao127 t435.length co127, .int .i64 t438] 30 (0, 0)) (by (with_reducible repeat (first | refine blk_drewN ?_ _ | refine blk_drew ?_ | refine blk_alloc ?_ _)); refine blk_put (cs := #[.slice Ao125 t432.length co125, .slice Ao127 t435.length co127, .int .i64 0]) ?_ 2 _ rfl; (with_reducible repeat (first | refine blk_drewN ?_ _ | refine blk_drew ?_ | refine blk_alloc ?_ _)); refine blk_put (cs := #[.slice Ao125 t432.length co125, .slice none 0 0, .int .i64 0]) ?_ 1 _ rfl; (with_reducible repeat (first | refine blk_drewN ?_ _ | refine blk_drew ?_ | refine blk_alloc ?_ _)); refine blk_put (cs := #[.slice none 0 0, .slice none 0 0, .int .i64 0]) ?_ 0 _ rfl; (with_reducible repeat (first | refine blk_drewN ?_ _ | refine blk_drew ?_ | refine blk_alloc ?_ _)); exact BK443.out) hb); replace HB := am (below_step bel hb); (try clear hb); obtain ⟨Ao137, co137, eo137⟩ := Kd.R_slice HO441.out; subst eo137) | (go_at_call 14; (with_reducible refine (laws_eqPairS.calls k _ _ t439 _ _ t370 true _ ?side1 ?side2 ?side3 ?side4 A43.out).mono ?_); (case side1 => repeat (first | exact (Kd.R_reads' HO441.out).2.2 | (with_reducible refine Kd.C_alloc ?_ _) | (with_reducible refine Kd.C_drewN ?_ _) | (with_reducible refine Kd.C_drew ?_))); (case side2 => exact (Kd.R_reads' HO441.out).2.1); (case side3 => repeat (first | exact (Kd.R_reads' HO372.out).2.2 | (with_reducible refine Kd.C_alloc ?_ _) | (with_reducible refine Kd.C_drewN ?_ _) | (with_reducible refine Kd.C_drew ?_))); (case side4 => exact (Kd.R_reads' HO372.out).2.1); rintro e w138 ⟨rfl, hb⟩; have n0_ := am (Kd.R_below (rq HO372.out) hb); have n1_ := am (Kd.R_below (rq HO389.out) hb); have n2_ := am (Kd.R_below (rq HO392.out) hb); have n3_ := am (Kd.R_below (rq HO396.out) hb); have n4_ := am (Kd.R_below (rq HO441.out) hb); have n5_ := am (blk_below (blkq BK398.out) hb); have n6_ := am (below_step bel hb); clear HO372 HO389 HO392 HO396 HO441 BK398 HB; have HO372 := n0_; have HO389 := n1_; have HO392 := n2_; have HO396 := n3_; have HO441 := n4_; have BK398 := n5_; have HB := n6_; clear n0_ n1_ n2_ n3_ n4_ n5_ n6_; (try clear hb); (try clear hb2); (try clear hk); (try clear hi); obtain ⟨hcz139_0, hcz139_1, hcz139_2, hfz139_0, hfz139_1, hfz139_2⟩ := blkc3 BK398.out) | ((with_reducible refine gate_callee (f := 17) rfl ?_); refine goesL_ (some 140) rfl rfl Try.func17 (by kernel_rfl) rfl #[.agg #[.slice Ao85 t415.length co85, .slice Ao87 t416.length co87, .int .i64 t393], .int .i64 1] rfl (by (try simp only [List.map_toArray, List.map_cons, List.map_nil]); first | done | (rw [show t415.length = t387.length from (Kd.R_reads' HO389.out).1.symm, show t416.length = t390.length from (Kd.R_reads' HO392.out).1.symm] <;> rfl) | rfl | (simp only [List.length_drop, List.length_take]; rfl)) ?_; (with_reducible refine (laws_heldJoin.calls k _ _ t415 _ _ t416 t393 1 t446 _ ?side1 ?side2 ?side3 ?side4 A46.out).mono ?_); (case side1 => repeat (first | exact (Kd.R_reads' HO389.out).2.2 | (with_reducible refine Kd.C_alloc ?_ _) | (with_reducible refine Kd.C_drewN ?_ _) | (with_reducible refine Kd.C_drew ?_))); (case side2 => rw [show t415.length = t387.length from (Kd.R_reads' HO389.out).1.symm]; exact (Kd.R_reads' HO389.out).2.1); (case side3 => repeat (first | exact (Kd.R_reads' HO392.out).2.2 | (with_reducible refine Kd.C_alloc ?_ _) | (with_reducible refine Kd.C_drewN ?_ _) | (with_reducible refine Kd.C_drew ?_))); (case side4 => rw [show t416.length = t390.length from (Kd.R_reads' HO392.out).1.symm]; exact (Kd.R_reads' HO392.out).2.1); rintro e w140 ⟨rfl, hb⟩; refine ⟨_, rfl, ?_⟩; replace HO389 := am (Kd.R_below (rq HO389.out) hb); replace HO392 := am (Kd.R_below (rq HO392.out) hb); replace HO396 := am (Kd.R_below (rq HO396.out) hb); replace HB := am (below_step bel hb); (try clear hb)) | ((with_reducible refine gate_callee (f := 18) rfl ?_); refine goesL_ (some 145) rfl rfl Try.func18 (by kernel_rfl) rfl #[.slice Ao98 t418.length co98, .int .i64 t446] rfl (by (try simp only [List.map_toArray, List.map_cons, List.map_nil]); first | done | (rw [show t418.length = t394.length from (Kd.R_reads' HO396.out).1.symm] <;> rfl) | rfl | (simp only [List.length_drop, List.length_take]; rfl)) ?_; (with_reducible refine (laws_heldPairS.calls k _ _ t418 t446 t447 _ ?side1 ?side2 A48.out).mono ?_); (case side1 => repeat (first | exact (Kd.R_reads' HO396.out).2.2 | (with_reducible refine Kd.C_alloc ?_ _) | (with_reducible refine Kd.C_drewN ?_ _) | (with_reducible refine Kd.C_drew ?_))); (case side2 => rw [show t418.length = t394.length from (Kd.R_reads' HO396.out).1.symm]; exact (Kd.R_reads' HO396.out).2.1); rintro e w' ⟨rfl, ⟨nd, rfl⟩⟩; refine ⟨_, rfl, ?_⟩))
  go_ret
  exact ⟨by first | rfl | (simp [errW_none, errW_some] <;> rfl) | (simp [*, errW_none, errW_some] <;> rfl), by repeat (first | (with_reducible first | exact HB.out | apply below_alloc | apply pw_below_drewN | apply below_drew1) | exact HB.out)⟩
end Go.Proofs.Ythjdjknlcknkdaa.K
