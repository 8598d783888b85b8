/- Part 7 of a proof: walks of the given functions and laws over lists. -/
import Derived.Test.YtdjfnclheohhiaaCa6
import Derived.Deep.Slices
import Derived.ChangeArms
import Derived.ChangeReads
import Derived.Test.YtdjfnclheohhiaaRows
import Derived.ProofKit
import Derived.OpenShut
import Derived.ShutString
import Derived.ChangeOld
import Derived.SizedLaws
import Derived.Carry
namespace Go.Proofs.Ytdjfnclheohhiaa.K
open Go.RowKit Go.Proofs.YtdjfnclheohhiaaW.PrintWords Go.Proofs.YtdjfnclheohhiaaW.PrintLast Go.Proofs.YtdjfnclheohhiaaW.PrintMore Go.Proofs.YtdjfnclheohhiaaV
attribute [local go_sem] isSome_setCell max2_int min2_int max_two min_two max_three min_three max_four min_four   
set_option linter.unusedVariables false
set_option linter.unusedSimpArgs false
def laws_FnExactAddToSessions.f (k : Nat) (l0 : List (S79)) (a1_0 : Int) (a1_1 : Int) (a1_2 : Int) (a1_3 : Int) (a2 : Int) : Option (Bool) := (laws_szSessionS.f l0 1048576).bind fun t471 => (if t471 < 0 then (some true) else ((laws_toSessionS.f k l0).bind fun t472 => ((laws_toFrame.f a1_0 a1_1 a1_2 a1_3).bind fun bt475 => ((spec_AddToSessions.f k t472 bt475.1 bt475.2.1 bt475.2.2.1 bt475.2.2.2 a2).bind fun bt479 => ((laws_toSessionS.f k l0).bind fun t483 => ((laws_toFrame.f a1_0 a1_1 a1_2 a1_3).bind fun bt486 => ((impl_AddToSessions.f k t483 bt486.1 bt486.2.1 bt486.2.2.1 bt486.2.2.2 a2).bind fun bt490 => ((laws_eqSessionS.f k bt490.1 bt479.1).bind fun t494 => (if t494 = true then (if (bt490.2 != bt479.2) = true then (none) else ((laws_toSessionS.f k l0).bind fun t495 => ((laws_eqSessionS.f k t483 t495).bind fun t498 => (if t498 = true then ((laws_markSessionS.f k t483 1).bind fun bt499 => (if bt499.1 < 0 then (none) else ((laws_eqSessionS.f k bt490.1 bt479.1).bind fun t501 => (if t501 = true then ((laws_markSessionS.f k bt490.1 1).bind fun bt502 => ((laws_heldSessionS.f k bt502.2 1).bind fun t504 => (if t504 < 0 then (none) else (if t504 = bt502.1 then ((laws_toSessionS.f k l0).bind fun t505 => ((laws_toFrame.f a1_0 a1_1 a1_2 a1_3).bind fun bt508 => ((impl_AddToSessions.f k t505 bt508.1 bt508.2.1 bt508.2.2.1 bt508.2.2.2 a2).bind fun bt512 => ((laws_eqSessionS.f k bt512.1 bt479.1).bind fun t516 => (if t516 = true then (if (bt512.2 != bt479.2) = true then (none) else ((laws_heldSessionS.f k bt502.2 1).bind fun t517 => (if t517 < 0 then (none) else (if t517 = bt502.1 then (some true) else (none))))) else (none)))))) else (none))))) else (none))))) else (none))))) else (none))))))))))
theorem laws_FnExactAddToSessions.mono : ∀ a0 a1 a2 a3 a4 a5 k, LeO (laws_FnExactAddToSessions.f k a0 a1 a2 a3 a4 a5) (laws_FnExactAddToSessions.f (k + 1) a0 a1 a2 a3 a4 a5) := by
  intro a0 a1 a2 a3 a4 a5 k
  unfold laws_FnExactAddToSessions.f
  repeat' first
      | (with_reducible exact impl_AddToSessions.mono _ _ _ _ _ _ _)
      | (with_reducible exact laws_eqSessionS.mono _ _ _)
      | (with_reducible exact laws_heldSessionS.mono _ _ _)
      | (with_reducible exact laws_markSessionS.mono _ _ _)
      | (with_reducible exact laws_toSessionS.mono _ _)
      | (with_reducible exact spec_AddToSessions.mono _ _ _ _ _ _ _)
      | (with_reducible exact LeO.refl _)
      | (with_reducible exact LeO.none _)
      | (with_reducible refine LeO.ite ?_ ?_)
      | (with_reducible refine LeO.bind ?_ (fun _ => ?_))
      | exact impl_AddToSessions.mono _ _ _ _ _ _ _
      | exact laws_eqSessionS.mono _ _ _
      | exact laws_heldSessionS.mono _ _ _
      | exact laws_markSessionS.mono _ _ _
      | exact laws_toSessionS.mono _ _
      | exact spec_AddToSessions.mono _ _ _ _ _ _ _
      | exact LeO.none _
      | refine LeO.ite ?_ ?_
      | refine LeO.bind ?_ (fun _ => ?_)
def laws_FnExactAddToSessions.T5 : Bool × List (List Nat × List Nat) := (true, [([], []), ([0], [0]), ([], []), ([2, 1], [2]), ([], []), ([1, 3, 4, 3], [1, 3, 4]), ([5], [5]), ([6], [6]), ([6], [6]), ([7, 5, 0, 1, 2, 3, 4, 5, 6, 7], [7]), ([8, 9, 0, 1, 2, 3, 4, 5, 6, 7, 8, 9], [8])])
def laws_FnExactAddToSessions.B5 : List Nat := [0, 1, 0, 7, 0, 31, 63, 127, 127, 255, 1023]
theorem laws_FnExactAddToSessions.tab5 : rtab .any (opsOf Try.f4 5) = laws_FnExactAddToSessions.T5 := by kernel_rfl
theorem laws_FnExactAddToSessions.bits5 : waitsOk laws_FnExactAddToSessions.T5.2 laws_FnExactAddToSessions.B5 = true := by kernel_rfl
def laws_FnExactAddToSessions.T24 : Bool × List (List Nat × List Nat) := (true, [([], []), ([0], [0]), ([], []), ([2, 1], [2]), ([], []), ([1, 3, 4, 3], [1, 3, 4]), ([5], [5]), ([6], [6]), ([6], [6]), ([7, 5, 0, 1, 2, 3, 4, 5, 6, 7], [7]), ([8, 9, 0, 1, 2, 3, 4, 5, 6, 7, 8, 9], [8])])
def laws_FnExactAddToSessions.B24 : List Nat := [0, 1, 0, 7, 0, 31, 63, 127, 127, 255, 1023]
theorem laws_FnExactAddToSessions.tab24 : rtab .any (opsOf Try.f4 24) = laws_FnExactAddToSessions.T24 := by kernel_rfl
theorem laws_FnExactAddToSessions.bits24 : waitsOk laws_FnExactAddToSessions.T24.2 laws_FnExactAddToSessions.B24 = true := by kernel_rfl
set_option maxHeartbeats 8000000 in
set_option maxRecDepth 100000 in
theorem laws_FnExactAddToSessions.calls (k : Nat) (A0 : Option Addr) (c0 : Nat) (l0 : List (S79)) (a1_0 : Int) (a1_1 : Int) (a1_2 : Int) (a1_3 : Int) (a2 : Int) (r : Bool) (w : World) (hr0 : Kd.C k79 w A0 l0.length l0) (hc0 : l0.length ≤ c0) (h : laws_FnExactAddToSessions.f k l0 a1_0 a1_1 a1_2 a1_3 a2 = some r) :
    Calls Try.prog 4 #[.slice A0 l0.length c0, .agg #[.int .i64 a1_0, .int .i64 a1_1, .int .i64 a1_2, .int .i64 a1_3], .int .i64 a2] w fun e w' => e = .returned (.bool r) ∧ Below w.heap.size w w' := by
  have hu35 := Try.underlying35
  have HR0 := Aside0.mk hr0
  have HC0 := Aside0.mk hc0
  clear hr0 hc0
  have HB := Aside0.mk (Below.refl w.heap.size w)
  have H : ((laws_szSessionS.f l0 1048576).bind fun t471 => (if t471 < 0 then (some true) else ((laws_toSessionS.f k l0).bind fun t472 => ((laws_toFrame.f a1_0 a1_1 a1_2 a1_3).bind fun bt475 => ((spec_AddToSessions.f k t472 bt475.1 bt475.2.1 bt475.2.2.1 bt475.2.2.2 a2).bind fun bt479 => ((laws_toSessionS.f k l0).bind fun t483 => ((laws_toFrame.f a1_0 a1_1 a1_2 a1_3).bind fun bt486 => ((impl_AddToSessions.f k t483 bt486.1 bt486.2.1 bt486.2.2.1 bt486.2.2.2 a2).bind fun bt490 => ((laws_eqSessionS.f k bt490.1 bt479.1).bind fun t494 => (if t494 = true then (if (bt490.2 != bt479.2) = true then (none) else ((laws_toSessionS.f k l0).bind fun t495 => ((laws_eqSessionS.f k t483 t495).bind fun t498 => (if t498 = true then ((laws_markSessionS.f k t483 1).bind fun bt499 => (if bt499.1 < 0 then (none) else ((laws_eqSessionS.f k bt490.1 bt479.1).bind fun t501 => (if t501 = true then ((laws_markSessionS.f k bt490.1 1).bind fun bt502 => ((laws_heldSessionS.f k bt502.2 1).bind fun t504 => (if t504 < 0 then (none) else (if t504 = bt502.1 then ((laws_toSessionS.f k l0).bind fun t505 => ((laws_toFrame.f a1_0 a1_1 a1_2 a1_3).bind fun bt508 => ((impl_AddToSessions.f k t505 bt508.1 bt508.2.1 bt508.2.2.1 bt508.2.2.2 a2).bind fun bt512 => ((laws_eqSessionS.f k bt512.1 bt479.1).bind fun t516 => (if t516 = true then (if (bt512.2 != bt479.2) = true then (none) else ((laws_heldSessionS.f k bt502.2 1).bind fun t517 => (if t517 < 0 then (none) else (if t517 = bt502.1 then (some true) else (none))))) else (none)))))) else (none))))) else (none))))) else (none))))) else (none))))))))))) = some r := h
  clear h
  replace H := Option.bind_eq_some_iff.mp H
  obtain ⟨t471, A40, H⟩ := H
  replace H : (if t471 < 0 then (some true) else ((laws_toSessionS.f k l0).bind fun t472 => ((laws_toFrame.f a1_0 a1_1 a1_2 a1_3).bind fun bt475 => ((spec_AddToSessions.f k t472 bt475.1 bt475.2.1 bt475.2.2.1 bt475.2.2.2 a2).bind fun bt479 => ((laws_toSessionS.f k l0).bind fun t483 => ((laws_toFrame.f a1_0 a1_1 a1_2 a1_3).bind fun bt486 => ((impl_AddToSessions.f k t483 bt486.1 bt486.2.1 bt486.2.2.1 bt486.2.2.2 a2).bind fun bt490 => ((laws_eqSessionS.f k bt490.1 bt479.1).bind fun t494 => (if t494 = true then (if (bt490.2 != bt479.2) = true then (none) else ((laws_toSessionS.f k l0).bind fun t495 => ((laws_eqSessionS.f k t483 t495).bind fun t498 => (if t498 = true then ((laws_markSessionS.f k t483 1).bind fun bt499 => (if bt499.1 < 0 then (none) else ((laws_eqSessionS.f k bt490.1 bt479.1).bind fun t501 => (if t501 = true then ((laws_markSessionS.f k bt490.1 1).bind fun bt502 => ((laws_heldSessionS.f k bt502.2 1).bind fun t504 => (if t504 < 0 then (none) else (if t504 = bt502.1 then ((laws_toSessionS.f k l0).bind fun t505 => ((laws_toFrame.f a1_0 a1_1 a1_2 a1_3).bind fun bt508 => ((impl_AddToSessions.f k t505 bt508.1 bt508.2.1 bt508.2.2.1 bt508.2.2.2 a2).bind fun bt512 => ((laws_eqSessionS.f k bt512.1 bt479.1).bind fun t516 => (if t516 = true then (if (bt512.2 != bt479.2) = true then (none) else ((laws_heldSessionS.f k bt502.2 1).bind fun t517 => (if t517 < 0 then (none) else (if t517 = bt502.1 then (some true) else (none))))) else (none)))))) else (none))))) else (none))))) else (none))))) else (none)))))))))) = some r := H
  have A4 := Aside0.mk A40
  clear A40
  by_cases c5 : t471 < 0
  · rw [if_pos c5] at H
    have c5b0 : decide (t471 < 0) = true := decide_eq_true c5
    clear c5
    obtain rfl := Option.some.inj H
    go_enter Try.func4, Try.ntmps4
    go_wp2_with (first | ((with_reducible refine gate_dst (N := 4) rfl ?_); refine box_event ?hg (N := 4) ?hd (cs := #[.int .i64 a1_0, .int .i64 a1_1, .int .i64 a1_2, .int .i64 a1_3]) (t := 35) ?hr ?_; (case hd => rfl); (case hg => rfl); (case hr => first | (go_simp; done) | (go_simp; rfl)); intro gb470 hg w6 hbox hb; have n0_ := Aside0.mk (below_step bel hb); have n1_ := Aside0.mk (hbox); have n2_ := Aside0.mk ((by rw [hg]; exact (below_size bel) : w.heap.size ≤ gb470)); have n3_ := Aside0.mk ((by rw [hg]; exact (below_size bel) : w.heap.size ≤ gb470)); clear HB; have HB := n0_; have BK470 := n1_; have GW470 := n2_; have GE470 := n3_; clear n0_ n1_ n2_ n3_; clear hb hbox hg) | ((with_reducible refine gate_callee (f := 17) rfl ?_); refine goesL1 20 Try.func17 #[.slice A0 l0.length c0, .int .i64 1048576] ?_; (with_reducible refine (laws_szSessionS.calls _ _ l0 1048576 t471 _ ?side1 ?side2 A4.out).mono ?_); (case side1 => repeat (first | exact (Kd.C_below HR0.out HB.out) | (with_reducible refine Kd.C_alloc ?_ _) | (with_reducible refine Kd.C_drewN ?_ _) | (with_reducible refine Kd.C_drew ?_))); (case side2 => exact HC0.out); rintro e w' ⟨rfl, ⟨nd, rfl⟩⟩; refine ⟨_, rfl, ?_⟩))
    go_ret
    exact ⟨by first | rfl | (simp [errW_none, errW_some] <;> rfl) | (simp [*, errW_none, errW_some] <;> rfl), by repeat (first | (with_reducible first | exact HB.out | apply below_alloc | apply pw_below_drewN | apply below_drew1 | refine below_set ?_ GE470.out) | exact HB.out)⟩
  · rw [if_neg c5] at H
    have c5b0 : decide (t471 < 0) = false := decide_eq_false c5
    clear c5
    replace H := Option.bind_eq_some_iff.mp H
    obtain ⟨t472, A70, H⟩ := H
    replace H : ((laws_toFrame.f a1_0 a1_1 a1_2 a1_3).bind fun bt475 => ((spec_AddToSessions.f k t472 bt475.1 bt475.2.1 bt475.2.2.1 bt475.2.2.2 a2).bind fun bt479 => ((laws_toSessionS.f k l0).bind fun t483 => ((laws_toFrame.f a1_0 a1_1 a1_2 a1_3).bind fun bt486 => ((impl_AddToSessions.f k t483 bt486.1 bt486.2.1 bt486.2.2.1 bt486.2.2.2 a2).bind fun bt490 => ((laws_eqSessionS.f k bt490.1 bt479.1).bind fun t494 => (if t494 = true then (if (bt490.2 != bt479.2) = true then (none) else ((laws_toSessionS.f k l0).bind fun t495 => ((laws_eqSessionS.f k t483 t495).bind fun t498 => (if t498 = true then ((laws_markSessionS.f k t483 1).bind fun bt499 => (if bt499.1 < 0 then (none) else ((laws_eqSessionS.f k bt490.1 bt479.1).bind fun t501 => (if t501 = true then ((laws_markSessionS.f k bt490.1 1).bind fun bt502 => ((laws_heldSessionS.f k bt502.2 1).bind fun t504 => (if t504 < 0 then (none) else (if t504 = bt502.1 then ((laws_toSessionS.f k l0).bind fun t505 => ((laws_toFrame.f a1_0 a1_1 a1_2 a1_3).bind fun bt508 => ((impl_AddToSessions.f k t505 bt508.1 bt508.2.1 bt508.2.2.1 bt508.2.2.2 a2).bind fun bt512 => ((laws_eqSessionS.f k bt512.1 bt479.1).bind fun t516 => (if t516 = true then (if (bt512.2 != bt479.2) = true then (none) else ((laws_heldSessionS.f k bt502.2 1).bind fun t517 => (if t517 < 0 then (none) else (if t517 = bt502.1 then (some true) else (none))))) else (none)))))) else (none))))) else (none))))) else (none))))) else (none)))))))) = some r := H
    have A7 := Aside0.mk A70
    clear A70
    replace H := Option.bind_eq_some_iff.mp H
    obtain ⟨⟨t475, t476, t477, t478⟩, A80, H⟩ := H
    replace H : ((spec_AddToSessions.f k t472 t475 t476 t477 t478 a2).bind fun bt479 => ((laws_toSessionS.f k l0).bind fun t483 => ((laws_toFrame.f a1_0 a1_1 a1_2 a1_3).bind fun bt486 => ((impl_AddToSessions.f k t483 bt486.1 bt486.2.1 bt486.2.2.1 bt486.2.2.2 a2).bind fun bt490 => ((laws_eqSessionS.f k bt490.1 bt479.1).bind fun t494 => (if t494 = true then (if (bt490.2 != bt479.2) = true then (none) else ((laws_toSessionS.f k l0).bind fun t495 => ((laws_eqSessionS.f k t483 t495).bind fun t498 => (if t498 = true then ((laws_markSessionS.f k t483 1).bind fun bt499 => (if bt499.1 < 0 then (none) else ((laws_eqSessionS.f k bt490.1 bt479.1).bind fun t501 => (if t501 = true then ((laws_markSessionS.f k bt490.1 1).bind fun bt502 => ((laws_heldSessionS.f k bt502.2 1).bind fun t504 => (if t504 < 0 then (none) else (if t504 = bt502.1 then ((laws_toSessionS.f k l0).bind fun t505 => ((laws_toFrame.f a1_0 a1_1 a1_2 a1_3).bind fun bt508 => ((impl_AddToSessions.f k t505 bt508.1 bt508.2.1 bt508.2.2.1 bt508.2.2.2 a2).bind fun bt512 => ((laws_eqSessionS.f k bt512.1 bt479.1).bind fun t516 => (if t516 = true then (if (bt512.2 != bt479.2) = true then (none) else ((laws_heldSessionS.f k bt502.2 1).bind fun t517 => (if t517 < 0 then (none) else (if t517 = bt502.1 then (some true) else (none))))) else (none)))))) else (none))))) else (none))))) else (none))))) else (none))))))) = some r := H
    have A8 := Aside0.mk A80
    clear A80
    replace H := Option.bind_eq_some_iff.mp H
    obtain ⟨⟨t479, t482⟩, A90, H⟩ := H
    replace H : ((laws_toSessionS.f k l0).bind fun t483 => ((laws_toFrame.f a1_0 a1_1 a1_2 a1_3).bind fun bt486 => ((impl_AddToSessions.f k t483 bt486.1 bt486.2.1 bt486.2.2.1 bt486.2.2.2 a2).bind fun bt490 => ((laws_eqSessionS.f k bt490.1 t479).bind fun t494 => (if t494 = true then (if (bt490.2 != t482) = true then (none) else ((laws_toSessionS.f k l0).bind fun t495 => ((laws_eqSessionS.f k t483 t495).bind fun t498 => (if t498 = true then ((laws_markSessionS.f k t483 1).bind fun bt499 => (if bt499.1 < 0 then (none) else ((laws_eqSessionS.f k bt490.1 t479).bind fun t501 => (if t501 = true then ((laws_markSessionS.f k bt490.1 1).bind fun bt502 => ((laws_heldSessionS.f k bt502.2 1).bind fun t504 => (if t504 < 0 then (none) else (if t504 = bt502.1 then ((laws_toSessionS.f k l0).bind fun t505 => ((laws_toFrame.f a1_0 a1_1 a1_2 a1_3).bind fun bt508 => ((impl_AddToSessions.f k t505 bt508.1 bt508.2.1 bt508.2.2.1 bt508.2.2.2 a2).bind fun bt512 => ((laws_eqSessionS.f k bt512.1 t479).bind fun t516 => (if t516 = true then (if (bt512.2 != t482) = true then (none) else ((laws_heldSessionS.f k bt502.2 1).bind fun t517 => (if t517 < 0 then (none) else (if t517 = bt502.1 then (some true) else (none))))) else (none)))))) else (none))))) else (none))))) else (none))))) else (none)))))) = some r := H
    have A9 := Aside0.mk A90
    clear A90
    replace H := Option.bind_eq_some_iff.mp H
    obtain ⟨t483, A100, H⟩ := H
    replace H : ((laws_toFrame.f a1_0 a1_1 a1_2 a1_3).bind fun bt486 => ((impl_AddToSessions.f k t483 bt486.1 bt486.2.1 bt486.2.2.1 bt486.2.2.2 a2).bind fun bt490 => ((laws_eqSessionS.f k bt490.1 t479).bind fun t494 => (if t494 = true then (if (bt490.2 != t482) = true then (none) else ((laws_toSessionS.f k l0).bind fun t495 => ((laws_eqSessionS.f k t483 t495).bind fun t498 => (if t498 = true then ((laws_markSessionS.f k t483 1).bind fun bt499 => (if bt499.1 < 0 then (none) else ((laws_eqSessionS.f k bt490.1 t479).bind fun t501 => (if t501 = true then ((laws_markSessionS.f k bt490.1 1).bind fun bt502 => ((laws_heldSessionS.f k bt502.2 1).bind fun t504 => (if t504 < 0 then (none) else (if t504 = bt502.1 then ((laws_toSessionS.f k l0).bind fun t505 => ((laws_toFrame.f a1_0 a1_1 a1_2 a1_3).bind fun bt508 => ((impl_AddToSessions.f k t505 bt508.1 bt508.2.1 bt508.2.2.1 bt508.2.2.2 a2).bind fun bt512 => ((laws_eqSessionS.f k bt512.1 t479).bind fun t516 => (if t516 = true then (if (bt512.2 != t482) = true then (none) else ((laws_heldSessionS.f k bt502.2 1).bind fun t517 => (if t517 < 0 then (none) else (if t517 = bt502.1 then (some true) else (none))))) else (none)))))) else (none))))) else (none))))) else (none))))) else (none))))) = some r := H
    have A10 := Aside0.mk A100
    clear A100
    replace H := Option.bind_eq_some_iff.mp H
    obtain ⟨⟨t486, t487, t488, t489⟩, A110, H⟩ := H
    replace H : ((impl_AddToSessions.f k t483 t486 t487 t488 t489 a2).bind fun bt490 => ((laws_eqSessionS.f k bt490.1 t479).bind fun t494 => (if t494 = true then (if (bt490.2 != t482) = true then (none) else ((laws_toSessionS.f k l0).bind fun t495 => ((laws_eqSessionS.f k t483 t495).bind fun t498 => (if t498 = true then ((laws_markSessionS.f k t483 1).bind fun bt499 => (if bt499.1 < 0 then (none) else ((laws_eqSessionS.f k bt490.1 t479).bind fun t501 => (if t501 = true then ((laws_markSessionS.f k bt490.1 1).bind fun bt502 => ((laws_heldSessionS.f k bt502.2 1).bind fun t504 => (if t504 < 0 then (none) else (if t504 = bt502.1 then ((laws_toSessionS.f k l0).bind fun t505 => ((laws_toFrame.f a1_0 a1_1 a1_2 a1_3).bind fun bt508 => ((impl_AddToSessions.f k t505 bt508.1 bt508.2.1 bt508.2.2.1 bt508.2.2.2 a2).bind fun bt512 => ((laws_eqSessionS.f k bt512.1 t479).bind fun t516 => (if t516 = true then (if (bt512.2 != t482) = true then (none) else ((laws_heldSessionS.f k bt502.2 1).bind fun t517 => (if t517 < 0 then (none) else (if t517 = bt502.1 then (some true) else (none))))) else (none)))))) else (none))))) else (none))))) else (none))))) else (none)))) = some r := H
    have A11 := Aside0.mk A110
    clear A110
    replace H := Option.bind_eq_some_iff.mp H
    obtain ⟨⟨t490, t493⟩, A120, H⟩ := H
    replace H : ((laws_eqSessionS.f k t490 t479).bind fun t494 => (if t494 = true then (if (t493 != t482) = true then (none) else ((laws_toSessionS.f k l0).bind fun t495 => ((laws_eqSessionS.f k t483 t495).bind fun t498 => (if t498 = true then ((laws_markSessionS.f k t483 1).bind fun bt499 => (if bt499.1 < 0 then (none) else ((laws_eqSessionS.f k t490 t479).bind fun t501 => (if t501 = true then ((laws_markSessionS.f k t490 1).bind fun bt502 => ((laws_heldSessionS.f k bt502.2 1).bind fun t504 => (if t504 < 0 then (none) else (if t504 = bt502.1 then ((laws_toSessionS.f k l0).bind fun t505 => ((laws_toFrame.f a1_0 a1_1 a1_2 a1_3).bind fun bt508 => ((impl_AddToSessions.f k t505 bt508.1 bt508.2.1 bt508.2.2.1 bt508.2.2.2 a2).bind fun bt512 => ((laws_eqSessionS.f k bt512.1 t479).bind fun t516 => (if t516 = true then (if (bt512.2 != t482) = true then (none) else ((laws_heldSessionS.f k bt502.2 1).bind fun t517 => (if t517 < 0 then (none) else (if t517 = bt502.1 then (some true) else (none))))) else (none)))))) else (none))))) else (none))))) else (none))))) else (none))) = some r := H
    have A12 := Aside0.mk A120
    clear A120
    replace H := Option.bind_eq_some_iff.mp H
    obtain ⟨t494, A130, H⟩ := H
    replace H : (if t494 = true then (if (t493 != t482) = true then (none) else ((laws_toSessionS.f k l0).bind fun t495 => ((laws_eqSessionS.f k t483 t495).bind fun t498 => (if t498 = true then ((laws_markSessionS.f k t483 1).bind fun bt499 => (if bt499.1 < 0 then (none) else ((laws_eqSessionS.f k t490 t479).bind fun t501 => (if t501 = true then ((laws_markSessionS.f k t490 1).bind fun bt502 => ((laws_heldSessionS.f k bt502.2 1).bind fun t504 => (if t504 < 0 then (none) else (if t504 = bt502.1 then ((laws_toSessionS.f k l0).bind fun t505 => ((laws_toFrame.f a1_0 a1_1 a1_2 a1_3).bind fun bt508 => ((impl_AddToSessions.f k t505 bt508.1 bt508.2.1 bt508.2.2.1 bt508.2.2.2 a2).bind fun bt512 => ((laws_eqSessionS.f k bt512.1 t479).bind fun t516 => (if t516 = true then (if (bt512.2 != t482) = true then (none) else ((laws_heldSessionS.f k bt502.2 1).bind fun t517 => (if t517 < 0 then (none) else (if t517 = bt502.1 then (some true) else (none))))) else (none)))))) else (none))))) else (none))))) else (none))))) else (none)) = some r := H
    have A13 := Aside0.mk A130
    clear A130
    by_cases c14 : t494 = true
    · subst c14
      have H1 : (if (t493 != t482) = true then (none) else ((laws_toSessionS.f k l0).bind fun t495 => ((laws_eqSessionS.f k t483 t495).bind fun t498 => (if t498 = true then ((laws_markSessionS.f k t483 1).bind fun bt499 => (if bt499.1 < 0 then (none) else ((laws_eqSessionS.f k t490 t479).bind fun t501 => (if t501 = true then ((laws_markSessionS.f k t490 1).bind fun bt502 => ((laws_heldSessionS.f k bt502.2 1).bind fun t504 => (if t504 < 0 then (none) else (if t504 = bt502.1 then ((laws_toSessionS.f k l0).bind fun t505 => ((laws_toFrame.f a1_0 a1_1 a1_2 a1_3).bind fun bt508 => ((impl_AddToSessions.f k t505 bt508.1 bt508.2.1 bt508.2.2.1 bt508.2.2.2 a2).bind fun bt512 => ((laws_eqSessionS.f k bt512.1 t479).bind fun t516 => (if t516 = true then (if (bt512.2 != t482) = true then (none) else ((laws_heldSessionS.f k bt502.2 1).bind fun t517 => (if t517 < 0 then (none) else (if t517 = bt502.1 then (some true) else (none))))) else (none)))))) else (none))))) else (none))))) else (none))))) = some r := by rw [if_pos rfl] at H; exact H
      clear H
      have H := H1
      clear H1
      by_cases c15 : (t493 != t482) = true
      · rw [if_pos c15] at H
        exact absurd H (by simp)
      · rw [if_neg c15] at H
        have c15b0 : (t493 != t482) = false := by simpa using c15
        (try (have c15b1 : decide (t493 = t482) = true := by simpa using c15))
        (try (have c15b2 : (t493 == t482) = true := by simpa using c15))
        clear c15
        replace H := Option.bind_eq_some_iff.mp H
        obtain ⟨t495, A160, H⟩ := H
        replace H : ((laws_eqSessionS.f k t483 t495).bind fun t498 => (if t498 = true then ((laws_markSessionS.f k t483 1).bind fun bt499 => (if bt499.1 < 0 then (none) else ((laws_eqSessionS.f k t490 t479).bind fun t501 => (if t501 = true then ((laws_markSessionS.f k t490 1).bind fun bt502 => ((laws_heldSessionS.f k bt502.2 1).bind fun t504 => (if t504 < 0 then (none) else (if t504 = bt502.1 then ((laws_toSessionS.f k l0).bind fun t505 => ((laws_toFrame.f a1_0 a1_1 a1_2 a1_3).bind fun bt508 => ((impl_AddToSessions.f k t505 bt508.1 bt508.2.1 bt508.2.2.1 bt508.2.2.2 a2).bind fun bt512 => ((laws_eqSessionS.f k bt512.1 t479).bind fun t516 => (if t516 = true then (if (bt512.2 != t482) = true then (none) else ((laws_heldSessionS.f k bt502.2 1).bind fun t517 => (if t517 < 0 then (none) else (if t517 = bt502.1 then (some true) else (none))))) else (none)))))) else (none))))) else (none))))) else (none))) = some r := H
        have A16 := Aside0.mk A160
        clear A160
        replace H := Option.bind_eq_some_iff.mp H
        obtain ⟨t498, A170, H⟩ := H
        replace H : (if t498 = true then ((laws_markSessionS.f k t483 1).bind fun bt499 => (if bt499.1 < 0 then (none) else ((laws_eqSessionS.f k t490 t479).bind fun t501 => (if t501 = true then ((laws_markSessionS.f k t490 1).bind fun bt502 => ((laws_heldSessionS.f k bt502.2 1).bind fun t504 => (if t504 < 0 then (none) else (if t504 = bt502.1 then ((laws_toSessionS.f k l0).bind fun t505 => ((laws_toFrame.f a1_0 a1_1 a1_2 a1_3).bind fun bt508 => ((impl_AddToSessions.f k t505 bt508.1 bt508.2.1 bt508.2.2.1 bt508.2.2.2 a2).bind fun bt512 => ((laws_eqSessionS.f k bt512.1 t479).bind fun t516 => (if t516 = true then (if (bt512.2 != t482) = true then (none) else ((laws_heldSessionS.f k bt502.2 1).bind fun t517 => (if t517 < 0 then (none) else (if t517 = bt502.1 then (some true) else (none))))) else (none)))))) else (none))))) else (none))))) else (none)) = some r := H
        have A17 := Aside0.mk A170
        clear A170
        by_cases c18 : t498 = true
        · subst c18
          have H1 : ((laws_markSessionS.f k t483 1).bind fun bt499 => (if bt499.1 < 0 then (none) else ((laws_eqSessionS.f k t490 t479).bind fun t501 => (if t501 = true then ((laws_markSessionS.f k t490 1).bind fun bt502 => ((laws_heldSessionS.f k bt502.2 1).bind fun t504 => (if t504 < 0 then (none) else (if t504 = bt502.1 then ((laws_toSessionS.f k l0).bind fun t505 => ((laws_toFrame.f a1_0 a1_1 a1_2 a1_3).bind fun bt508 => ((impl_AddToSessions.f k t505 bt508.1 bt508.2.1 bt508.2.2.1 bt508.2.2.2 a2).bind fun bt512 => ((laws_eqSessionS.f k bt512.1 t479).bind fun t516 => (if t516 = true then (if (bt512.2 != t482) = true then (none) else ((laws_heldSessionS.f k bt502.2 1).bind fun t517 => (if t517 < 0 then (none) else (if t517 = bt502.1 then (some true) else (none))))) else (none)))))) else (none))))) else (none))))) = some r := by rw [if_pos rfl] at H; exact H
          clear H
          have H := H1
          clear H1
          replace H := Option.bind_eq_some_iff.mp H
          obtain ⟨⟨t499, t500⟩, A190, H⟩ := H
          replace H : (if t499 < 0 then (none) else ((laws_eqSessionS.f k t490 t479).bind fun t501 => (if t501 = true then ((laws_markSessionS.f k t490 1).bind fun bt502 => ((laws_heldSessionS.f k bt502.2 1).bind fun t504 => (if t504 < 0 then (none) else (if t504 = bt502.1 then ((laws_toSessionS.f k l0).bind fun t505 => ((laws_toFrame.f a1_0 a1_1 a1_2 a1_3).bind fun bt508 => ((impl_AddToSessions.f k t505 bt508.1 bt508.2.1 bt508.2.2.1 bt508.2.2.2 a2).bind fun bt512 => ((laws_eqSessionS.f k bt512.1 t479).bind fun t516 => (if t516 = true then (if (bt512.2 != t482) = true then (none) else ((laws_heldSessionS.f k bt502.2 1).bind fun t517 => (if t517 < 0 then (none) else (if t517 = bt502.1 then (some true) else (none))))) else (none)))))) else (none))))) else (none)))) = some r := H
          have A19 := Aside0.mk A190
          clear A190
          by_cases c20 : t499 < 0
          · rw [if_pos c20] at H
            exact absurd H (by simp)
          · rw [if_neg c20] at H
            have c20b0 : decide (t499 < 0) = false := decide_eq_false c20
            clear c20
            replace H := Option.bind_eq_some_iff.mp H
            obtain ⟨t501, A210, H⟩ := H
            replace H : (if t501 = true then ((laws_markSessionS.f k t490 1).bind fun bt502 => ((laws_heldSessionS.f k bt502.2 1).bind fun t504 => (if t504 < 0 then (none) else (if t504 = bt502.1 then ((laws_toSessionS.f k l0).bind fun t505 => ((laws_toFrame.f a1_0 a1_1 a1_2 a1_3).bind fun bt508 => ((impl_AddToSessions.f k t505 bt508.1 bt508.2.1 bt508.2.2.1 bt508.2.2.2 a2).bind fun bt512 => ((laws_eqSessionS.f k bt512.1 t479).bind fun t516 => (if t516 = true then (if (bt512.2 != t482) = true then (none) else ((laws_heldSessionS.f k bt502.2 1).bind fun t517 => (if t517 < 0 then (none) else (if t517 = bt502.1 then (some true) else (none))))) else (none)))))) else (none))))) else (none)) = some r := H
            have A21 := Aside0.mk A210
            clear A210
            by_cases c22 : t501 = true
            · subst c22
              have H1 : ((laws_markSessionS.f k t490 1).bind fun bt502 => ((laws_heldSessionS.f k bt502.2 1).bind fun t504 => (if t504 < 0 then (none) else (if t504 = bt502.1 then ((laws_toSessionS.f k l0).bind fun t505 => ((laws_toFrame.f a1_0 a1_1 a1_2 a1_3).bind fun bt508 => ((impl_AddToSessions.f k t505 bt508.1 bt508.2.1 bt508.2.2.1 bt508.2.2.2 a2).bind fun bt512 => ((laws_eqSessionS.f k bt512.1 t479).bind fun t516 => (if t516 = true then (if (bt512.2 != t482) = true then (none) else ((laws_heldSessionS.f k bt502.2 1).bind fun t517 => (if t517 < 0 then (none) else (if t517 = bt502.1 then (some true) else (none))))) else (none)))))) else (none))))) = some r := by rw [if_pos rfl] at H; exact H
              clear H
              have H := H1
              clear H1
              replace H := Option.bind_eq_some_iff.mp H
              obtain ⟨⟨t502, t503⟩, A230, H⟩ := H
              replace H : ((laws_heldSessionS.f k t503 1).bind fun t504 => (if t504 < 0 then (none) else (if t504 = t502 then ((laws_toSessionS.f k l0).bind fun t505 => ((laws_toFrame.f a1_0 a1_1 a1_2 a1_3).bind fun bt508 => ((impl_AddToSessions.f k t505 bt508.1 bt508.2.1 bt508.2.2.1 bt508.2.2.2 a2).bind fun bt512 => ((laws_eqSessionS.f k bt512.1 t479).bind fun t516 => (if t516 = true then (if (bt512.2 != t482) = true then (none) else ((laws_heldSessionS.f k t503 1).bind fun t517 => (if t517 < 0 then (none) else (if t517 = t502 then (some true) else (none))))) else (none)))))) else (none)))) = some r := H
              have A23 := Aside0.mk A230
              clear A230
              replace H := Option.bind_eq_some_iff.mp H
              obtain ⟨t504, A240, H⟩ := H
              replace H : (if t504 < 0 then (none) else (if t504 = t502 then ((laws_toSessionS.f k l0).bind fun t505 => ((laws_toFrame.f a1_0 a1_1 a1_2 a1_3).bind fun bt508 => ((impl_AddToSessions.f k t505 bt508.1 bt508.2.1 bt508.2.2.1 bt508.2.2.2 a2).bind fun bt512 => ((laws_eqSessionS.f k bt512.1 t479).bind fun t516 => (if t516 = true then (if (bt512.2 != t482) = true then (none) else ((laws_heldSessionS.f k t503 1).bind fun t517 => (if t517 < 0 then (none) else (if t517 = t502 then (some true) else (none))))) else (none)))))) else (none))) = some r := H
              have A24 := Aside0.mk A240
              clear A240
              by_cases c25 : t504 < 0
              · rw [if_pos c25] at H
                exact absurd H (by simp)
              · rw [if_neg c25] at H
                have c25b0 : decide (t504 < 0) = false := decide_eq_false c25
                clear c25
                by_cases c26 : t504 = t502
                · rw [if_pos c26] at H
                  have c26b0 : (t504 == t502) = true := beq_iff_eq.mpr c26
                  have c26b1 : (t504 != t502) = false := bne_eq_false_iff_eq.mpr c26
                  clear c26
                  replace H := Option.bind_eq_some_iff.mp H
                  obtain ⟨t505, A270, H⟩ := H
                  replace H : ((laws_toFrame.f a1_0 a1_1 a1_2 a1_3).bind fun bt508 => ((impl_AddToSessions.f k t505 bt508.1 bt508.2.1 bt508.2.2.1 bt508.2.2.2 a2).bind fun bt512 => ((laws_eqSessionS.f k bt512.1 t479).bind fun t516 => (if t516 = true then (if (bt512.2 != t482) = true then (none) else ((laws_heldSessionS.f k t503 1).bind fun t517 => (if t517 < 0 then (none) else (if t517 = t502 then (some true) else (none))))) else (none))))) = some r := H
                  have A27 := Aside0.mk A270
                  clear A270
                  replace H := Option.bind_eq_some_iff.mp H
                  obtain ⟨⟨t508, t509, t510, t511⟩, A280, H⟩ := H
                  replace H : ((impl_AddToSessions.f k t505 t508 t509 t510 t511 a2).bind fun bt512 => ((laws_eqSessionS.f k bt512.1 t479).bind fun t516 => (if t516 = true then (if (bt512.2 != t482) = true then (none) else ((laws_heldSessionS.f k t503 1).bind fun t517 => (if t517 < 0 then (none) else (if t517 = t502 then (some true) else (none))))) else (none)))) = some r := H
                  have A28 := Aside0.mk A280
                  clear A280
                  replace H := Option.bind_eq_some_iff.mp H
                  obtain ⟨⟨t512, t515⟩, A290, H⟩ := H
                  replace H : ((laws_eqSessionS.f k t512 t479).bind fun t516 => (if t516 = true then (if (t515 != t482) = true then (none) else ((laws_heldSessionS.f k t503 1).bind fun t517 => (if t517 < 0 then (none) else (if t517 = t502 then (some true) else (none))))) else (none))) = some r := H
                  have A29 := Aside0.mk A290
                  clear A290
                  replace H := Option.bind_eq_some_iff.mp H
                  obtain ⟨t516, A300, H⟩ := H
                  replace H : (if t516 = true then (if (t515 != t482) = true then (none) else ((laws_heldSessionS.f k t503 1).bind fun t517 => (if t517 < 0 then (none) else (if t517 = t502 then (some true) else (none))))) else (none)) = some r := H
                  have A30 := Aside0.mk A300
                  clear A300
                  by_cases c31 : t516 = true
                  · subst c31
                    have H1 : (if (t515 != t482) = true then (none) else ((laws_heldSessionS.f k t503 1).bind fun t517 => (if t517 < 0 then (none) else (if t517 = t502 then (some true) else (none))))) = some r := by rw [if_pos rfl] at H; exact H
                    clear H
                    have H := H1
                    clear H1
                    by_cases c32 : (t515 != t482) = true
                    · rw [if_pos c32] at H
                      exact absurd H (by simp)
                    · rw [if_neg c32] at H
                      have c32b0 : (t515 != t482) = false := by simpa using c32
                      (try (have c32b1 : decide (t515 = t482) = true := by simpa using c32))
                      (try (have c32b2 : (t515 == t482) = true := by simpa using c32))
                      clear c32
                      replace H := Option.bind_eq_some_iff.mp H
                      obtain ⟨t517, A330, H⟩ := H
                      replace H : (if t517 < 0 then (none) else (if t517 = t502 then (some true) else (none))) = some r := H
                      have A33 := Aside0.mk A330
                      clear A330
                      by_cases c34 : t517 < 0
                      · rw [if_pos c34] at H
                        exact absurd H (by simp)
                      · rw [if_neg c34] at H
                        have c34b0 : decide (t517 < 0) = false := decide_eq_false c34
                        clear c34
                        by_cases c35 : t517 = t502
                        · rw [if_pos c35] at H
                          have c35b0 : (t517 == t502) = true := beq_iff_eq.mpr c35
                          have c35b1 : (t517 != t502) = false := bne_eq_false_iff_eq.mpr c35
                          clear c35
                          obtain rfl := Option.some.inj H
                          go_enter Try.func4, Try.ntmps4
                          try go_wp2_with (first | ((with_reducible refine gate_dst (N := 4) rfl ?_); refine box_event ?hg (N := 4) ?hd (cs := #[.int .i64 a1_0, .int .i64 a1_1, .int .i64 a1_2, .int .i64 a1_3]) (t := 35) ?hr ?_; (case hd => rfl); (case hg => rfl); (case hr => first | (go_simp; done) | (go_simp; rfl)); intro gb470 hg w36 hbox hb; have n0_ := Aside0.mk (below_step bel hb); have n1_ := Aside0.mk (hbox); have n2_ := Aside0.mk ((by rw [hg]; exact (below_size bel) : w.heap.size ≤ gb470)); have n3_ := Aside0.mk ((by rw [hg]; exact (below_size bel) : w.heap.size ≤ gb470)); clear HB; have HB := n0_; have BK470 := n1_; have GW470 := n2_; have GE470 := n3_; clear n0_ n1_ n2_ n3_; clear hb hbox hg) | ((with_reducible refine gate_callee (f := 17) rfl ?_); refine goesL1 20 Try.func17 #[.slice A0 l0.length c0, .int .i64 1048576] ?_; (with_reducible refine (laws_szSessionS.calls _ _ l0 1048576 t471 _ ?side1 ?side2 A4.out).mono ?_); (case side1 => repeat (first | exact (Kd.C_below HR0.out HB.out) | (with_reducible refine Kd.C_alloc ?_ _) | (with_reducible refine Kd.C_drewN ?_ _) | (with_reducible refine Kd.C_drew ?_))); (case side2 => exact HC0.out); rintro e w' ⟨rfl, ⟨nd, rfl⟩⟩; refine ⟨_, rfl, ?_⟩))
                          (try (rw [drewN_self w36]; generalize hq_ : World.drewN w36 _ = w36; have n0_ : Aside0 (w36.heap[gb470]? = some (.cells #[.int .i64 a1_0, .int .i64 a1_1, .int .i64 a1_2, .int .i64 a1_3] 35 (0, 0))) := ⟨by rw [← hq_]; exact (blkq BK470.out)⟩; have n1_ : Aside0 (Below w.heap.size w w36) := ⟨by rw [← hq_]; exact bel⟩; clear BK470 HB hq_; have BK470 := n0_; have HB := n1_; clear n0_ n1_))
                          have n0_ := Aside0.mk (blk_drew BK470.out)
                          have n1_ := Aside0.mk (below_drew1 HB.out)
                          clear BK470 HB
                          have BK470 := n0_
                          have HB := n1_
                          clear n0_ n1_
                          refine start_ (n := 11) (S := fun w' => w'.cell? ⟨gb470, 0, none⟩ = some (.int .i64 a1_0) ∧ w'.cell? ⟨gb470, 1, none⟩ = some (.int .i64 a1_1) ∧ w'.cell? ⟨gb470, 2, none⟩ = some (.int .i64 a1_2) ∧ w'.cell? ⟨gb470, 3, none⟩ = some (.int .i64 a1_3)) (ds := []) #[false, false, false, false, false, false, false, false, false, false, false] (by kernel_rfl) rfl rfl ⟨(blk_cell BK470.out 0).trans rfl, (blk_cell BK470.out 1).trans rfl, (blk_cell BK470.out 2).trans rfl, (blk_cell BK470.out 3).trans rfl⟩ (fun hHeld => ?_); refine with_tabW laws_FnExactAddToSessions.tab5 laws_FnExactAddToSessions.bits5 (fun HT_ HW_ => ?_)
                          generalize w36.drew = w37 at BK470 HB hHeld ⊢
                          refine pure_ (i := 0) (N := some 24) (v := ?_) (a' := ?_) #[true, false, false, false, false, false, false, false, false, false, false] rfl rfl (any_of HT_.out (by kernel_rfl)) (fun _ _ _ h => h) (Or.inl ⟨by rfl, ?_⟩) ?_ ?_
                          rotate_left
                          · intro w'
                            go_simp
                            with_reducible rfl
                          rotate_left
                          · simp only [Act.put, List.setIfInBounds_toArray, List.set_cons_zero, List.set_cons_succ, i64_w, i32_w]
                            rfl
                          refine pure_ (i := 4) (N := some 28) (v := ?_) (a' := ?_) #[true, false, false, false, true, false, false, false, false, false, false] rfl rfl (any_of HT_.out (by kernel_rfl)) (fun _ _ _ h => h) (Or.inl ⟨by rfl, ?_⟩) ?_ ?_
                          rotate_left
                          · intro w'
                            go_simp
                            with_reducible rfl
                          rotate_left
                          · simp only [Act.put, List.setIfInBounds_toArray, List.set_cons_zero, List.set_cons_succ, i64_w, i32_w]
                            rfl
                          refine take_ (i := 2) (N := some 26) (v := ?_) (a' := ?_) #[true, false, true, false, true, false, false, false, false, false, false] rfl rfl (take_ofW HT_.out HW_.out (by kernel_rfl)) (fun _ _ _ h => h) (Or.inl ⟨by rfl, ?_⟩) hHeld ?_ ?_
                          rotate_left
                          · rintro w' ⟨s0, s1, s2, s3⟩
                            go_simp
                            with_reducible rfl
                          rotate_left
                          · simp only [Act.put, List.setIfInBounds_toArray, List.set_cons_zero, List.set_cons_succ, i64_w, i32_w]
                            rfl
                          refine one_ (i := 1) (N := some 25) #[true, true, true, false, true, false, false, false, false, false, false] rfl rfl (one_of HT_.out (by kernel_rfl)) (by decide) (fun K hK => ?_)
                          refine goes_ Try.func19 (by kernel_rfl) rfl #[.slice A0 l0.length c0] (by rfl) rfl rfl (by (try simp only [List.map_toArray, List.map_cons, List.map_nil]); first | done | rfl | (simp only [List.length_drop, List.length_take]; rfl)) ?_
                          with_reducible refine (laws_toSessionS.calls k _ _ l0 t472 _ ?side1 ?side2 A7.out).mono ?_
                          (case side1 => repeat (first | exact (Kd.C_below HR0.out HB.out) | (with_reducible refine Kd.C_alloc ?_ _) | (with_reducible refine Kd.C_drewN ?_ _) | (with_reducible refine Kd.C_drew ?_)))
                          (case side2 => exact HC0.out)
                          rintro e w38 ⟨v473, rfl, ho0, hb⟩
                          refine ⟨_, rfl, ?_⟩
                          have n0_ := Aside0.mk (Kd.R_lower ho0 (below_size bel))
                          have n1_ := Aside0.mk (blk_below (g := gb470) (o := .cells #[.int .i64 a1_0, .int .i64 a1_1, .int .i64 a1_2, .int .i64 a1_3] 35 (0, 0)) (blkq BK470.out) hb)
                          have n2_ := Aside0.mk (below_step bel hb)
                          clear BK470 HB
                          have HO474 := n0_
                          have BK470 := n1_
                          have HB := n2_
                          clear n0_ n1_ n2_
                          (try clear hb)
                          (try clear hb2)
                          (try clear hk)
                          (try clear hi)
                          (try clear ho0)
                          refine hK.out _ _ ⟨(blk_cell BK470.out 0).trans rfl, (blk_cell BK470.out 1).trans rfl, (blk_cell BK470.out 2).trans rfl, (blk_cell BK470.out 3).trans rfl⟩ (fun hHeld => ?_)
                          clear hK K
                          refine norm_ (a' := ?_) ?_ ?_
                          rotate_left
                          · show Act.put _ (some 25) _ = _
                            simp only [Act.put, List.setIfInBounds_toArray, List.set_cons_zero, List.set_cons_succ, i64_w, i32_w]
                            rfl
                          refine one_ (i := 3) (N := some 27) #[true, true, true, true, true, false, false, false, false, false, false] rfl rfl (one_of HT_.out (by kernel_rfl)) (by decide) (fun K hK => ?_)
                          refine goes_ Try.func20 (by kernel_rfl) rfl #[.agg #[.int .i64 a1_0, .int .i64 a1_1, .int .i64 a1_2, .int .i64 a1_3]] (by rfl) rfl rfl (by (try simp only [List.map_toArray, List.map_cons, List.map_nil]); first | done | rfl | (simp only [List.length_drop, List.length_take]; rfl)) ?_
                          with_reducible refine (laws_toFrame.calls a1_0 a1_1 a1_2 a1_3 t475 t476 t477 t478 _ A8.out).mono ?_
                          rintro e w39 ⟨rfl, hb⟩
                          refine ⟨_, rfl, ?_⟩
                          have n0_ := Aside0.mk (Kd.R_below (by (with_reducible repeat (first | apply Kd.R_alloc | apply Kd.R_drewN | apply Kd.R_drew)); exact HO474.out) hb)
                          have n1_ := Aside0.mk (blk_below (g := gb470) (o := .cells #[.int .i64 a1_0, .int .i64 a1_1, .int .i64 a1_2, .int .i64 a1_3] 35 (0, 0)) (blkq BK470.out) hb)
                          have n2_ := Aside0.mk (below_step bel hb)
                          clear HO474 BK470 HB
                          have HO474 := n0_
                          have BK470 := n1_
                          have HB := n2_
                          clear n0_ n1_ n2_
                          (try clear hb)
                          (try clear hb2)
                          (try clear hk)
                          (try clear hi)
                          obtain ⟨Ao40, co40, eo40⟩ := Kd.R_slice HO474.out
                          (first | subst eo40 | (injection eo40 with f1_ f2_ f3_; have f4_ := f1_.symm; have f5_ := f3_.symm; clear f1_ f2_ f3_; subst f4_; subst f5_))
                          refine hK.out _ _ ⟨(blk_cell BK470.out 0).trans rfl, (blk_cell BK470.out 1).trans rfl, (blk_cell BK470.out 2).trans rfl, (blk_cell BK470.out 3).trans rfl⟩ (fun hHeld => ?_)
                          clear hK K
                          refine norm_ (a' := ?_) ?_ ?_
                          rotate_left
                          · show Act.put _ (some 27) _ = _
                            simp only [Act.put, List.setIfInBounds_toArray, List.set_cons_zero, List.set_cons_succ, i64_w, i32_w]
                            rfl
                          refine one_ (i := 5) (N := some 29) #[true, true, true, true, true, true, false, false, false, false, false] rfl rfl (one_of HT_.out (by kernel_rfl)) (by decide) (fun K hK => ?_)
                          refine goes_ Try.func18 (by kernel_rfl) rfl #[.slice Ao40 t472.length co40, .agg #[.int .i64 t475, .int .i64 t476, .int .i64 t477, .int .i64 t478], .int .i64 a2] (by rfl) rfl rfl (by (try simp only [List.map_toArray, List.map_cons, List.map_nil]); first | done | rfl | (simp only [List.length_drop, List.length_take]; rfl)) ?_
                          with_reducible refine (spec_AddToSessions.calls k _ _ t472 t475 t476 t477 t478 a2 t479 t482 _ ?side1 ?side2 A9.out).mono ?_
                          (case side1 => repeat (first | exact (Kd.R_reads' HO474.out).2.2 | (with_reducible refine Kd.C_alloc ?_ _) | (with_reducible refine Kd.C_drewN ?_ _) | (with_reducible refine Kd.C_drew ?_)))
                          (case side2 => exact (Kd.R_reads' HO474.out).2.1)
                          rintro e w41 ⟨v480, rfl, ho0, hb⟩
                          refine ⟨_, rfl, ?_⟩
                          have n0_ := Aside0.mk (Kd.R_elder' (by (with_reducible repeat (first | apply Kd.R_alloc | apply Kd.R_drewN | apply Kd.R_drew)); exact HO474.out) (Kd.R_base ho0) hb)
                          have n1_ := Aside0.mk (Kd.R_lower (Kd.R_new' ho0 (Kd.R_lt (by (with_reducible repeat (first | apply Kd.R_alloc | apply Kd.R_drewN | apply Kd.R_drew)); exact HO474.out))) (below_size bel))
                          have n2_ := Aside0.mk (blk_below (g := gb470) (o := .cells #[.int .i64 a1_0, .int .i64 a1_1, .int .i64 a1_2, .int .i64 a1_3] 35 (0, 0)) (blkq BK470.out) hb)
                          have n3_ := Aside0.mk (below_step bel hb)
                          clear HO474 BK470 HB
                          have HO474 := n0_
                          have HO481 := n1_
                          have BK470 := n2_
                          have HB := n3_
                          clear n0_ n1_ n2_ n3_
                          (try clear hb)
                          (try clear hb2)
                          (try clear hk)
                          (try clear hi)
                          (try clear ho0)
                          refine hK.out _ _ ⟨(blk_cell BK470.out 0).trans rfl, (blk_cell BK470.out 1).trans rfl, (blk_cell BK470.out 2).trans rfl, (blk_cell BK470.out 3).trans rfl⟩ (fun hHeld => ?_)
                          clear hK K
                          refine norm_ (a' := ?_) ?_ ?_
                          rotate_left
                          · show Act.put _ (some 29) _ = _
                            simp only [Act.put, List.setIfInBounds_toArray, List.set_cons_zero, List.set_cons_succ, i64_w, i32_w]
                            rfl
                          refine pure_ (i := 6) (N := some 23) (v := ?_) (a' := ?_) #[true, true, true, true, true, true, true, false, false, false, false] rfl rfl (any_of HT_.out (by kernel_rfl)) (fun _ _ _ h => h) (Or.inl ⟨by rfl, ?_⟩) ?_ ?_
                          rotate_left
                          · intro w'
                            go_simp
                            with_reducible rfl
                          rotate_left
                          · simp only [Act.put, List.setIfInBounds_toArray, List.set_cons_zero, List.set_cons_succ, i64_w, i32_w]
                            rfl
                          refine pure_ (i := 7) (N := some 30) (v := ?_) (a' := ?_) #[true, true, true, true, true, true, true, true, false, false, false] rfl rfl (any_of HT_.out (by kernel_rfl)) (fun _ _ _ h => h) (Or.inl ⟨by rfl, ?_⟩) ?_ ?_
                          rotate_left
                          · intro w'
                            go_simp
                            with_reducible rfl
                          rotate_left
                          · simp only [Act.put, List.setIfInBounds_toArray, List.set_cons_zero, List.set_cons_succ, i64_w, i32_w]
                            rfl
                          refine pure_ (i := 8) (N := some 31) (v := ?_) (a' := ?_) #[true, true, true, true, true, true, true, true, true, false, false] rfl rfl (any_of HT_.out (by kernel_rfl)) (fun _ _ _ h => h) (Or.inl ⟨by rfl, ?_⟩) ?_ ?_
                          rotate_left
                          · intro w'
                            go_simp
                            with_reducible rfl
                          rotate_left
                          · simp only [Act.put, List.setIfInBounds_toArray, List.set_cons_zero, List.set_cons_succ, i64_w, i32_w]
                            rfl
                          refine pure_ (i := 9) (N := some 8) (v := ?_) (a' := ?_) #[true, true, true, true, true, true, true, true, true, true, false] rfl rfl (any_of HT_.out (by kernel_rfl)) (fun _ _ _ h => h) (Or.inl ⟨by rfl, ?_⟩) ?_ ?_
                          rotate_left
                          · intro w'
                            go_simp
                            with_reducible rfl
                          rotate_left
                          · simp only [Act.put, List.setIfInBounds_toArray, List.set_cons_zero, List.set_cons_succ, i64_w, i32_w]
                            rfl
                          refine pure_ (i := 10) (N := some 9) (v := ?_) (a' := ?_) #[true, true, true, true, true, true, true, true, true, true, true] rfl rfl (any_of HT_.out (by kernel_rfl)) (fun _ _ _ h => h) (Or.inl ⟨by rfl, ?_⟩) ?_ ?_
                          rotate_left
                          · intro w'
                            go_simp
                            with_reducible rfl
                          rotate_left
                          · simp only [Act.put, List.setIfInBounds_toArray, List.set_cons_zero, List.set_cons_succ, i64_w, i32_w]
                            rfl
                          refine done_ (done_of HT_.out (by kernel_rfl)) ?_
                          try go_wp2_with (first | ((with_reducible refine gate_callee (f := 19) rfl ?_); refine goesL1 33 Try.func19 #[.slice A0 l0.length c0] ?_; (with_reducible refine (laws_toSessionS.calls k _ _ l0 t483 _ ?side1 ?side2 A10.out).mono ?_); (case side1 => repeat (first | exact (Kd.C_below HR0.out HB.out) | (with_reducible refine Kd.C_alloc ?_ _) | (with_reducible refine Kd.C_drewN ?_ _) | (with_reducible refine Kd.C_drew ?_))); (case side2 => exact HC0.out); rintro e w42 ⟨v484, rfl, ho0, hb⟩; refine ⟨_, rfl, ?_⟩; have n0_ := Aside0.mk (Kd.R_elder' (by (with_reducible repeat (first | apply Kd.R_alloc | apply Kd.R_drewN | apply Kd.R_drew)); exact HO474.out) (Kd.R_base ho0) hb); have n1_ := Aside0.mk (Kd.R_elder' (by (with_reducible repeat (first | apply Kd.R_alloc | apply Kd.R_drewN | apply Kd.R_drew)); exact HO481.out) (Kd.R_base ho0) hb); have n2_ := Aside0.mk (Kd.R_lower (Kd.R_new' (Kd.R_new' ho0 (Kd.R_lt (by (with_reducible repeat (first | apply Kd.R_alloc | apply Kd.R_drewN | apply Kd.R_drew)); exact HO474.out))) (Kd.R_lt (by (with_reducible repeat (first | apply Kd.R_alloc | apply Kd.R_drewN | apply Kd.R_drew)); exact HO481.out))) (below_size bel)); have n3_ := Aside0.mk (blk_below (g := gb470) (o := .cells #[.int .i64 a1_0, .int .i64 a1_1, .int .i64 a1_2, .int .i64 a1_3] 35 (0, 0)) (blkq BK470.out) hb); have n4_ := Aside0.mk (below_step bel hb); clear HO474 HO481 BK470 HB; have HO474 := n0_; have HO481 := n1_; have HO485 := n2_; have BK470 := n3_; have HB := n4_; clear n0_ n1_ n2_ n3_ n4_; (try clear hb); (try clear hb2); (try clear hk); (try clear hi); (try clear ho0); obtain ⟨hcz43_0, hcz43_1, hcz43_2, hcz43_3, hfz43_0, hfz43_1, hfz43_2, hfz43_3⟩ := blkc4 BK470.out) | ((with_reducible refine gate_callee (f := 20) rfl ?_); refine goesL1 37 Try.func20 #[.agg #[.int .i64 a1_0, .int .i64 a1_1, .int .i64 a1_2, .int .i64 a1_3]] ?_; (with_reducible refine (laws_toFrame.calls a1_0 a1_1 a1_2 a1_3 t486 t487 t488 t489 _ A11.out).mono ?_); rintro e w44 ⟨rfl, hb⟩; refine ⟨_, rfl, ?_⟩; have n0_ := Aside0.mk (Kd.R_below (by (with_reducible repeat (first | apply Kd.R_alloc | apply Kd.R_drewN | apply Kd.R_drew)); exact HO474.out) hb); have n1_ := Aside0.mk (Kd.R_below (by (with_reducible repeat (first | apply Kd.R_alloc | apply Kd.R_drewN | apply Kd.R_drew)); exact HO481.out) hb); have n2_ := Aside0.mk (Kd.R_below (by (with_reducible repeat (first | apply Kd.R_alloc | apply Kd.R_drewN | apply Kd.R_drew)); exact HO485.out) hb); have n3_ := Aside0.mk (blk_below (g := gb470) (o := .cells #[.int .i64 a1_0, .int .i64 a1_1, .int .i64 a1_2, .int .i64 a1_3] 35 (0, 0)) (blkq BK470.out) hb); have n4_ := Aside0.mk (below_step bel hb); clear HO474 HO481 HO485 BK470 HB; have HO474 := n0_; have HO481 := n1_; have HO485 := n2_; have BK470 := n3_; have HB := n4_; clear n0_ n1_ n2_ n3_ n4_; (try clear hb); (try clear hb2); (try clear hk); (try clear hi); obtain ⟨Ao45, co45, eo45⟩ := Kd.R_slice HO485.out; subst eo45) | ((with_reducible refine gate_callee (f := 21) rfl ?_); refine goesL1 39 Try.func21 #[.slice Ao45 t483.length co45, .agg #[.int .i64 t486, .int .i64 t487, .int .i64 t488, .int .i64 t489], .int .i64 a2] ?_; (with_reducible refine (impl_AddToSessions.calls k _ _ t483 t486 t487 t488 t489 a2 t490 t493 _ ?side1 ?side2 A12.out).mono ?_); (case side1 => repeat (first | exact (Kd.R_reads' HO485.out).2.2 | (with_reducible refine Kd.C_alloc ?_ _) | (with_reducible refine Kd.C_drewN ?_ _) | (with_reducible refine Kd.C_drew ?_))); (case side2 => exact (Kd.R_reads' HO485.out).2.1); rintro e w46 ⟨v491, rfl, ho0, hb⟩; refine ⟨_, rfl, ?_⟩; have n0_ := Aside0.mk (Kd.R_elder' (by (with_reducible repeat (first | apply Kd.R_alloc | apply Kd.R_drewN | apply Kd.R_drew)); exact HO474.out) (Kd.R_base ho0) hb); have n1_ := Aside0.mk (Kd.R_elder' (by (with_reducible repeat (first | apply Kd.R_alloc | apply Kd.R_drewN | apply Kd.R_drew)); exact HO481.out) (Kd.R_base ho0) hb); have n2_ := Aside0.mk (Kd.R_elder' (by (with_reducible repeat (first | apply Kd.R_alloc | apply Kd.R_drewN | apply Kd.R_drew)); exact HO485.out) (Kd.R_base ho0) hb); have n3_ := Aside0.mk (Kd.R_lower (Kd.R_new' (Kd.R_new' (Kd.R_new' ho0 (Kd.R_lt (by (with_reducible repeat (first | apply Kd.R_alloc | apply Kd.R_drewN | apply Kd.R_drew)); exact HO474.out))) (Kd.R_lt (by (with_reducible repeat (first | apply Kd.R_alloc | apply Kd.R_drewN | apply Kd.R_drew)); exact HO481.out))) (Kd.R_lt (by (with_reducible repeat (first | apply Kd.R_alloc | apply Kd.R_drewN | apply Kd.R_drew)); exact HO485.out))) (below_size bel)); have n4_ := Aside0.mk (blk_below (g := gb470) (o := .cells #[.int .i64 a1_0, .int .i64 a1_1, .int .i64 a1_2, .int .i64 a1_3] 35 (0, 0)) (blkq BK470.out) hb); have n5_ := Aside0.mk (below_step bel hb); clear HO474 HO481 HO485 BK470 HB; have HO474 := n0_; have HO481 := n1_; have HO485 := n2_; have HO492 := n3_; have BK470 := n4_; have HB := n5_; clear n0_ n1_ n2_ n3_ n4_ n5_; (try clear hb); (try clear hb2); (try clear hk); (try clear hi); (try clear ho0); obtain ⟨Ao47, co47, eo47⟩ := Kd.R_slice HO492.out; subst eo47; obtain ⟨Ao48, co48, eo48⟩ := Kd.R_slice HO481.out; subst eo48) | ((with_reducible refine gate_callee (f := 12) rfl ?_); refine goesL1 44 Try.func12 #[.slice Ao47 t490.length co47, .slice Ao48 t479.length co48] ?_; (with_reducible refine (laws_eqSessionS.calls k _ _ t490 _ _ t479 true _ ?side1 ?side2 ?side3 ?side4 A13.out).mono ?_); (case side1 => repeat (first | exact (Kd.R_reads' HO492.out).2.2 | (with_reducible refine Kd.C_alloc ?_ _) | (with_reducible refine Kd.C_drewN ?_ _) | (with_reducible refine Kd.C_drew ?_))); (case side2 => exact (Kd.R_reads' HO492.out).2.1); (case side3 => repeat (first | exact (Kd.R_reads' HO481.out).2.2 | (with_reducible refine Kd.C_alloc ?_ _) | (with_reducible refine Kd.C_drewN ?_ _) | (with_reducible refine Kd.C_drew ?_))); (case side4 => exact (Kd.R_reads' HO481.out).2.1); rintro e w49 ⟨rfl, hb⟩; refine ⟨_, rfl, ?_⟩; have n0_ := Aside0.mk (Kd.R_below (by (with_reducible repeat (first | apply Kd.R_alloc | apply Kd.R_drewN | apply Kd.R_drew)); exact HO474.out) hb); have n1_ := Aside0.mk (Kd.R_below (by (with_reducible repeat (first | apply Kd.R_alloc | apply Kd.R_drewN | apply Kd.R_drew)); exact HO481.out) hb); have n2_ := Aside0.mk (Kd.R_below (by (with_reducible repeat (first | apply Kd.R_alloc | apply Kd.R_drewN | apply Kd.R_drew)); exact HO485.out) hb); have n3_ := Aside0.mk (Kd.R_below (by (with_reducible repeat (first | apply Kd.R_alloc | apply Kd.R_drewN | apply Kd.R_drew)); exact HO492.out) hb); have n4_ := Aside0.mk (blk_below (g := gb470) (o := .cells #[.int .i64 a1_0, .int .i64 a1_1, .int .i64 a1_2, .int .i64 a1_3] 35 (0, 0)) (blkq BK470.out) hb); have n5_ := Aside0.mk (below_step bel hb); clear HO474 HO481 HO485 HO492 BK470 HB; have HO474 := n0_; have HO481 := n1_; have HO485 := n2_; have HO492 := n3_; have BK470 := n4_; have HB := n5_; clear n0_ n1_ n2_ n3_ n4_ n5_; (try clear hb); (try clear hb2); (try clear hk); (try clear hi)) | ((with_reducible refine gate_callee (f := 19) rfl ?_); refine goesL1 53 Try.func19 #[.slice A0 l0.length c0] ?_; (with_reducible refine (laws_toSessionS.calls k _ _ l0 t495 _ ?side1 ?side2 A16.out).mono ?_); (case side1 => repeat (first | exact (Kd.C_below HR0.out HB.out) | (with_reducible refine Kd.C_alloc ?_ _) | (with_reducible refine Kd.C_drewN ?_ _) | (with_reducible refine Kd.C_drew ?_))); (case side2 => exact HC0.out); rintro e w50 ⟨v496, rfl, ho0, hb⟩; refine ⟨_, rfl, ?_⟩; have n0_ := Aside0.mk (Kd.R_elder' (by (with_reducible repeat (first | apply Kd.R_alloc | apply Kd.R_drewN | apply Kd.R_drew)); exact HO474.out) (Kd.R_base ho0) hb); have n1_ := Aside0.mk (Kd.R_elder' (by (with_reducible repeat (first | apply Kd.R_alloc | apply Kd.R_drewN | apply Kd.R_drew)); exact HO481.out) (Kd.R_base ho0) hb); have n2_ := Aside0.mk (Kd.R_elder' (by (with_reducible repeat (first | apply Kd.R_alloc | apply Kd.R_drewN | apply Kd.R_drew)); exact HO485.out) (Kd.R_base ho0) hb); have n3_ := Aside0.mk (Kd.R_elder' (by (with_reducible repeat (first | apply Kd.R_alloc | apply Kd.R_drewN | apply Kd.R_drew)); exact HO492.out) (Kd.R_base ho0) hb); have n4_ := Aside0.mk (Kd.R_lower (Kd.R_new' (Kd.R_new' (Kd.R_new' (Kd.R_new' ho0 (Kd.R_lt (by (with_reducible repeat (first | apply Kd.R_alloc | apply Kd.R_drewN | apply Kd.R_drew)); exact HO474.out))) (Kd.R_lt (by (with_reducible repeat (first | apply Kd.R_alloc | apply Kd.R_drewN | apply Kd.R_drew)); exact HO481.out))) (Kd.R_lt (by (with_reducible repeat (first | apply Kd.R_alloc | apply Kd.R_drewN | apply Kd.R_drew)); exact HO485.out))) (Kd.R_lt (by (with_reducible repeat (first | apply Kd.R_alloc | apply Kd.R_drewN | apply Kd.R_drew)); exact HO492.out))) (below_size bel)); have n5_ := Aside0.mk (blk_below (g := gb470) (o := .cells #[.int .i64 a1_0, .int .i64 a1_1, .int .i64 a1_2, .int .i64 a1_3] 35 (0, 0)) (blkq BK470.out) hb); have n6_ := Aside0.mk (below_step bel hb); clear HO474 HO481 HO485 HO492 BK470 HB; have HO474 := n0_; have HO481 := n1_; have HO485 := n2_; have HO492 := n3_; have HO497 := n4_; have BK470 := n5_; have HB := n6_; clear n0_ n1_ n2_ n3_ n4_ n5_ n6_; (try clear hb); (try clear hb2); (try clear hk); (try clear hi); (try clear ho0); obtain ⟨Ao51, co51, eo51⟩ := Kd.R_slice HO497.out; subst eo51) | ((with_reducible refine gate_callee (f := 12) rfl ?_); refine goesL1 54 Try.func12 #[.slice Ao45 t483.length co45, .slice Ao51 t495.length co51] ?_; (with_reducible refine (laws_eqSessionS.calls k _ _ t483 _ _ t495 true _ ?side1 ?side2 ?side3 ?side4 A17.out).mono ?_); (case side1 => repeat (first | exact (Kd.R_reads' HO485.out).2.2 | (with_reducible refine Kd.C_alloc ?_ _) | (with_reducible refine Kd.C_drewN ?_ _) | (with_reducible refine Kd.C_drew ?_))); (case side2 => exact (Kd.R_reads' HO485.out).2.1); (case side3 => repeat (first | exact (Kd.R_reads' HO497.out).2.2 | (with_reducible refine Kd.C_alloc ?_ _) | (with_reducible refine Kd.C_drewN ?_ _) | (with_reducible refine Kd.C_drew ?_))); (case side4 => exact (Kd.R_reads' HO497.out).2.1); rintro e w52 ⟨rfl, hb⟩; refine ⟨_, rfl, ?_⟩; have n0_ := Aside0.mk (Kd.R_below (by (with_reducible repeat (first | apply Kd.R_alloc | apply Kd.R_drewN | apply Kd.R_drew)); exact HO474.out) hb); have n1_ := Aside0.mk (Kd.R_below (by (with_reducible repeat (first | apply Kd.R_alloc | apply Kd.R_drewN | apply Kd.R_drew)); exact HO481.out) hb); have n2_ := Aside0.mk (Kd.R_below (by (with_reducible repeat (first | apply Kd.R_alloc | apply Kd.R_drewN | apply Kd.R_drew)); exact HO485.out) hb); have n3_ := Aside0.mk (Kd.R_below (by (with_reducible repeat (first | apply Kd.R_alloc | apply Kd.R_drewN | apply Kd.R_drew)); exact HO492.out) hb); have n4_ := Aside0.mk (Kd.R_below (by (with_reducible repeat (first | apply Kd.R_alloc | apply Kd.R_drewN | apply Kd.R_drew)); exact HO497.out) hb); have n5_ := Aside0.mk (blk_below (g := gb470) (o := .cells #[.int .i64 a1_0, .int .i64 a1_1, .int .i64 a1_2, .int .i64 a1_3] 35 (0, 0)) (blkq BK470.out) hb); have n6_ := Aside0.mk (below_step bel hb); clear HO474 HO481 HO485 HO492 HO497 BK470 HB; have HO474 := n0_; have HO481 := n1_; have HO485 := n2_; have HO492 := n3_; have HO497 := n4_; have BK470 := n5_; have HB := n6_; clear n0_ n1_ n2_ n3_ n4_ n5_ n6_; (try clear hb); (try clear hb2); (try clear hk); (try clear hi)) | ((with_reducible refine gate_callee (f := 15) rfl ?_); refine goesL1 58 Try.func15 #[.slice Ao45 t483.length co45, .int .i64 1] ?_; (with_reducible refine (laws_markSessionS.calls k (fun k_ => some k_ = (.slice Ao45 t483.length co45 : Value).ownBlock) (.slice Ao45 t483.length co45) t483 1 t499 t500 w _ ?side1 ?side2 A19.out).mono ?_); (case side1 => exact bel); (case side2 => exact Kd.R_tight rfl HO485.out); rintro e w53 ⟨rfl, hy0, hb, hkp⟩; refine ⟨_, rfl, ?_⟩; have n0_ := Aside0.mk (blk_kept (blkq BK470.out) hkp (fun hs_ => (fun e_ => (Kd.R_ne HO485.out BK470.out (by decide)) e_) hs_)); have n1_ := Aside0.mk (Kd.R_mono (ok' := fun k_ => some k_ ≠ (.slice Ao48 t479.length co48 : Value).ownBlock ∧ some k_ ≠ (.slice Ao45 t483.length co45 : Value).ownBlock ∧ some k_ ≠ (.slice Ao47 t490.length co47 : Value).ownBlock ∧ some k_ ≠ (.slice Ao51 t495.length co51 : Value).ownBlock) (Kd.R_keptB (HO474.out) hkp (fun k_ hk_ hs_ => (hk_.1.1.2) hs_)) (fun k_ hk_ => ⟨hk_.1.1.1.1.2, hk_.1.1.1.2, hk_.1.1.2, hk_.1.2⟩)); have n2_ := Aside0.mk (Kd.R_mono (ok' := fun k_ => some k_ ≠ (.slice Ao40 t472.length co40 : Value).ownBlock ∧ some k_ ≠ (.slice Ao45 t483.length co45 : Value).ownBlock ∧ some k_ ≠ (.slice Ao47 t490.length co47 : Value).ownBlock ∧ some k_ ≠ (.slice Ao51 t495.length co51 : Value).ownBlock) (Kd.R_keptB (HO481.out) hkp (fun k_ hk_ hs_ => (hk_.1.1.2) hs_)) (fun k_ hk_ => ⟨hk_.1.1.1.1.2, hk_.1.1.1.2, hk_.1.1.2, hk_.1.2⟩)); have n3_ := Aside0.mk (Kd.R_reok rfl hy0 (fun k_ e_ => HO485.out.1 k_ e_)); have n4_ := Aside0.mk (Kd.R_mono (ok' := fun k_ => some k_ ≠ (.slice Ao40 t472.length co40 : Value).ownBlock ∧ some k_ ≠ (.slice Ao48 t479.length co48 : Value).ownBlock ∧ some k_ ≠ (.slice Ao45 t483.length co45 : Value).ownBlock ∧ some k_ ≠ (.slice Ao51 t495.length co51 : Value).ownBlock) (Kd.R_keptB (HO492.out) hkp (fun k_ hk_ hs_ => (hk_.1.2) hs_)) (fun k_ hk_ => ⟨hk_.1.1.1.1.2, hk_.1.1.1.2, hk_.1.1.2, hk_.1.2⟩)); have n5_ := Aside0.mk (Kd.R_mono (ok' := fun k_ => some k_ ≠ (.slice Ao40 t472.length co40 : Value).ownBlock ∧ some k_ ≠ (.slice Ao48 t479.length co48 : Value).ownBlock ∧ some k_ ≠ (.slice Ao45 t483.length co45 : Value).ownBlock ∧ some k_ ≠ (.slice Ao47 t490.length co47 : Value).ownBlock) (Kd.R_keptB (HO497.out) hkp (fun k_ hk_ hs_ => (hk_.1.2) hs_)) (fun k_ hk_ => ⟨hk_.1.1.1.1.2, hk_.1.1.1.2, hk_.1.1.2, hk_.1.2⟩)); have n6_ := Aside0.mk (hb); clear BK470 HO474 HO481 HO485 HO492 HO497 HB; have BK470 := n0_; have HO474 := n1_; have HO481 := n2_; have HO485 := n3_; have HO492 := n4_; have HO497 := n5_; have HB := n6_; clear n0_ n1_ n2_ n3_ n4_ n5_ n6_; (try clear hb); (try clear hkp); (try clear hy0)) | (go_at_call 12; (with_reducible refine (laws_eqSessionS.calls k _ _ t490 _ _ t479 true _ ?side1 ?side2 ?side3 ?side4 A21.out).mono ?_); (case side1 => repeat (first | exact (Kd.R_reads' HO492.out).2.2 | (with_reducible refine Kd.C_alloc ?_ _) | (with_reducible refine Kd.C_drewN ?_ _) | (with_reducible refine Kd.C_drew ?_))); (case side2 => exact (Kd.R_reads' HO492.out).2.1); (case side3 => repeat (first | exact (Kd.R_reads' HO481.out).2.2 | (with_reducible refine Kd.C_alloc ?_ _) | (with_reducible refine Kd.C_drewN ?_ _) | (with_reducible refine Kd.C_drew ?_))); (case side4 => exact (Kd.R_reads' HO481.out).2.1); rintro e w54 ⟨rfl, hb⟩; have n0_ := Aside0.mk (Kd.R_below (by (with_reducible repeat (first | apply Kd.R_alloc | apply Kd.R_drewN | apply Kd.R_drew)); exact HO474.out) hb); have n1_ := Aside0.mk (Kd.R_below (by (with_reducible repeat (first | apply Kd.R_alloc | apply Kd.R_drewN | apply Kd.R_drew)); exact HO481.out) hb); have n2_ := Aside0.mk (Kd.R_below (by (with_reducible repeat (first | apply Kd.R_alloc | apply Kd.R_drewN | apply Kd.R_drew)); exact HO485.out) hb); have n3_ := Aside0.mk (Kd.R_below (by (with_reducible repeat (first | apply Kd.R_alloc | apply Kd.R_drewN | apply Kd.R_drew)); exact HO492.out) hb); have n4_ := Aside0.mk (Kd.R_below (by (with_reducible repeat (first | apply Kd.R_alloc | apply Kd.R_drewN | apply Kd.R_drew)); exact HO497.out) hb); have n5_ := Aside0.mk (blk_below (g := gb470) (o := .cells #[.int .i64 a1_0, .int .i64 a1_1, .int .i64 a1_2, .int .i64 a1_3] 35 (0, 0)) (blkq BK470.out) hb); have n6_ := Aside0.mk (below_step bel hb); clear HO474 HO481 HO485 HO492 HO497 BK470 HB; have HO474 := n0_; have HO481 := n1_; have HO485 := n2_; have HO492 := n3_; have HO497 := n4_; have BK470 := n5_; have HB := n6_; clear n0_ n1_ n2_ n3_ n4_ n5_ n6_; (try clear hb); (try clear hb2); (try clear hk); (try clear hi)) | ((with_reducible refine gate_callee (f := 15) rfl ?_); refine goesL1 74 Try.func15 #[.slice Ao47 t490.length co47, .int .i64 1] ?_; (with_reducible refine (laws_markSessionS.calls k (fun k_ => some k_ = (.slice Ao47 t490.length co47 : Value).ownBlock) (.slice Ao47 t490.length co47) t490 1 t502 t503 w _ ?side1 ?side2 A23.out).mono ?_); (case side1 => exact bel); (case side2 => exact Kd.R_tight rfl HO492.out); rintro e w55 ⟨rfl, hy0, hb, hkp⟩; refine ⟨_, rfl, ?_⟩; have n0_ := Aside0.mk (blk_kept (blkq BK470.out) hkp (fun hs_ => (fun e_ => (Kd.R_ne HO492.out BK470.out (by decide)) e_) hs_)); have n1_ := Aside0.mk (Kd.R_mono (ok' := fun k_ => some k_ ≠ (.slice Ao48 t479.length co48 : Value).ownBlock ∧ some k_ ≠ (.slice Ao45 t483.length co45 : Value).ownBlock ∧ some k_ ≠ (.slice Ao47 t490.length co47 : Value).ownBlock ∧ some k_ ≠ (.slice Ao51 t495.length co51 : Value).ownBlock) (Kd.R_keptB (HO474.out) hkp (fun k_ hk_ hs_ => (hk_.2.2.1) hs_)) (fun k_ hk_ => ⟨hk_.1.1, hk_.1.2.1, hk_.1.2.2.1, hk_.1.2.2.2⟩)); have n2_ := Aside0.mk (Kd.R_mono (ok' := fun k_ => some k_ ≠ (.slice Ao40 t472.length co40 : Value).ownBlock ∧ some k_ ≠ (.slice Ao45 t483.length co45 : Value).ownBlock ∧ some k_ ≠ (.slice Ao47 t490.length co47 : Value).ownBlock ∧ some k_ ≠ (.slice Ao51 t495.length co51 : Value).ownBlock) (Kd.R_keptB (HO481.out) hkp (fun k_ hk_ hs_ => (hk_.2.2.1) hs_)) (fun k_ hk_ => ⟨hk_.1.1, hk_.1.2.1, hk_.1.2.2.1, hk_.1.2.2.2⟩)); have n3_ := Aside0.mk (Kd.R_mono (ok' := fun k_ => some k_ ≠ (.slice Ao40 t472.length co40 : Value).ownBlock ∧ some k_ ≠ (.slice Ao48 t479.length co48 : Value).ownBlock ∧ some k_ ≠ (.slice Ao47 t490.length co47 : Value).ownBlock ∧ some k_ ≠ (.slice Ao51 t495.length co51 : Value).ownBlock) (Kd.R_keptB (HO485.out) hkp (fun k_ hk_ hs_ => (hk_.1.2) hs_)) (fun k_ hk_ => ⟨hk_.1.1.1.1.2, hk_.1.1.1.2, hk_.1.1.2, hk_.1.2⟩)); have n4_ := Aside0.mk (Kd.R_reok rfl hy0 (fun k_ e_ => HO492.out.1 k_ e_)); have n5_ := Aside0.mk (Kd.R_mono (ok' := fun k_ => some k_ ≠ (.slice Ao40 t472.length co40 : Value).ownBlock ∧ some k_ ≠ (.slice Ao48 t479.length co48 : Value).ownBlock ∧ some k_ ≠ (.slice Ao45 t483.length co45 : Value).ownBlock ∧ some k_ ≠ (.slice Ao47 t490.length co47 : Value).ownBlock) (Kd.R_keptB (HO497.out) hkp (fun k_ hk_ hs_ => (hk_.2.2.2) hs_)) (fun k_ hk_ => ⟨hk_.1.1, hk_.1.2.1, hk_.1.2.2.1, hk_.1.2.2.2⟩)); have n6_ := Aside0.mk (hb); clear BK470 HO474 HO481 HO485 HO492 HO497 HB; have BK470 := n0_; have HO474 := n1_; have HO481 := n2_; have HO485 := n3_; have HO492 := n4_; have HO497 := n5_; have HB := n6_; clear n0_ n1_ n2_ n3_ n4_ n5_ n6_; (try clear hb); (try clear hkp); (try clear hy0)) | ((with_reducible refine gate_callee (f := 16) rfl ?_); refine goesL_ (some 77) rfl rfl Try.func16 (by kernel_rfl) rfl #[.slice Ao47 t503.length co47, .int .i64 1] rfl (by (try simp only [List.map_toArray, List.map_cons, List.map_nil]); first | done | (rw [show t503.length = t490.length from (Kd.R_reads' HO492.out).1.symm] <;> rfl) | rfl | (simp only [List.length_drop, List.length_take]; rfl)) ?_; (with_reducible refine (laws_heldSessionS.calls k _ _ t503 1 t504 _ ?side1 ?side2 A24.out).mono ?_); (case side1 => repeat (first | exact (Kd.R_reads' HO492.out).2.2 | (with_reducible refine Kd.C_alloc ?_ _) | (with_reducible refine Kd.C_drewN ?_ _) | (with_reducible refine Kd.C_drew ?_))); (case side2 => rw [show t503.length = t490.length from (Kd.R_reads' HO492.out).1.symm]; exact (Kd.R_reads' HO492.out).2.1); rintro e w' ⟨rfl, ⟨nd, rfl⟩⟩; refine ⟨_, rfl, ?_⟩))
                          (try (rw [drewN_self w55]; generalize hq_ : World.drewN w55 _ = w55; have n0_ : Aside0 (Kd.R k70 70 w55 w.heap.size (fun k_ => some k_ ≠ (.slice Ao48 t479.length co48 : Value).ownBlock ∧ some k_ ≠ (.slice Ao45 t483.length co45 : Value).ownBlock ∧ some k_ ≠ (.slice Ao47 t490.length co47 : Value).ownBlock ∧ some k_ ≠ (.slice Ao51 t495.length co51 : Value).ownBlock) (.slice Ao40 t472.length co40) t472) := ⟨by rw [← hq_]; exact (by (with_reducible repeat (first | apply Kd.R_alloc | apply Kd.R_drewN | apply Kd.R_drew)); exact HO474.out)⟩; have n1_ : Aside0 (Kd.R k70 70 w55 w.heap.size (fun k_ => some k_ ≠ (.slice Ao40 t472.length co40 : Value).ownBlock ∧ some k_ ≠ (.slice Ao45 t483.length co45 : Value).ownBlock ∧ some k_ ≠ (.slice Ao47 t490.length co47 : Value).ownBlock ∧ some k_ ≠ (.slice Ao51 t495.length co51 : Value).ownBlock) (.slice Ao48 t479.length co48) t479) := ⟨by rw [← hq_]; exact (by (with_reducible repeat (first | apply Kd.R_alloc | apply Kd.R_drewN | apply Kd.R_drew)); exact HO481.out)⟩; have n2_ : Aside0 (Kd.R k70 70 w55 w.heap.size (fun k_ => some k_ ≠ (.slice Ao40 t472.length co40 : Value).ownBlock ∧ some k_ ≠ (.slice Ao48 t479.length co48 : Value).ownBlock ∧ some k_ ≠ (.slice Ao47 t490.length co47 : Value).ownBlock ∧ some k_ ≠ (.slice Ao51 t495.length co51 : Value).ownBlock) (.slice Ao45 t483.length co45) t500) := ⟨by rw [← hq_]; exact (by (with_reducible repeat (first | apply Kd.R_alloc | apply Kd.R_drewN | apply Kd.R_drew)); exact HO485.out)⟩; have n3_ : Aside0 (Kd.R k70 70 w55 w.heap.size (fun k_ => some k_ ≠ (.slice Ao40 t472.length co40 : Value).ownBlock ∧ some k_ ≠ (.slice Ao48 t479.length co48 : Value).ownBlock ∧ some k_ ≠ (.slice Ao45 t483.length co45 : Value).ownBlock ∧ some k_ ≠ (.slice Ao51 t495.length co51 : Value).ownBlock) (.slice Ao47 t490.length co47) t503) := ⟨by rw [← hq_]; exact (by (with_reducible repeat (first | apply Kd.R_alloc | apply Kd.R_drewN | apply Kd.R_drew)); exact HO492.out)⟩; have n4_ : Aside0 (Kd.R k70 70 w55 w.heap.size (fun k_ => some k_ ≠ (.slice Ao40 t472.length co40 : Value).ownBlock ∧ some k_ ≠ (.slice Ao48 t479.length co48 : Value).ownBlock ∧ some k_ ≠ (.slice Ao45 t483.length co45 : Value).ownBlock ∧ some k_ ≠ (.slice Ao47 t490.length co47 : Value).ownBlock) (.slice Ao51 t495.length co51) t495) := ⟨by rw [← hq_]; exact (by (with_reducible repeat (first | apply Kd.R_alloc | apply Kd.R_drewN | apply Kd.R_drew)); exact HO497.out)⟩; have n5_ : Aside0 (w55.heap[gb470]? = some (.cells #[.int .i64 a1_0, .int .i64 a1_1, .int .i64 a1_2, .int .i64 a1_3] 35 (0, 0))) := ⟨by rw [← hq_]; exact (blkq BK470.out)⟩; have n6_ : Aside0 (Below w.heap.size w w55) := ⟨by rw [← hq_]; exact bel⟩; clear HO474 HO481 HO485 HO492 HO497 BK470 HB hq_; have HO474 := n0_; have HO481 := n1_; have HO485 := n2_; have HO492 := n3_; have HO497 := n4_; have BK470 := n5_; have HB := n6_; clear n0_ n1_ n2_ n3_ n4_ n5_ n6_))
                          have n0_ := Aside0.mk (Kd.R_drew HO474.out)
                          have n1_ := Aside0.mk (Kd.R_drew HO481.out)
                          have n2_ := Aside0.mk (Kd.R_drew HO485.out)
                          have n3_ := Aside0.mk (Kd.R_drew HO492.out)
                          have n4_ := Aside0.mk (Kd.R_drew HO497.out)
                          have n5_ := Aside0.mk (blk_drew BK470.out)
                          have n6_ := Aside0.mk (below_drew1 HB.out)
                          clear HO474 HO481 HO485 HO492 HO497 BK470 HB
                          have HO474 := n0_
                          have HO481 := n1_
                          have HO485 := n2_
                          have HO492 := n3_
                          have HO497 := n4_
                          have BK470 := n5_
                          have HB := n6_
                          clear n0_ n1_ n2_ n3_ n4_ n5_ n6_
                          refine start_ (n := 11) (S := fun w' => w'.cell? ⟨gb470, 0, none⟩ = some (.int .i64 a1_0) ∧ w'.cell? ⟨gb470, 1, none⟩ = some (.int .i64 a1_1) ∧ w'.cell? ⟨gb470, 2, none⟩ = some (.int .i64 a1_2) ∧ w'.cell? ⟨gb470, 3, none⟩ = some (.int .i64 a1_3)) (ds := []) #[false, false, false, false, false, false, false, false, false, false, false] (by kernel_rfl) rfl rfl ⟨(blk_cell BK470.out 0).trans rfl, (blk_cell BK470.out 1).trans rfl, (blk_cell BK470.out 2).trans rfl, (blk_cell BK470.out 3).trans rfl⟩ (fun hHeld => ?_); refine with_tabW laws_FnExactAddToSessions.tab24 laws_FnExactAddToSessions.bits24 (fun HT_ HW_ => ?_)
                          generalize w55.drew = w56 at HO474 HO481 HO485 HO492 HO497 BK470 HB hHeld ⊢
                          refine pure_ (i := 0) (N := some 84) (v := ?_) (a' := ?_) #[true, false, false, false, false, false, false, false, false, false, false] rfl rfl (any_of HT_.out (by kernel_rfl)) (fun _ _ _ h => h) (Or.inl ⟨by rfl, ?_⟩) ?_ ?_
                          rotate_left
                          · intro w'
                            go_simp
                            with_reducible rfl
                          rotate_left
                          · simp only [Act.put, List.setIfInBounds_toArray, List.set_cons_zero, List.set_cons_succ, i64_w, i32_w]
                            rfl
                          refine pure_ (i := 4) (N := some 88) (v := ?_) (a' := ?_) #[true, false, false, false, true, false, false, false, false, false, false] rfl rfl (any_of HT_.out (by kernel_rfl)) (fun _ _ _ h => h) (Or.inl ⟨by rfl, ?_⟩) ?_ ?_
                          rotate_left
                          · intro w'
                            go_simp
                            with_reducible rfl
                          rotate_left
                          · simp only [Act.put, List.setIfInBounds_toArray, List.set_cons_zero, List.set_cons_succ, i64_w, i32_w]
                            rfl
                          refine take_ (i := 2) (N := some 86) (v := ?_) (a' := ?_) #[true, false, true, false, true, false, false, false, false, false, false] rfl rfl (take_ofW HT_.out HW_.out (by kernel_rfl)) (fun _ _ _ h => h) (Or.inl ⟨by rfl, ?_⟩) hHeld ?_ ?_
                          rotate_left
                          · rintro w' ⟨s0, s1, s2, s3⟩
                            go_simp
                            with_reducible rfl
                          rotate_left
                          · simp only [Act.put, List.setIfInBounds_toArray, List.set_cons_zero, List.set_cons_succ, i64_w, i32_w]
                            rfl
                          refine one_ (i := 1) (N := some 85) #[true, true, true, false, true, false, false, false, false, false, false] rfl rfl (one_of HT_.out (by kernel_rfl)) (by decide) (fun K hK => ?_)
                          refine goes_ Try.func19 (by kernel_rfl) rfl #[.slice A0 l0.length c0] (by rfl) rfl rfl (by (try simp only [List.map_toArray, List.map_cons, List.map_nil]); first | done | rfl | (simp only [List.length_drop, List.length_take]; rfl)) ?_
                          with_reducible refine (laws_toSessionS.calls k _ _ l0 t505 _ ?side1 ?side2 A27.out).mono ?_
                          (case side1 => repeat (first | exact (Kd.C_below HR0.out HB.out) | (with_reducible refine Kd.C_alloc ?_ _) | (with_reducible refine Kd.C_drewN ?_ _) | (with_reducible refine Kd.C_drew ?_)))
                          (case side2 => exact HC0.out)
                          rintro e w57 ⟨v506, rfl, ho0, hb⟩
                          refine ⟨_, rfl, ?_⟩
                          have n0_ := Aside0.mk (Kd.R_elder' (by (with_reducible repeat (first | apply Kd.R_alloc | apply Kd.R_drewN | apply Kd.R_drew)); exact HO474.out) (Kd.R_base ho0) hb)
                          have n1_ := Aside0.mk (Kd.R_elder' (by (with_reducible repeat (first | apply Kd.R_alloc | apply Kd.R_drewN | apply Kd.R_drew)); exact HO481.out) (Kd.R_base ho0) hb)
                          have n2_ := Aside0.mk (Kd.R_elder' (by (with_reducible repeat (first | apply Kd.R_alloc | apply Kd.R_drewN | apply Kd.R_drew)); exact HO485.out) (Kd.R_base ho0) hb)
                          have n3_ := Aside0.mk (Kd.R_elder' (by (with_reducible repeat (first | apply Kd.R_alloc | apply Kd.R_drewN | apply Kd.R_drew)); exact HO492.out) (Kd.R_base ho0) hb)
                          have n4_ := Aside0.mk (Kd.R_elder' (by (with_reducible repeat (first | apply Kd.R_alloc | apply Kd.R_drewN | apply Kd.R_drew)); exact HO497.out) (Kd.R_base ho0) hb)
                          have n5_ := Aside0.mk (Kd.R_lower (Kd.R_new' (Kd.R_new' (Kd.R_new' (Kd.R_new' (Kd.R_new' ho0 (Kd.R_lt (by (with_reducible repeat (first | apply Kd.R_alloc | apply Kd.R_drewN | apply Kd.R_drew)); exact HO474.out))) (Kd.R_lt (by (with_reducible repeat (first | apply Kd.R_alloc | apply Kd.R_drewN | apply Kd.R_drew)); exact HO481.out))) (Kd.R_lt (by (with_reducible repeat (first | apply Kd.R_alloc | apply Kd.R_drewN | apply Kd.R_drew)); exact HO485.out))) (Kd.R_lt (by (with_reducible repeat (first | apply Kd.R_alloc | apply Kd.R_drewN | apply Kd.R_drew)); exact HO492.out))) (Kd.R_lt (by (with_reducible repeat (first | apply Kd.R_alloc | apply Kd.R_drewN | apply Kd.R_drew)); exact HO497.out))) (below_size bel))
                          have n6_ := Aside0.mk (blk_below (g := gb470) (o := .cells #[.int .i64 a1_0, .int .i64 a1_1, .int .i64 a1_2, .int .i64 a1_3] 35 (0, 0)) (blkq BK470.out) hb)
                          have n7_ := Aside0.mk (below_step bel hb)
                          clear HO474 HO481 HO485 HO492 HO497 BK470 HB
                          have HO474 := n0_
                          have HO481 := n1_
                          have HO485 := n2_
                          have HO492 := n3_
                          have HO497 := n4_
                          have HO507 := n5_
                          have BK470 := n6_
                          have HB := n7_
                          clear n0_ n1_ n2_ n3_ n4_ n5_ n6_ n7_
                          (try clear hb)
                          (try clear hb2)
                          (try clear hk)
                          (try clear hi)
                          (try clear ho0)
                          refine hK.out _ _ ⟨(blk_cell BK470.out 0).trans rfl, (blk_cell BK470.out 1).trans rfl, (blk_cell BK470.out 2).trans rfl, (blk_cell BK470.out 3).trans rfl⟩ (fun hHeld => ?_)
                          clear hK K
                          refine norm_ (a' := ?_) ?_ ?_
                          rotate_left
                          · show Act.put _ (some 85) _ = _
                            simp only [Act.put, List.setIfInBounds_toArray, List.set_cons_zero, List.set_cons_succ, i64_w, i32_w]
                            rfl
                          refine one_ (i := 3) (N := some 87) #[true, true, true, true, true, false, false, false, false, false, false] rfl rfl (one_of HT_.out (by kernel_rfl)) (by decide) (fun K hK => ?_)
                          refine goes_ Try.func20 (by kernel_rfl) rfl #[.agg #[.int .i64 a1_0, .int .i64 a1_1, .int .i64 a1_2, .int .i64 a1_3]] (by rfl) rfl rfl (by (try simp only [List.map_toArray, List.map_cons, List.map_nil]); first | done | rfl | (simp only [List.length_drop, List.length_take]; rfl)) ?_
                          with_reducible refine (laws_toFrame.calls a1_0 a1_1 a1_2 a1_3 t508 t509 t510 t511 _ A28.out).mono ?_
                          rintro e w58 ⟨rfl, hb⟩
                          refine ⟨_, rfl, ?_⟩
                          have n0_ := Aside0.mk (Kd.R_below (by (with_reducible repeat (first | apply Kd.R_alloc | apply Kd.R_drewN | apply Kd.R_drew)); exact HO474.out) hb)
                          have n1_ := Aside0.mk (Kd.R_below (by (with_reducible repeat (first | apply Kd.R_alloc | apply Kd.R_drewN | apply Kd.R_drew)); exact HO481.out) hb)
                          have n2_ := Aside0.mk (Kd.R_below (by (with_reducible repeat (first | apply Kd.R_alloc | apply Kd.R_drewN | apply Kd.R_drew)); exact HO485.out) hb)
                          have n3_ := Aside0.mk (Kd.R_below (by (with_reducible repeat (first | apply Kd.R_alloc | apply Kd.R_drewN | apply Kd.R_drew)); exact HO492.out) hb)
                          have n4_ := Aside0.mk (Kd.R_below (by (with_reducible repeat (first | apply Kd.R_alloc | apply Kd.R_drewN | apply Kd.R_drew)); exact HO497.out) hb)
                          have n5_ := Aside0.mk (Kd.R_below (by (with_reducible repeat (first | apply Kd.R_alloc | apply Kd.R_drewN | apply Kd.R_drew)); exact HO507.out) hb)
                          have n6_ := Aside0.mk (blk_below (g := gb470) (o := .cells #[.int .i64 a1_0, .int .i64 a1_1, .int .i64 a1_2, .int .i64 a1_3] 35 (0, 0)) (blkq BK470.out) hb)
                          have n7_ := Aside0.mk (below_step bel hb)
                          clear HO474 HO481 HO485 HO492 HO497 HO507 BK470 HB
                          have HO474 := n0_
                          have HO481 := n1_
                          have HO485 := n2_
                          have HO492 := n3_
                          have HO497 := n4_
                          have HO507 := n5_
                          have BK470 := n6_
                          have HB := n7_
                          clear n0_ n1_ n2_ n3_ n4_ n5_ n6_ n7_
                          (try clear hb)
                          (try clear hb2)
                          (try clear hk)
                          (try clear hi)
                          obtain ⟨Ao59, co59, eo59⟩ := Kd.R_slice HO507.out
                          (first | subst eo59 | (injection eo59 with f1_ f2_ f3_; have f4_ := f1_.symm; have f5_ := f3_.symm; clear f1_ f2_ f3_; subst f4_; subst f5_))
                          refine hK.out _ _ ⟨(blk_cell BK470.out 0).trans rfl, (blk_cell BK470.out 1).trans rfl, (blk_cell BK470.out 2).trans rfl, (blk_cell BK470.out 3).trans rfl⟩ (fun hHeld => ?_)
                          clear hK K
                          refine norm_ (a' := ?_) ?_ ?_
                          rotate_left
                          · show Act.put _ (some 87) _ = _
                            simp only [Act.put, List.setIfInBounds_toArray, List.set_cons_zero, List.set_cons_succ, i64_w, i32_w]
                            rfl
                          refine one_ (i := 5) (N := some 89) #[true, true, true, true, true, true, false, false, false, false, false] rfl rfl (one_of HT_.out (by kernel_rfl)) (by decide) (fun K hK => ?_)
                          refine goes_ Try.func21 (by kernel_rfl) rfl #[.slice Ao59 t505.length co59, .agg #[.int .i64 t508, .int .i64 t509, .int .i64 t510, .int .i64 t511], .int .i64 a2] (by rfl) rfl rfl (by (try simp only [List.map_toArray, List.map_cons, List.map_nil]); first | done | rfl | (simp only [List.length_drop, List.length_take]; rfl)) ?_
                          with_reducible refine (impl_AddToSessions.calls k _ _ t505 t508 t509 t510 t511 a2 t512 t515 _ ?side1 ?side2 A29.out).mono ?_
                          (case side1 => repeat (first | exact (Kd.R_reads' HO507.out).2.2 | (with_reducible refine Kd.C_alloc ?_ _) | (with_reducible refine Kd.C_drewN ?_ _) | (with_reducible refine Kd.C_drew ?_)))
                          (case side2 => exact (Kd.R_reads' HO507.out).2.1)
                          rintro e w60 ⟨v513, rfl, ho0, hb⟩
                          refine ⟨_, rfl, ?_⟩
                          have n0_ := Aside0.mk (Kd.R_elder' (by (with_reducible repeat (first | apply Kd.R_alloc | apply Kd.R_drewN | apply Kd.R_drew)); exact HO474.out) (Kd.R_base ho0) hb)
                          have n1_ := Aside0.mk (Kd.R_elder' (by (with_reducible repeat (first | apply Kd.R_alloc | apply Kd.R_drewN | apply Kd.R_drew)); exact HO481.out) (Kd.R_base ho0) hb)
                          have n2_ := Aside0.mk (Kd.R_elder' (by (with_reducible repeat (first | apply Kd.R_alloc | apply Kd.R_drewN | apply Kd.R_drew)); exact HO485.out) (Kd.R_base ho0) hb)
                          have n3_ := Aside0.mk (Kd.R_elder' (by (with_reducible repeat (first | apply Kd.R_alloc | apply Kd.R_drewN | apply Kd.R_drew)); exact HO492.out) (Kd.R_base ho0) hb)
                          have n4_ := Aside0.mk (Kd.R_elder' (by (with_reducible repeat (first | apply Kd.R_alloc | apply Kd.R_drewN | apply Kd.R_drew)); exact HO497.out) (Kd.R_base ho0) hb)
                          have n5_ := Aside0.mk (Kd.R_elder' (by (with_reducible repeat (first | apply Kd.R_alloc | apply Kd.R_drewN | apply Kd.R_drew)); exact HO507.out) (Kd.R_base ho0) hb)
                          have n6_ := Aside0.mk (Kd.R_lower (Kd.R_new' (Kd.R_new' (Kd.R_new' (Kd.R_new' (Kd.R_new' (Kd.R_new' ho0 (Kd.R_lt (by (with_reducible repeat (first | apply Kd.R_alloc | apply Kd.R_drewN | apply Kd.R_drew)); exact HO474.out))) (Kd.R_lt (by (with_reducible repeat (first | apply Kd.R_alloc | apply Kd.R_drewN | apply Kd.R_drew)); exact HO481.out))) (Kd.R_lt (by (with_reducible repeat (first | apply Kd.R_alloc | apply Kd.R_drewN | apply Kd.R_drew)); exact HO485.out))) (Kd.R_lt (by (with_reducible repeat (first | apply Kd.R_alloc | apply Kd.R_drewN | apply Kd.R_drew)); exact HO492.out))) (Kd.R_lt (by (with_reducible repeat (first | apply Kd.R_alloc | apply Kd.R_drewN | apply Kd.R_drew)); exact HO497.out))) (Kd.R_lt (by (with_reducible repeat (first | apply Kd.R_alloc | apply Kd.R_drewN | apply Kd.R_drew)); exact HO507.out))) (below_size bel))
                          have n7_ := Aside0.mk (blk_below (g := gb470) (o := .cells #[.int .i64 a1_0, .int .i64 a1_1, .int .i64 a1_2, .int .i64 a1_3] 35 (0, 0)) (blkq BK470.out) hb)
                          have n8_ := Aside0.mk (below_step bel hb)
                          clear HO474 HO481 HO485 HO492 HO497 HO507 BK470 HB
                          have HO474 := n0_
                          have HO481 := n1_
                          have HO485 := n2_
                          have HO492 := n3_
                          have HO497 := n4_
                          have HO507 := n5_
                          have HO514 := n6_
                          have BK470 := n7_
                          have HB := n8_
                          clear n0_ n1_ n2_ n3_ n4_ n5_ n6_ n7_ n8_
                          (try clear hb)
                          (try clear hb2)
                          (try clear hk)
                          (try clear hi)
                          (try clear ho0)
                          refine hK.out _ _ ⟨(blk_cell BK470.out 0).trans rfl, (blk_cell BK470.out 1).trans rfl, (blk_cell BK470.out 2).trans rfl, (blk_cell BK470.out 3).trans rfl⟩ (fun hHeld => ?_)
                          clear hK K
                          refine norm_ (a' := ?_) ?_ ?_
                          rotate_left
                          · show Act.put _ (some 89) _ = _
                            simp only [Act.put, List.setIfInBounds_toArray, List.set_cons_zero, List.set_cons_succ, i64_w, i32_w]
                            rfl
                          refine pure_ (i := 6) (N := some 83) (v := ?_) (a' := ?_) #[true, true, true, true, true, true, true, false, false, false, false] rfl rfl (any_of HT_.out (by kernel_rfl)) (fun _ _ _ h => h) (Or.inl ⟨by rfl, ?_⟩) ?_ ?_
                          rotate_left
                          · intro w'
                            go_simp
                            with_reducible rfl
                          rotate_left
                          · simp only [Act.put, List.setIfInBounds_toArray, List.set_cons_zero, List.set_cons_succ, i64_w, i32_w]
                            rfl
                          refine pure_ (i := 7) (N := some 90) (v := ?_) (a' := ?_) #[true, true, true, true, true, true, true, true, false, false, false] rfl rfl (any_of HT_.out (by kernel_rfl)) (fun _ _ _ h => h) (Or.inl ⟨by rfl, ?_⟩) ?_ ?_
                          rotate_left
                          · intro w'
                            go_simp
                            with_reducible rfl
                          rotate_left
                          · simp only [Act.put, List.setIfInBounds_toArray, List.set_cons_zero, List.set_cons_succ, i64_w, i32_w]
                            rfl
                          refine pure_ (i := 8) (N := some 91) (v := ?_) (a' := ?_) #[true, true, true, true, true, true, true, true, true, false, false] rfl rfl (any_of HT_.out (by kernel_rfl)) (fun _ _ _ h => h) (Or.inl ⟨by rfl, ?_⟩) ?_ ?_
                          rotate_left
                          · intro w'
                            go_simp
                            with_reducible rfl
                          rotate_left
                          · simp only [Act.put, List.setIfInBounds_toArray, List.set_cons_zero, List.set_cons_succ, i64_w, i32_w]
                            rfl
                          refine pure_ (i := 9) (N := some 16) (v := ?_) (a' := ?_) #[true, true, true, true, true, true, true, true, true, true, false] rfl rfl (any_of HT_.out (by kernel_rfl)) (fun _ _ _ h => h) (Or.inl ⟨by rfl, ?_⟩) ?_ ?_
                          rotate_left
                          · intro w'
                            go_simp
                            with_reducible rfl
                          rotate_left
                          · simp only [Act.put, List.setIfInBounds_toArray, List.set_cons_zero, List.set_cons_succ, i64_w, i32_w]
                            rfl
                          refine pure_ (i := 10) (N := some 17) (v := ?_) (a' := ?_) #[true, true, true, true, true, true, true, true, true, true, true] rfl rfl (any_of HT_.out (by kernel_rfl)) (fun _ _ _ h => h) (Or.inl ⟨by rfl, ?_⟩) ?_ ?_
                          rotate_left
                          · intro w'
                            go_simp
                            with_reducible rfl
                          rotate_left
                          · simp only [Act.put, List.setIfInBounds_toArray, List.set_cons_zero, List.set_cons_succ, i64_w, i32_w]
                            rfl
                          refine done_ (done_of HT_.out (by kernel_rfl)) ?_
                          obtain ⟨Ao61, co61, eo61⟩ := Kd.R_slice HO514.out
                          subst eo61
                          try go_wp2_with (first | ((with_reducible refine gate_callee (f := 12) rfl ?_); refine goesL1 94 Try.func12 #[.slice Ao61 t512.length co61, .slice Ao48 t479.length co48] ?_; (with_reducible refine (laws_eqSessionS.calls k _ _ t512 _ _ t479 true _ ?side1 ?side2 ?side3 ?side4 A30.out).mono ?_); (case side1 => repeat (first | exact (Kd.R_reads' HO514.out).2.2 | (with_reducible refine Kd.C_alloc ?_ _) | (with_reducible refine Kd.C_drewN ?_ _) | (with_reducible refine Kd.C_drew ?_))); (case side2 => exact (Kd.R_reads' HO514.out).2.1); (case side3 => repeat (first | exact (Kd.R_reads' HO481.out).2.2 | (with_reducible refine Kd.C_alloc ?_ _) | (with_reducible refine Kd.C_drewN ?_ _) | (with_reducible refine Kd.C_drew ?_))); (case side4 => exact (Kd.R_reads' HO481.out).2.1); rintro e w62 ⟨rfl, hb⟩; refine ⟨_, rfl, ?_⟩; have n0_ := Aside0.mk (Kd.R_below (by (with_reducible repeat (first | apply Kd.R_alloc | apply Kd.R_drewN | apply Kd.R_drew)); exact HO474.out) hb); have n1_ := Aside0.mk (Kd.R_below (by (with_reducible repeat (first | apply Kd.R_alloc | apply Kd.R_drewN | apply Kd.R_drew)); exact HO481.out) hb); have n2_ := Aside0.mk (Kd.R_below (by (with_reducible repeat (first | apply Kd.R_alloc | apply Kd.R_drewN | apply Kd.R_drew)); exact HO485.out) hb); have n3_ := Aside0.mk (Kd.R_below (by (with_reducible repeat (first | apply Kd.R_alloc | apply Kd.R_drewN | apply Kd.R_drew)); exact HO492.out) hb); have n4_ := Aside0.mk (Kd.R_below (by (with_reducible repeat (first | apply Kd.R_alloc | apply Kd.R_drewN | apply Kd.R_drew)); exact HO497.out) hb); have n5_ := Aside0.mk (Kd.R_below (by (with_reducible repeat (first | apply Kd.R_alloc | apply Kd.R_drewN | apply Kd.R_drew)); exact HO507.out) hb); have n6_ := Aside0.mk (Kd.R_below (by (with_reducible repeat (first | apply Kd.R_alloc | apply Kd.R_drewN | apply Kd.R_drew)); exact HO514.out) hb); have n7_ := Aside0.mk (blk_below (g := gb470) (o := .cells #[.int .i64 a1_0, .int .i64 a1_1, .int .i64 a1_2, .int .i64 a1_3] 35 (0, 0)) (blkq BK470.out) hb); have n8_ := Aside0.mk (below_step bel hb); clear HO474 HO481 HO485 HO492 HO497 HO507 HO514 BK470 HB; have HO474 := n0_; have HO481 := n1_; have HO485 := n2_; have HO492 := n3_; have HO497 := n4_; have HO507 := n5_; have HO514 := n6_; have BK470 := n7_; have HB := n8_; clear n0_ n1_ n2_ n3_ n4_ n5_ n6_ n7_ n8_; (try clear hb); (try clear hb2); (try clear hk); (try clear hi)) | ((with_reducible refine gate_callee (f := 16) rfl ?_); refine goesL_ (some 103) rfl rfl Try.func16 (by kernel_rfl) rfl #[.slice Ao47 t503.length co47, .int .i64 1] rfl (by (try simp only [List.map_toArray, List.map_cons, List.map_nil]); first | done | (rw [show t503.length = t490.length from (Kd.R_reads' HO492.out).1.symm] <;> rfl) | rfl | (simp only [List.length_drop, List.length_take]; rfl)) ?_; (with_reducible refine (laws_heldSessionS.calls k _ _ t503 1 t517 _ ?side1 ?side2 A33.out).mono ?_); (case side1 => repeat (first | exact (Kd.R_reads' HO492.out).2.2 | (with_reducible refine Kd.C_alloc ?_ _) | (with_reducible refine Kd.C_drewN ?_ _) | (with_reducible refine Kd.C_drew ?_))); (case side2 => rw [show t503.length = t490.length from (Kd.R_reads' HO492.out).1.symm]; exact (Kd.R_reads' HO492.out).2.1); rintro e w' ⟨rfl, ⟨nd, rfl⟩⟩; refine ⟨_, rfl, ?_⟩))
                          go_ret
                          exact ⟨by first | rfl | (simp [errW_none, errW_some] <;> rfl) | (simp [*, errW_none, errW_some] <;> rfl), by repeat (first | (with_reducible first | exact HB.out | apply below_alloc | apply pw_below_drewN | apply below_drew1 | refine below_set ?_ GE470.out) | exact HB.out)⟩
                        · rw [if_neg c35] at H
                          exact absurd H (by simp)
                  · replace c31 := Bool.eq_false_iff.mpr c31
                    subst c31
                    have H1 : (none) = some r := by rw [if_neg (show ¬ (false = true) by decide)] at H; exact H
                    clear H
                    have H := H1
                    clear H1
                    exact absurd H (by simp)
                · rw [if_neg c26] at H
                  exact absurd H (by simp)
            · replace c22 := Bool.eq_false_iff.mpr c22
              subst c22
              have H1 : (none) = some r := by rw [if_neg (show ¬ (false = true) by decide)] at H; exact H
              clear H
              have H := H1
              clear H1
              exact absurd H (by simp)
        · replace c18 := Bool.eq_false_iff.mpr c18
          subst c18
          have H1 : (none) = some r := by rw [if_neg (show ¬ (false = true) by decide)] at H; exact H
          clear H
          have H := H1
          clear H1
          exact absurd H (by simp)
    · replace c14 := Bool.eq_false_iff.mpr c14
      subst c14
      have H1 : (none) = some r := by rw [if_neg (show ¬ (false = true) by decide)] at H; exact H
      clear H
      have H := H1
      clear H1
      exact absurd H (by simp)
end Go.Proofs.Ytdjfnclheohhiaa.K
namespace Go.Proofs.YtdjfnclheohhiaaO
open Go.RowKit Go.Proofs.YtdjfnclheohhiaaW.PrintWords Go.Deep
section
variable {H : Type} {enc : TypeId × Value → H} {P : Program} {w : World} {base : Nat} {spare : Nat → Bool} {held : Bool}
def Opens (enc : TypeId × Value → H) (P : Program) (w : World) (base : Nat) (spare : Nat → Bool) (held : Bool) (t : TypeId) {α : Type} (d : Kd α) (W : α → Prop) : Prop :=
  P.cellsOf t = d.sz ∧ ∀ fuel cs x, DataW.trod enc P w base spare held fuel t cs = some x → ∃ a, d.K w a cs ∧ W a
theorem opens_int {t : TypeId} {k : IntKind} (ht : P.underlying t = some (.int k)) (hc : P.cellsOf t = 1) : Opens enc P w base spare held t (Kd.int k) (fun n => (Lit.int k n).wf = true) :=
  ⟨hc, fun fuel cs x h => by
    obtain ⟨n, rfl, _, hw⟩ := DataW.trod_int ht h
    exact ⟨n, rfl, hw⟩⟩
theorem opens_iso {t : TypeId} {α β : Type} {d : Kd α} {W : α → Prop} (h : Opens enc P w base spare held t d W) (f : β → α) (g : α → β) (hg : ∀ a, f (g a) = a) : Opens enc P w base spare held t (Kd.iso d f) (fun b => W (f b)) :=
  ⟨h.1, fun fuel cs x hx => by
    obtain ⟨a, hk, hw⟩ := h.2 fuel cs x hx
    refine ⟨g a, ?_, ?_⟩
    · show d.K w (f (g a)) cs
      rw [hg]; exact hk
    · show W (f (g a))
      rw [hg]; exact hw⟩
theorem opens_slice {t e : TypeId} {α : Type} {d : Kd α} {W : α → Prop} (ht : P.underlying t = some (.slice e)) (hc : P.cellsOf t = 1) (h : Opens enc P w base spare held e d W) :
    Opens enc P w base spare held t (Kd.slice e d) (fun l => l.length ≤ maxLen ∧ ∀ a ∈ l, W a) :=
  ⟨hc, fun fuel cs x hx => by
    rcases open_slice ht hx with ⟨rfl, _⟩ | ⟨a, len, cap, m, n, D, Pl, rfl, _, hl, hm, hmm, _, hel⟩
    · exact ⟨[], ⟨none, 0, rfl, Nat.le_refl _, ⟨rfl, Nat.zero_le _, fun h => absurd h (Nat.lt_irrefl 0)⟩⟩, Nat.zero_le _, fun a ha => by cases ha⟩
    · have hlm : len ≤ m := by rw [hmm]; split <;> omega
      have hall : ∀ i, i < len → ∃ b, (∃ cs', w.cells? base (a.add (i * P.cellsOf e)) (P.cellsOf e) = some cs' ∧ d.K w b cs') ∧ W b := fun i hi => by
        obtain ⟨cs', h1, h2⟩ := hel i (by omega)
        obtain ⟨b, hk, hw⟩ := h.2 _ _ _ h2
        exact ⟨b, ⟨cs', h1, hk⟩, hw⟩
      classical
      let l : List α := (List.range len).attach.map fun i => Classical.choose (hall i.1 (List.mem_range.1 i.2))
      have hll : l.length = len := by simp [l]
      have hget : ∀ i (hi : i < len), l[i]? = some (Classical.choose (hall i hi)) := fun i hi => by
        simp [l, hi]
      refine ⟨l, ⟨some a, cap, by rw [hll], by rw [hll]; exact hl, rfl, ?_, ?_⟩, ?_, ?_⟩
      · rw [hll]; have : maxLen = 9223372036854775807 := rfl; omega
      · intro _
        refine ⟨a, rfl, fun j p hp => ?_⟩
        have hj : j < len := by rw [← hll]; exact (List.getElem?_eq_some_iff.1 hp).1
        rw [hget j hj] at hp
        obtain rfl := Option.some.inj hp
        obtain ⟨⟨cs', h1, hk⟩, _⟩ := Classical.choose_spec (hall j hj)
        refine ⟨cs', d.K_len hk, hk, fun i u hu => ?_⟩
        obtain ⟨_, hlen, hcell⟩ := World.cells?_some h1
        have hi : i < P.cellsOf e := by rw [← hlen]; exact (List.getElem?_eq_some_iff.1 hu).1
        have := hcell i hi
        rw [hu, Deep.add_add, h.1] at this
        exact this
      · rw [hll]; omega
      · intro b hb
        obtain ⟨j, hj, rfl⟩ := List.mem_iff_getElem.1 hb
        have hj' : j < len := by rw [← hll]; exact hj
        have := hget j hj'
        rw [List.getElem?_eq_getElem hj] at this
        rw [Option.some.inj this]
        exact (Classical.choose_spec (hall j hj')).2⟩
def OpensF (enc : TypeId × Value → H) (P : Program) (w : World) (base : Nat) (spare : Nat → Bool) (held : Bool) (fs : List Field) (o : Nat) {α : Type} (d : Kd α) (W : α → Prop) : Prop :=
  ∀ fuel (cs : List Value), (∀ f ∈ fs, ∃ x, DataW.trod enc P w base spare held fuel f.type ((cs.drop f.offset).take (P.cellsOf f.type)) = some x) → ∃ a, d.K w a ((cs.drop o).take d.sz) ∧ W a
theorem opensF_last {f : Field} {α : Type} {d : Kd α} {W : α → Prop} (h : Opens enc P w base spare held f.type d W) : OpensF enc P w base spare held [f] f.offset d W := fun fuel cs hx => by
  obtain ⟨x, hx⟩ := hx f (List.mem_singleton.2 rfl)
  obtain ⟨a, hk, hw⟩ := h.2 _ _ _ hx
  rw [h.1] at hk
  exact ⟨a, hk, hw⟩
theorem opensF_cons {f : Field} {fs : List Field} {o : Nat} {α β : Type} {d : Kd α} {d2 : Kd β} {W : α → Prop} {W2 : β → Prop} (h : Opens enc P w base spare held f.type d W) (h2 : OpensF enc P w base spare held fs o d2 W2) (ho : o = f.offset + d.sz) :
    OpensF enc P w base spare held (f :: fs) f.offset (Kd.pair d d2) (fun p => W p.1 ∧ W2 p.2) := fun fuel cs hx => by
  subst ho
  obtain ⟨a, hk, hw⟩ := opensF_last h fuel cs (fun g hg => hx g (by rw [List.mem_singleton.1 hg]; exact List.mem_cons_self))
  obtain ⟨b, hk2, hw2⟩ := h2 fuel cs (fun g hg => hx g (List.mem_cons_of_mem _ hg))
  refine ⟨(a, b), ⟨_, _, ?_, hk, hk2⟩, hw, hw2⟩
  show (cs.drop f.offset).take (d.sz + d2.sz) = _
  rw [List.take_add, List.drop_drop]
theorem opens_struct {t : TypeId} {fs : Array Field} {α : Type} {d : Kd α} {W : α → Prop} (ht : P.underlying t = some (.struct fs)) (hc : P.cellsOf t = d.sz) (h : OpensF enc P w base spare held fs.toList 0 d W) : Opens enc P w base spare held t d W :=
  ⟨hc, fun fuel cs x hx => by
    obtain ⟨xs, n, rfl, _, hl, hxl, hf⟩ := DataW.trod_struct ht hx
    obtain ⟨a, hk, hw⟩ := h n cs (fun f hf' => by
      obtain ⟨i, hi, rfl⟩ := List.mem_iff_getElem.1 hf'
      have h1 := hf i _ (by rw [← Array.getElem?_toList, List.getElem?_eq_getElem hi])
      rw [h1]
      exact ⟨xs[i]'(by rw [hxl]; simpa using hi), List.getElem?_eq_getElem _⟩)
    rw [List.drop_zero, List.take_of_length_le (by rw [hl, hc]; exact Nat.le_refl _)] at hk
    exact ⟨a, hk, hw⟩⟩
theorem Opens.at {t : TypeId} {α : Type} {d : Kd α} {W : α → Prop} (h : Opens enc P w base spare held t d W) {v : Value} {x : DataW H} {ps : List MemPlace} (hv : DataW.Trod enc P w base spare held t v x ps) : ∃ a, d.K w a v.cells.toList ∧ W a := by
  obtain ⟨fuel, hf⟩ := hv
  exact h.2 _ _ _ hf
end
end Go.Proofs.YtdjfnclheohhiaaO
namespace Go.Proofs.Ytdjfnclheohhiaa.WP
open Go.RowKit Go.Proofs.Ytdjfnclheohhiaa.K Go.Proofs.YtdjfnclheohhiaaW.PrintWords Go.Proofs.YtdjfnclheohhiaaW.PrintLast Go.Proofs.YtdjfnclheohhiaaW.PrintMore
set_option linter.unusedVariables false
set_option linter.unusedSimpArgs false
theorem nxt (i : Nat) (h : i < 4611686018427387904) : wrap64 ((i : Int) + 1) = ((i + 1 : Nat) : Int) := by unfold wrap64; omega
theorem prv (i : Nat) (h : i < 4611686018427387904) : wrap64 (((i + 1 : Nat) : Int) - 1) = ((i : Nat) : Int) := by unfold wrap64; omega
theorem mid_eq (i j : Nat) (hi : i < 2305843009213693952) (hj : j < 2305843009213693952) : wrap64 ((IntKind.u64.wrap (wrap64 ((i : Int) + (j : Int)))) / 2) = (((i + j) / 2 : Nat) : Int) := by
  have e : wrap64 ((i : Int) + (j : Int)) = ((i + j : Nat) : Int) := by unfold wrap64; omega
  rw [e]
  have e2 : IntKind.u64.wrap ((i + j : Nat) : Int) = ((i + j : Nat) : Int) := by
    simp [IntKind.wrap, IntKind.bits, IntKind.signed]; omega
  rw [e2]; unfold wrap64; omega
theorem rd79 (l : List S79) (i : Nat) (h : i < l.length) : rd_T79 l (i : Int) = l[i] := by simp [rd_T79, List.getD_eq_getElem?_getD, h]
def cvSession (x : S79) : S70 := ⟨x.f0, x.f1, x.f2, x.f3, x.f4⟩
theorem toSession_l0 (l : List S79) (hl : l.length < 4611686018427387904) : ∀ n i k, i + n = l.length → n < k → laws_toSessionS.l0 k l ((l.take i).map cvSession ++ List.replicate n z70) (i : Int) = some (l.map cvSession) := by
  intro n
  induction n with
  | zero =>
    intro i k hi hk
    obtain ⟨k, rfl⟩ : ∃ q, k = q + 1 := ⟨k - 1, by omega⟩
    have h0 : ¬ ((i : Int) < l.length) := by omega
    simp only [laws_toSessionS.l0, if_neg h0]
    rw [List.take_of_length_le (by omega)]; simp
  | succ n ih =>
    intro i k hi hk
    obtain ⟨k, rfl⟩ : ∃ q, k = q + 1 := ⟨k - 1, by omega⟩
    have hlt : i < l.length := by omega
    have h0 : (i : Int) < l.length := by omega
    have h1 : (0 : Int) ≤ i := by omega
    have h2 : (i : Int) < (((l.take i).map cvSession ++ List.replicate (n + 1) z70).length : Int) := by simp; omega
    simp only [laws_toSessionS.l0, if_pos h0, if_pos h1, laws_toSession.f, Option.bind_some, if_pos h2]
    rw [nxt i (by omega), rd79 l i hlt, Int.toNat_natCast]
    have e : ((l.take i).map cvSession ++ List.replicate (n + 1) z70).set i (⟨l[i].f0, l[i].f1, l[i].f2, l[i].f3, l[i].f4⟩ : S70) = (l.take (i + 1)).map cvSession ++ List.replicate n z70 := by
      have e1 : ((l.take i).map cvSession).length = i := by rw [List.length_map, List.length_take]; omega
      rw [List.set_append_right _ _ (by omega), e1, Nat.sub_self, List.take_succ_eq_append_getElem hlt, List.map_append, List.append_assoc, List.replicate_succ, List.set_cons_zero]
      rfl
    rw [e]
    exact ih (i + 1) k (by omega) (by omega)
theorem toSessionS_eq (l : List S79) (hl : l.length ≤ 1048576) (k : Nat) (hk : l.length < k) : laws_toSessionS.f k l = some (l.map cvSession) := by
  have h1 : (0 : Int) ≤ l.length := by omega
  simp only [laws_toSessionS.f, if_pos h1]
  rw [if_pos (by omega)]
  have := toSession_l0 l (by omega) l.length 0 k (by omega) hk
  simpa using this
theorem rd70 (l : List S70) (i : Nat) (h : i < l.length) : rd_T70 l (i : Int) = l[i] := by simp [rd_T70, List.getD_eq_getElem?_getD, h]
theorem eqSession_l0 (l : List S70) (hl : l.length < 40000000) : ∀ n i k, i + n = l.length → n < k → laws_eqSessionS.l0 k l l (i : Int) = some true := by
  intro n
  induction n with
  | zero =>
    intro i k hi hk
    obtain ⟨k, rfl⟩ : ∃ q, k = q + 1 := ⟨k - 1, by omega⟩
    have h0 : ¬ ((i : Int) < l.length) := by omega
    simp only [laws_eqSessionS.l0, if_neg h0]
  | succ n ih =>
    intro i k hi hk
    obtain ⟨k, rfl⟩ : ∃ q, k = q + 1 := ⟨k - 1, by omega⟩
    have h0 : (i : Int) < l.length := by omega
    have h1 : (0 : Int) ≤ i := by omega
    have ih0 := ih (i + 1) k (by omega) (by omega)
    simp only [laws_eqSessionS.l0, if_pos h0, if_pos h1, nxt i (by omega), ih0, laws_eqSession.f, Option.bind_some, if_true]
theorem eqSessionS_refl (l : List S70) (hl : l.length < 40000000) (k : Nat) (hk : l.length < k) : laws_eqSessionS.f k l l = some true := by
  have := eqSession_l0 l hl l.length 0 k (by omega) hk
  simp only [Int.natCast_zero] at this
  simp [laws_eqSessionS.f, this]
def mkSession : Int → List S70 → List S70
  | _, [] => []
  | c, s :: r => ⟨c, wrap64 (c + 1), wrap64 ((wrap64 (c + 1)) + 1), wrap64 ((wrap64 ((wrap64 (c + 1)) + 1)) + 1), wrap64 ((wrap64 ((wrap64 ((wrap64 (c + 1)) + 1)) + 1)) + 1)⟩ :: mkSession (wrap64 ((wrap64 ((wrap64 ((wrap64 ((wrap64 (c + 1)) + 1)) + 1)) + 1)) + 1)) r
def mkESession : Int → List S70 → Int
  | c, [] => c
  | c, s :: r => mkESession (wrap64 ((wrap64 ((wrap64 ((wrap64 ((wrap64 (c + 1)) + 1)) + 1)) + 1)) + 1)) r
theorem mkESession_eq : ∀ (l : List S70) (c : Int), 0 ≤ c → c + 5 * l.length < 4611686018427387904 → mkESession c l = c + 5 * l.length
  | [], c, _, _ => by simp [mkESession]
  | s :: r, c, h0, h1 => by
    have e : wrap64 ((wrap64 ((wrap64 ((wrap64 ((wrap64 (c + 1)) + 1)) + 1)) + 1)) + 1) = c + 5 := by simp only [List.length_cons] at h1; unfold wrap64; omega
    simp only [List.length_cons] at h1
    rw [mkESession, e, mkESession_eq r (c + 5) (by omega) (by omega)]; simp only [List.length_cons]; omega
theorem markSession_l0 : ∀ (r p : List S70) (k : Nat) (c : Int), (p ++ r).length < 40000000 → r.length < k → laws_markSessionS.l0 k (p ++ r) c (p.length : Int) = some (mkESession c r, p ++ mkSession c r) := by
  intro r
  induction r with
  | nil =>
    intro p k c hl hk
    obtain ⟨k, rfl⟩ : ∃ q, k = q + 1 := ⟨k - 1, by simp at hk; omega⟩
    have h0 : ¬ ((p.length : Int) < ((p ++ ([] : List S70)).length : Int)) := by simp
    simp only [laws_markSessionS.l0, if_neg h0]; simp [mkESession, mkSession]
  | cons s r ih =>
    intro p k c hl hk
    obtain ⟨k, rfl⟩ : ∃ q, k = q + 1 := ⟨k - 1, by simp at hk; omega⟩
    have h0 : ((p.length : Int) < ((p ++ s :: r).length : Int)) := by simp; omega
    have h1 : (0 : Int) ≤ p.length := by omega
    have hp : p.length < 40000000 := by simp at hl; omega
    have hset : ∀ y z : S70, (p ++ y :: r).set p.length z = p ++ z :: r := fun y z => by rw [List.set_append_right _ _ (Nat.le_refl _), Nat.sub_self, List.set_cons_zero]
    have hget : ∀ y : S70, rd_T70 (p ++ y :: r) (p.length : Int) = y := fun y => by rw [rd70 _ _ (by simp)]; simp
    have ih1 := fun y c => ih (p ++ [y]) k c (by simp at hl ⊢; omega) (by simp at hk; omega)
    simp only [laws_markSessionS.l0, if_pos h0, if_pos h1, Option.bind_some, Int.toNat_natCast, hset, hget, nxt p.length (by omega)]
    have e : ∀ y : S70, p ++ y :: r = p ++ [y] ++ r := fun y => by simp
    rw [e, show p.length + 1 = (p ++ [(⟨c, wrap64 (c + 1), wrap64 ((wrap64 (c + 1)) + 1), wrap64 ((wrap64 ((wrap64 (c + 1)) + 1)) + 1), wrap64 ((wrap64 ((wrap64 ((wrap64 (c + 1)) + 1)) + 1)) + 1)⟩ : S70)]).length by simp, ih1]
    simp [mkESession, mkSession]
theorem markSessionS_eq (l : List S70) (hl : l.length < 40000000) (c : Int) (h0 : 0 ≤ c) (hc : c < 1000000000000) (k : Nat) (hk : l.length < k) : laws_markSessionS.f k l c = some (c + 5 * (l.length : Int), mkSession c l) := by
  have := markSession_l0 l [] k c (by simpa using hl) hk
  simp only [List.nil_append, List.length_nil, Int.natCast_zero] at this
  rw [mkESession_eq l c h0 (by omega)] at this
  simp [laws_markSessionS.f, this]
theorem heldSession_l0 : ∀ (r p : List S70) (k : Nat) (c : Int), (p ++ r).length < 40000000 → r.length < k → laws_heldSessionS.l0 k (p ++ mkSession c r) c (p.length : Int) = some (mkESession c r) := by
  intro r
  induction r with
  | nil =>
    intro p k c hl hk
    obtain ⟨k, rfl⟩ : ∃ q, k = q + 1 := ⟨k - 1, by simp at hk; omega⟩
    have h0 : ¬ ((p.length : Int) < ((p ++ mkSession c ([] : List S70)).length : Int)) := by simp [mkSession]
    simp only [laws_heldSessionS.l0, if_neg h0]; simp [mkESession]
  | cons s r ih =>
    intro p k c hl hk
    obtain ⟨k, rfl⟩ : ∃ q, k = q + 1 := ⟨k - 1, by simp at hk; omega⟩
    have h0 : ((p.length : Int) < ((p ++ mkSession c (s :: r)).length : Int)) := by simp [mkSession]; omega
    have h1 : (0 : Int) ≤ p.length := by omega
    have hp : p.length < 40000000 := by simp at hl; omega
    have hget : rd_T70 (p ++ mkSession c (s :: r)) (p.length : Int) = ⟨c, wrap64 (c + 1), wrap64 ((wrap64 (c + 1)) + 1), wrap64 ((wrap64 ((wrap64 (c + 1)) + 1)) + 1), wrap64 ((wrap64 ((wrap64 ((wrap64 (c + 1)) + 1)) + 1)) + 1)⟩ := by rw [rd70 _ _ (by simp [mkSession])]; simp [mkSession]
    have ih1 := ih (p ++ [(⟨c, wrap64 (c + 1), wrap64 ((wrap64 (c + 1)) + 1), wrap64 ((wrap64 ((wrap64 (c + 1)) + 1)) + 1), wrap64 ((wrap64 ((wrap64 ((wrap64 (c + 1)) + 1)) + 1)) + 1)⟩ : S70)]) k (wrap64 ((wrap64 ((wrap64 ((wrap64 ((wrap64 (c + 1)) + 1)) + 1)) + 1)) + 1)) (by simp at hl ⊢; omega) (by simp at hk; omega)
    simp only [laws_heldSessionS.l0, if_pos h0, if_pos h1, hget, if_true, nxt p.length (by omega)]
    have e : p ++ mkSession c (s :: r) = p ++ [(⟨c, wrap64 (c + 1), wrap64 ((wrap64 (c + 1)) + 1), wrap64 ((wrap64 ((wrap64 (c + 1)) + 1)) + 1), wrap64 ((wrap64 ((wrap64 ((wrap64 (c + 1)) + 1)) + 1)) + 1)⟩ : S70)] ++ mkSession (wrap64 ((wrap64 ((wrap64 ((wrap64 ((wrap64 (c + 1)) + 1)) + 1)) + 1)) + 1)) r := by simp [mkSession]
    rw [e, show p.length + 1 = (p ++ [(⟨c, wrap64 (c + 1), wrap64 ((wrap64 (c + 1)) + 1), wrap64 ((wrap64 ((wrap64 (c + 1)) + 1)) + 1), wrap64 ((wrap64 ((wrap64 ((wrap64 (c + 1)) + 1)) + 1)) + 1)⟩ : S70)]).length by simp, ih1]
    simp [mkESession]
theorem heldSessionS_eq (l : List S70) (hl : l.length < 40000000) (c : Int) (h0 : 0 ≤ c) (hc : c < 1000000000000) (k : Nat) (hk : l.length < k) : laws_heldSessionS.f k (mkSession c l) c = some (c + 5 * (l.length : Int)) := by
  have := heldSession_l0 l [] k c (by simpa using hl) hk
  simp only [List.nil_append, List.length_nil, Int.natCast_zero] at this
  rw [mkESession_eq l c h0 (by omega)] at this
  simp [laws_heldSessionS.f, this]
end Go.Proofs.Ytdjfnclheohhiaa.WP
namespace Go.Proofs.Ytdjfnclheohhiaa.WP
open Go.RowKit Go.Proofs.Ytdjfnclheohhiaa.K Go.Proofs.YtdjfnclheohhiaaW.PrintWords Go.Proofs.YtdjfnclheohhiaaW.PrintLast Go.Proofs.YtdjfnclheohhiaaW.PrintMore
set_option linter.unusedVariables false
set_option linter.unusedSimpArgs false
theorem in_eq (x lo hi : Int) : spec_l01In.f x lo hi = some (decide (lo ≤ x ∧ x ≤ hi)) := by
  unfold spec_l01In.f; split <;> simp_all <;> omega
theorem within_eq (x lo hi : Int) : impl_within.f x lo hi = some (decide (lo ≤ x ∧ x ≤ hi)) := by
  unfold impl_within.f; split <;> simp_all <;> omega
theorem isKey_eq (x : Int) : impl_isKey.f x = some (decide (0 ≤ x ∧ x ≤ 65535)) := by simp [impl_isKey.f, within_eq]
theorem isTime_eq (x : Int) : impl_isTime.f x = some (decide (0 ≤ x ∧ x ≤ 1000000)) := by simp [impl_isTime.f, within_eq]
theorem isValue_eq (x : Int) : impl_isValue.f x = some (decide (-1000000 ≤ x ∧ x ≤ 1000000)) := by simp [impl_isValue.f, within_eq]
theorem isSum_eq (x : Int) : impl_isSum.f x = some (decide (-1000000000 ≤ x ∧ x ≤ 1000000000)) := by simp [impl_isSum.f, within_eq]
def evOk (a b c d : Int) : Bool := decide (a = 1 ∧ (0 ≤ b ∧ b ≤ 65535) ∧ (0 ≤ c ∧ c ≤ 1000000) ∧ (-1000000 ≤ d ∧ d ≤ 1000000))
theorem implEv_eq (a b c d : Int) : impl_isEvent.f a b c d = some (evOk a b c d) := by
  unfold impl_isEvent.f evOk
  by_cases h : a = 1
  · subst h
    by_cases h1 : 0 ≤ b ∧ b ≤ 65535 <;> by_cases h2 : 0 ≤ c ∧ c ≤ 1000000 <;> simp [impl_FrameOk.f, isKey_eq, isTime_eq, isValue_eq, h1, h2]
  · simp [h]
theorem specFrame_one (b c d : Int) : spec_FrameOk.f 1 b c d = some (evOk 1 b c d) := by
  by_cases h1 : 0 ≤ b ∧ b ≤ 65535 <;> by_cases h2 : 0 ≤ c ∧ c ≤ 1000000 <;> simp [spec_FrameOk.f, evOk, in_eq, h1, h2]
theorem specFrame_some (a b c d : Int) : ∃ v, spec_FrameOk.f a b c d = some v := by
  unfold spec_FrameOk.f
  simp only [in_eq, Option.bind_some]
  repeat (first | exact ⟨_, rfl⟩ | split)
def cmpI (a b : Int) : Int := if a < b then -1 else if a > b then 1 else 0
theorem cmp_eq (a b : Int) : cmp_Compare_int.f a b = some (cmpI a b) := by
  simp only [cmp_Compare_int.f, cmp_isNaN_int.f, bne_self_eq_false, Option.bind_some, Bool.false_eq_true, if_false, cmpI]
  split <;> (try split) <;> rfl
def ord (a b : S70) : Int := if cmpI a.f0 b.f0 = 0 then cmpI a.f1 b.f1 else cmpI a.f0 b.f0
theorem or_eq (x y : Int) (k : Nat) (hk : 3 < k) : cmp_Or_int.f k [x, y] = some (if x = 0 then y else x) := by
  obtain ⟨k, rfl⟩ : ∃ q, k = q + 3 := ⟨k - 3, by omega⟩
  by_cases h : x = 0
  · by_cases h2 : y = 0
    · simp [cmp_Or_int.f, cmp_Or_int.l0, rd, h, h2, wrap64]
    · simp [cmp_Or_int.f, cmp_Or_int.l0, rd, h, h2, wrap64]
  · simp [cmp_Or_int.f, cmp_Or_int.l0, rd, h]
theorem ord_eq (a b : S70) (k : Nat) (hk : 3 < k) : impl_sessionOrder.f k a.f0 a.f1 a.f2 a.f3 a.f4 b.f0 b.f1 b.f2 b.f3 b.f4 = some (ord a b) := by
  simp [impl_sessionOrder.f, cmp_eq, or_eq _ _ k hk, ord]
def sl (a b : S70) : Prop := a.f0 < b.f0 ∨ (a.f0 = b.f0 ∧ a.f1 < b.f1)
theorem sl_trans {a b c : S70} (h : sl a b) (k : sl b c) : sl a c := by unfold sl at *; omega
theorem ord_lt (a b : S70) : ord a b < 0 ↔ sl a b := by
  unfold ord sl cmpI
  rcases Int.lt_trichotomy a.f0 b.f0 with h | h | h
  · simp [h]
  · rcases Int.lt_trichotomy a.f1 b.f1 with h2 | h2 | h2
    · simp [h, h2]
    · simp [h, h2]
    · simp [h, h2, show ¬ a.f1 < b.f1 by omega]
  · simp [h, show ¬ a.f0 < b.f0 by omega]; omega
def sesOk (s : S70) : Bool := decide ((0 ≤ s.f0 ∧ s.f0 ≤ 65535) ∧ (0 ≤ s.f1 ∧ s.f1 ≤ s.f2) ∧ s.f2 ≤ 1000000 ∧ (1 ≤ s.f3 ∧ s.f3 ≤ 1000000000) ∧ (-1000000000 ≤ s.f4 ∧ s.f4 ≤ 1000000000))
theorem specSes_eq (s : S70) : spec_SessionOk.f s.f0 s.f1 s.f2 s.f3 s.f4 = some (sesOk s) := by
  unfold spec_SessionOk.f sesOk
  simp only [in_eq, Option.bind_some, decide_eq_true_eq]
  by_cases h1 : 0 ≤ s.f0 ∧ s.f0 ≤ 65535
  · rw [if_pos h1]
    by_cases h2 : 0 ≤ s.f2 ∧ s.f2 ≤ 1000000
    · rw [if_pos h2]
      by_cases h3 : 0 ≤ s.f1 ∧ s.f1 ≤ s.f2
      · rw [if_pos h3]
        by_cases h4 : 1 ≤ s.f3 ∧ s.f3 ≤ 1000000000
        · rw [if_pos h4]; exact congrArg some (decide_eq_decide.2 (by omega))
        · rw [if_neg h4]; exact congrArg some (decide_eq_false (fun h => by omega)).symm
      · rw [if_neg h3]; exact congrArg some (decide_eq_false (fun h => by omega)).symm
    · rw [if_neg h2]; exact congrArg some (decide_eq_false (fun h => by omega)).symm
  · rw [if_neg h1]; exact congrArg some (decide_eq_false (fun h => by omega)).symm
theorem implSes_eq (s : S70) : impl_SessionOk.f s.f0 s.f1 s.f2 s.f3 s.f4 = some (sesOk s) := by
  unfold impl_SessionOk.f sesOk
  simp only [isKey_eq, isTime_eq, isSum_eq, within_eq, Option.bind_some, decide_eq_true_eq]
  by_cases h1 : 0 ≤ s.f0 ∧ s.f0 ≤ 65535
  · rw [if_pos h1]
    by_cases h2 : 0 ≤ s.f1 ∧ s.f1 ≤ 1000000
    · rw [if_pos h2]
      by_cases h3 : 0 ≤ s.f2 ∧ s.f2 ≤ 1000000
      · rw [if_pos h3]
        by_cases h5 : s.f1 ≤ s.f2
        · rw [if_pos h5]
          by_cases h4 : 1 ≤ s.f3 ∧ s.f3 ≤ 1000000000
          · rw [if_pos h4]; exact congrArg some (decide_eq_decide.2 (by omega))
          · rw [if_neg h4]; exact congrArg some (decide_eq_false (fun h => by omega)).symm
        · rw [if_neg h5]; exact congrArg some (decide_eq_false (fun h => by omega)).symm
      · rw [if_neg h3]; exact congrArg some (decide_eq_false (fun h => by omega)).symm
    · rw [if_neg h2]; exact congrArg some (decide_eq_false (fun h => by omega)).symm
  · rw [if_neg h1]; exact congrArg some (decide_eq_false (fun h => by omega)).symm
def near (gap : Int) (q s : S70) : Prop := q.f0 > s.f0 ∨ (q.f0 = s.f0 ∧ wrap64 (q.f2 + gap) ≥ s.f1)
instance (gap : Int) (q s : S70) : Decidable (near gap q s) := by unfold near; exact inferInstance
def okF (gap : Int) : Option S70 → List S70 → Bool
  | _, [] => true
  | p, s :: r => sesOk s && (match p with | none => true | some q => !decide (near gap q s)) && okF gap (some s) r
def prevOf (l : List S70) (i : Nat) : Option S70 := match i with | 0 => none | j + 1 => l[j]?
theorem specSesOk_l0 (l : List S70) (hl : l.length < 40000000) (gap : Int) : ∀ n i k, i + n = l.length → n < k → spec_l11SessionsOk.l0 k l gap (i : Int) = some (okF gap (prevOf l i) (l.drop i)) := by
  intro n
  induction n with
  | zero =>
    intro i k hi hk
    obtain ⟨k, rfl⟩ : ∃ q, k = q + 1 := ⟨k - 1, by omega⟩
    have h0 : ¬ ((i : Int) < l.length) := by omega
    simp only [spec_l11SessionsOk.l0, if_neg h0]
    rw [List.drop_of_length_le (by omega)]; rfl
  | succ n ih =>
    intro i k hi hk
    obtain ⟨k, rfl⟩ : ∃ q, k = q + 1 := ⟨k - 1, by omega⟩
    have hlt : i < l.length := by omega
    have h0 : (i : Int) < l.length := by omega
    have h1 : (0 : Int) ≤ i := by omega
    have ih1 := ih (i + 1) k (by omega) (by omega)
    have hp : prevOf l (i + 1) = some l[i] := by simp [prevOf, hlt]
    rw [hp] at ih1
    rw [List.drop_eq_getElem_cons hlt]
    simp only [spec_l11SessionsOk.l0, if_pos h0, if_pos h1, rd70 l i hlt, specSes_eq, Option.bind_some, nxt i (by omega), ih1, okF]
    cases c1 : sesOk l[i]
    · simp
    · cases i with
      | zero => simp [prevOf]
      | succ j =>
        have g0 : ((j + 1 : Nat) : Int) > 0 := by omega
        have g1 : (0 : Int) ≤ (j : Int) := by omega
        have g2 : (j : Int) < l.length := by omega
        rw [if_pos rfl, if_pos g0, prv j (by omega), if_pos g1, if_pos g2, rd70 l j (by omega)]
        have hpj : prevOf l (j + 1) = some (l[j]'(by omega)) := by simp [prevOf, show j < l.length by omega]
        rw [hpj]
        simp only [Bool.true_and]
        by_cases c2 : near gap (l[j]'(by omega)) l[j + 1]
        · simp only [c2, decide_true, Bool.not_true, Bool.false_and]
          rcases c2 with c2 | ⟨c2, c3⟩
          · rw [if_pos c2]
          · rw [if_neg (by omega), if_pos c2, if_pos c3]
        · simp only [c2, decide_false, Bool.not_false, Bool.true_and]
          have n1 : ¬ ((l[j]'(by omega)).f0 > l[j + 1].f0) := fun h => c2 (.inl h)
          rw [if_neg n1]
          by_cases c3 : (l[j]'(by omega)).f0 = l[j + 1].f0
          · have n2 : ¬ (wrap64 ((l[j]'(by omega)).f2 + gap) ≥ l[j + 1].f1) := fun h => c2 (.inr ⟨c3, h⟩)
            rw [if_pos c3, if_neg n2]
          · rw [if_neg c3]
theorem near_iff {gap : Int} {q s : S70} (hg : 0 ≤ gap ∧ gap ≤ 1000000) (hq : sesOk q = true) (hs : sesOk s = true) : near gap q s ↔ ¬ sl q s ∨ (q.f0 = s.f0 ∧ wrap64 (s.f1 - q.f2) ≤ gap) := by
  simp only [sesOk, decide_eq_true_eq] at hq hs
  unfold near sl
  have e1 : wrap64 (q.f2 + gap) = q.f2 + gap := by unfold wrap64; omega
  have e2 : wrap64 (s.f1 - q.f2) = s.f1 - q.f2 := by unfold wrap64; omega
  rw [e1, e2]; omega
theorem implSesOk_l0 (l : List S70) (hl : l.length < 40000000) (gap : Int) (hg : 0 ≤ gap ∧ gap ≤ 1000000) : ∀ n i k, i + n = l.length → n + 5 < k → (∀ q, prevOf l i = some q → sesOk q = true) → impl_areSessions.l0 k l gap l (l.length : Int) (i : Int) = some (okF gap (prevOf l i) (l.drop i) && decide ((l.length : Int) ≤ 200)) := by
  intro n
  induction n with
  | zero =>
    intro i k hi hk _
    obtain ⟨k, rfl⟩ : ∃ q, k = q + 1 := ⟨k - 1, by omega⟩
    have h0 : ¬ ((i : Int) < l.length) := by omega
    simp only [impl_areSessions.l0, if_neg h0]
    rw [List.drop_of_length_le (by omega)]; simp [okF]
  | succ n ih =>
    intro i k hi hk hpo
    obtain ⟨k, rfl⟩ : ∃ q, k = q + 1 := ⟨k - 1, by omega⟩
    have hlt : i < l.length := by omega
    have h0 : (i : Int) < l.length := by omega
    have h1 : (0 : Int) ≤ i := by omega
    have hp : prevOf l (i + 1) = some l[i] := by simp [prevOf, hlt]
    rw [List.drop_eq_getElem_cons hlt]
    simp only [impl_areSessions.l0, if_pos h0, if_pos h1, rd70 l i hlt, implSes_eq, Option.bind_some, nxt i (by omega), okF]
    cases c1 : sesOk l[i]
    · simp
    · have ih1 := ih (i + 1) k (by omega) (by omega) (fun q hq => by rw [hp] at hq; cases hq; exact c1)
      rw [hp] at ih1
      rw [ih1]
      cases i with
      | zero => simp [prevOf]
      | succ j =>
        have g0 : ((j + 1 : Nat) : Int) > 0 := by omega
        have g1 : (0 : Int) ≤ (j : Int) := by omega
        have g2 : (j : Int) < l.length := by omega
        have hpj : prevOf l (j + 1) = some (l[j]'(by omega)) := by simp [prevOf, show j < l.length by omega]
        have hq := hpo _ hpj
        rw [if_pos rfl, if_pos g0, prv j (by omega), if_pos g1, if_pos g2, rd70 l j (by omega), ord_eq _ _ k (by omega), hpj]
        simp only [Bool.true_and, Option.bind_some]
        have hn := near_iff hg hq c1
        have ho := ord_lt (l[j]'(by omega)) l[j + 1]
        by_cases c2 : near gap (l[j]'(by omega)) l[j + 1]
        · simp only [c2, decide_true, Bool.not_true, Bool.false_and]
          by_cases c3 : ord (l[j]'(by omega)) l[j + 1] ≥ 0
          · rw [if_pos c3]
          · rw [if_neg c3]
            rcases hn.1 c2 with h | ⟨h, h2⟩
            · exact absurd (ho.1 (by omega)) h
            · rw [if_pos h, if_pos h2]
        · simp only [c2, decide_false, Bool.not_false, Bool.true_and]
          have n1 : sl (l[j]'(by omega)) l[j + 1] := Classical.not_not.1 (fun h => c2 (hn.2 (.inl h)))
          have n2 := ho.2 n1
          rw [if_neg (by omega)]
          by_cases c3 : (l[j]'(by omega)).f0 = l[j + 1].f0
          · have n2 : ¬ (wrap64 (l[j + 1].f1 - (l[j]'(by omega)).f2) ≤ gap) := fun h => c2 (hn.2 (.inr ⟨c3, h⟩))
            rw [if_pos c3, if_neg n2]
          · rw [if_neg c3]
theorem okF_rises {gap : Int} (hg : 0 ≤ gap ∧ gap ≤ 1000000) : ∀ (l : List S70) (p : Option S70), (∀ q, p = some q → sesOk q = true) → okF gap p l = true → l.Pairwise sl ∧ (∀ q, p = some q → ∀ s ∈ l, sl q s) ∧ ∀ s ∈ l, sesOk s = true
  | [], p, _, _ => ⟨List.Pairwise.nil, by simp, by simp⟩
  | s :: r, p, hp, h => by
    simp only [okF, Bool.and_eq_true] at h
    obtain ⟨⟨h1, h2⟩, h3⟩ := h
    obtain ⟨a, b, c⟩ := okF_rises hg r (some s) (fun q hq => by cases hq; exact h1) h3
    refine ⟨List.Pairwise.cons (fun t ht => b _ rfl t ht) a, ?_, ?_⟩
    · rintro q rfl t ht
      have hq : ¬ near gap q s := by simpa using h2
      have hqs : sl q s := Classical.not_not.1 (fun h => hq ((near_iff hg (hp q rfl) h1).2 (.inl h)))
      rcases List.mem_cons.1 ht with rfl | ht
      · exact hqs
      · exact sl_trans hqs (b _ rfl t ht)
    · intro t ht
      rcases List.mem_cons.1 ht with rfl | ht
      · exact h1
      · exact c t ht
def capI (x : Int) : Int := if x > 1000000000 then 1000000000 else if x < -1000000000 then -1000000000 else x
theorem cap_eq (x : Int) : spec_l05Cap.f x = some (capI x) := by unfold spec_l05Cap.f capI; split <;> (try split) <;> rfl
def joinS (a b : S70) : S70 := ⟨a.f0, if b.f1 < a.f1 then b.f1 else a.f1, if b.f2 > a.f2 then b.f2 else a.f2, capI (wrap64 (a.f3 + b.f3)), capI (wrap64 (a.f4 + b.f4))⟩
theorem specJoin_eq (a b : S70) (k : Nat) (hk : 0 < k) : spec_l11Join.f k a.f0 a.f1 a.f2 a.f3 a.f4 b.f0 b.f1 b.f2 b.f3 b.f4 = some ((joinS a b).f0, (joinS a b).f1, (joinS a b).f2, (joinS a b).f3, (joinS a b).f4) := by
  obtain ⟨k, rfl⟩ : ∃ q, k = q + 1 := ⟨k - 1, by omega⟩
  simp only [spec_l11Join.f, spec_l11Join.j0, cap_eq, Option.bind_some, joinS]
  by_cases h : b.f1 < a.f1 <;> by_cases h2 : b.f2 > a.f2 <;> simp [h, h2]
theorem implJoin_eq (a b : S70) (ha : sesOk a = true) (hb : 1 ≤ b.f3 ∧ b.f3 ≤ 1000000000) : impl_joined.f a.f0 a.f1 a.f2 a.f3 a.f4 b.f0 b.f1 b.f2 b.f3 b.f4 = some ((joinS a b).f0, (joinS a b).f1, (joinS a b).f2, (joinS a b).f3, (joinS a b).f4) := by
  simp only [sesOk, decide_eq_true_eq] at ha
  have e : wrap64 (a.f3 + b.f3) = a.f3 + b.f3 := by unfold wrap64; omega
  have e2 : mn (a.f3 + b.f3) 1000000000 = capI (a.f3 + b.f3) := by
    unfold mn capI; split <;> (try split) <;> omega
  have e3 : mn (mx (wrap64 (a.f4 + b.f4)) (-1000000000)) 1000000000 = capI (wrap64 (a.f4 + b.f4)) := by
    unfold mn mx capI; repeat' split
    all_goals omega
  simp only [impl_joined.f, impl_sumOf.f, Option.bind_some, joinS, e, e2, e3]
  rfl
def jn (key time gap : Int) (s : S70) : Prop := s.f0 = key ∧ time ≥ wrap64 (s.f1 - gap) ∧ time ≤ wrap64 (s.f2 + gap)
instance (key time gap : Int) (s : S70) : Decidable (jn key time gap s) := by unfold jn; exact inferInstance
def mrgF (key time gap : Int) : List S70 → S70 → List S70 → S70 × List S70
  | [], own, out => (own, out)
  | s :: r, own, out => if jn key time gap s then mrgF key time gap r (joinS s own) out else mrgF key time gap r own (out ++ [s])
def insB (own : S70) : List S70 → List S70
  | [] => [own]
  | t :: r => if own.f0 < t.f0 ∨ (own.f0 = t.f0 ∧ own.f1 < t.f1) then own :: t :: r else t :: insB own r
def insD (own : S70) (d : Bool) (l : List S70) : List S70 := if d = true then l else insB own l
theorem specIns_l1 (l : List S70) (hl : l.length < 4000000) (own : S70) : ∀ n i k out d, i + n = l.length → n < k → out.length + 2 * n < 8000000 →
    spec_l11Add.l1 k l out d (i : Int) own.f0 own.f1 own.f2 own.f3 own.f4 = some (out ++ insD own d (l.drop i)) := by
  intro n
  induction n with
  | zero =>
    intro i k out d hi hk ho
    obtain ⟨k, rfl⟩ : ∃ q, k = q + 1 := ⟨k - 1, by omega⟩
    have h0 : ¬ ((i : Int) < l.length) := by omega
    have h2 : out.length < 3518437208883 := by omega
    simp only [spec_l11Add.l1, if_neg h0, if_pos h2]
    rw [List.drop_of_length_le (by omega)]
    cases d <;> simp [insD, insB]
  | succ n ih =>
    intro i k out d hi hk ho
    obtain ⟨k, rfl⟩ : ∃ q, k = q + 1 := ⟨k - 1, by omega⟩
    have hlt : i < l.length := by omega
    have h0 : (i : Int) < l.length := by omega
    have h1 : (0 : Int) ≤ i := by omega
    have h2 : out.length < 3518437208883 := by omega
    have h3 : ∀ z : S70, (out ++ [z]).length < 3518437208883 := fun z => by simp; omega
    have ih1 := fun z d => ih (i + 1) k (out ++ [z]) d (by omega) (by omega) (by simp; omega)
    have ih2 := fun y z d => ih (i + 1) k (out ++ [y] ++ [z]) d (by omega) (by omega) (by simp; omega)
    rw [List.drop_eq_getElem_cons hlt]
    simp only [spec_l11Add.l1, if_pos h0, if_pos h1, if_pos h2, rd70 l i hlt, nxt i (by omega), ih1, Option.bind_some, if_pos (h3 _), ih2]
    cases d with
    | true => rw [if_pos rfl]; simp only [insD, if_true, List.append_assoc]; rfl
    | false =>
      rw [if_neg Bool.false_ne_true]
      simp only [insD, Bool.false_eq_true, if_false, if_true, insB]
      by_cases c1 : own.f0 < l[i].f0
      · rw [if_pos c1, if_pos (Or.inl c1)]; simp only [List.append_assoc]; rfl
      · rw [if_neg c1]
        by_cases c2 : own.f0 = l[i].f0
        · rw [if_pos c2]
          by_cases c3 : own.f1 < l[i].f1
          · rw [if_pos c3, if_pos (Or.inr ⟨c2, c3⟩)]; simp only [List.append_assoc]; rfl
          · rw [if_neg c3, if_neg (fun h => h.elim c1 (fun h => c3 h.2))]; simp only [List.append_assoc]; rfl
        · rw [if_neg c2, if_neg (fun h => h.elim c1 (fun h => c2 h.1))]; simp only [List.append_assoc]; rfl
theorem specAdd_l0 (l : List S70) (hl : l.length < 1100000) (gap a0 a1 a2 a3 key : Int) : ∀ n i k out own, i + n = l.length → 2 * l.length + 10 + n < k → out.length + n ≤ l.length → own.f0 = key →
    spec_l11Add.l0 k l gap out (i : Int) a0 key a2 a3 own.f0 own.f1 own.f2 own.f3 own.f4 = some (insB (mrgF key a2 gap (l.drop i) own out).1 (mrgF key a2 gap (l.drop i) own out).2) := by
  intro n
  induction n with
  | zero =>
    intro i k out own hi hk ho hown
    obtain ⟨k, rfl⟩ : ∃ q, k = q + 1 := ⟨k - 1, by omega⟩
    have h0 : ¬ ((i : Int) < l.length) := by omega
    simp only [spec_l11Add.l0, if_neg h0]
    rw [List.drop_of_length_le (by omega)]
    have := specIns_l1 out (by omega) own out.length 0 k [] false (by omega) (by omega) (by simp; omega)
    simpa [mrgF, insD] using this
  | succ n ih =>
    intro i k out own hi hk ho hown
    obtain ⟨k, rfl⟩ : ∃ q, k = q + 1 := ⟨k - 1, by omega⟩
    have hlt : i < l.length := by omega
    have h0 : (i : Int) < l.length := by omega
    have h1 : (0 : Int) ≤ i := by omega
    have h2 : out.length < 3518437208883 := by omega
    rw [List.drop_eq_getElem_cons hlt]
    have hj := specJoin_eq l[i] own k (by omega)
    rw [hown] at hj
    simp only [spec_l11Add.l0, if_pos h0, if_pos h1, if_pos h2, rd70 l i hlt, nxt i (by omega), mrgF, hown, hj, Option.bind_some]
    by_cases c1 : l[i].f0 = key
    · have ih0 := ih (i + 1) k out (joinS l[i] own) (by omega) (by omega) (by omega) c1
      have ih1 := ih (i + 1) k (out ++ [l[i]]) own (by omega) (by omega) (by simp; omega) hown
      by_cases c2 : a2 ≥ wrap64 (l[i].f1 - gap)
      · by_cases c3 : a2 ≤ wrap64 (l[i].f2 + gap)
        · rw [if_pos c1, if_pos c2, if_pos c3, if_pos ⟨c1, c2, c3⟩]; exact ih0
        · rw [if_pos c1, if_pos c2, if_neg c3, if_neg (fun h => c3 h.2.2)]; rw [hown] at ih1; exact ih1
      · rw [if_pos c1, if_neg c2, if_neg (fun h => c2 h.2.1)]; rw [hown] at ih1; exact ih1
    · have ih1 := ih (i + 1) k (out ++ [l[i]]) own (by omega) (by omega) (by simp; omega) hown
      rw [if_neg c1, if_neg (fun h => c1 h.1)]; rw [hown] at ih1; exact ih1
theorem specAdd_eq (l : List S70) (hl : l.length < 1100000) (a0 a1 a2 a3 gap : Int) (k : Nat) (hk : 3 * l.length + 10 < k) :
    spec_l11Add.f k l a0 a1 a2 a3 gap = some (insB (mrgF a1 a2 gap l ⟨a1, a2, a2, 1, a3⟩ []).1 (mrgF a1 a2 gap l ⟨a1, a2, a2, 1, a3⟩ []).2) := by
  have := specAdd_l0 l hl gap a0 a1 a2 a3 a1 l.length 0 k [] ⟨a1, a2, a2, 1, a3⟩ (by omega) (by omega) (by simp) rfl
  simpa [spec_l11Add.f] using this
def lb (own : S70) (l : List S70) : Nat := (l.takeWhile (fun t => decide (ord t own < 0))).length
theorem lb_le (own : S70) (l : List S70) : lb own l ≤ l.length := by
  induction l with
  | nil => simp [lb]
  | cons s r ih => unfold lb at ih ⊢; rw [List.takeWhile_cons]; split <;> simp <;> omega
theorem lb_lt {own : S70} : ∀ {l : List S70} (h : l.Pairwise sl) (m : Nat) (hm : m < l.length), (ord l[m] own < 0 ↔ m < lb own l)
  | [], _, m, hm => by simp at hm
  | s :: r, h, m, hm => by
    obtain ⟨h1, h2⟩ := List.pairwise_cons.1 h
    unfold lb
    rw [List.takeWhile_cons]
    by_cases c : ord s own < 0
    · simp only [c, decide_true, if_true, List.length_cons]
      cases m with
      | zero => simp [c]
      | succ m =>
        have := lb_lt (own := own) h2 m (by simpa using hm)
        simp only [List.getElem_cons_succ]
        rw [this]; unfold lb; omega
    · simp only [c, decide_false]
      cases m with
      | zero => simp [c]
      | succ m =>
        have h3 := h1 (r[m]'(by simpa using hm)) (List.getElem_mem _)
        simp only [List.getElem_cons_succ]
        have : ¬ ord (r[m]'(by simpa using hm)) own < 0 := fun h4 => c ((ord_lt _ _).2 (sl_trans h3 ((ord_lt _ _).1 h4)))
        simp; omega
theorem insB_lb (own : S70) : ∀ (l : List S70), l.Pairwise sl → (∀ t ∈ l, sl t own ∨ sl own t) → insB own l = l.take (lb own l) ++ own :: l.drop (lb own l)
  | [], _, _ => by simp [insB, lb]
  | t :: r, h, ht => by
    obtain ⟨h1, h2⟩ := List.pairwise_cons.1 h
    by_cases c : ord t own < 0
    · have e : lb own (t :: r) = lb own r + 1 := by simp [lb, List.takeWhile_cons, c]
      have c' := (ord_lt _ _).1 c
      have n : ¬ (own.f0 < t.f0 ∨ (own.f0 = t.f0 ∧ own.f1 < t.f1)) := by unfold sl at c'; omega
      rw [insB, if_neg n, e, insB_lb own r h2 (fun x hx => ht x (List.mem_cons_of_mem _ hx))]; simp
    · have e : lb own (t :: r) = 0 := by simp [lb, List.takeWhile_cons, c]
      have c' : sl own t := (ht t List.mem_cons_self).resolve_left (fun h => c ((ord_lt _ _).2 h))
      rw [insB, if_pos (by unfold sl at c'; exact c'), e]; simp
theorem bin_l0 (l : List S70) (hl : l.length < 4000000) (h : l.Pairwise sl) (own : S70) : ∀ n i j k, i ≤ lb own l → lb own l ≤ j → j ≤ l.length → j - i ≤ n → n + 5 < k →
    ∃ b, impl_Session_57.l0 k l (l.length : Int) (i : Int) (j : Int) own.f0 own.f1 own.f2 own.f3 own.f4 = some ((lb own l : Int), b) := by
  have hle := lb_le own l
  intro n
  induction n with
  | zero =>
    intro i j k h1 h2 h3 h4 hk
    obtain ⟨k, rfl⟩ : ∃ q, k = q + 1 := ⟨k - 1, by omega⟩
    have e : i = lb own l := by omega
    have e2 : j = lb own l := by omega
    subst e2
    subst e
    have h0 : ¬ ((lb own l : Int) < (lb own l : Int)) := by omega
    have g1 : (0 : Int) ≤ (lb own l : Int) := by omega
    simp only [impl_Session_57.l0, if_neg h0]
    by_cases c : lb own l < l.length
    · have c' : (lb own l : Int) < (l.length : Int) := by omega
      rw [if_pos c', if_pos g1, if_pos c']
      rw [rd70 l _ c, ord_eq _ _ k (by omega)]
      exact ⟨_, rfl⟩
    · have c' : ¬ ((lb own l : Int) < (l.length : Int)) := by omega
      rw [if_neg c']; exact ⟨_, rfl⟩
  | succ n ih =>
    intro i j k h1 h2 h3 h4 hk
    by_cases hij : i < j
    · obtain ⟨k, rfl⟩ : ∃ q, k = q + 1 := ⟨k - 1, by omega⟩
      have h0 : ((i : Int) < (j : Int)) := by omega
      have hm : (i + j) / 2 < l.length := by omega
      have g1 : (0 : Int) ≤ (((i + j) / 2 : Nat) : Int) := by omega
      have g2 : (((i + j) / 2 : Nat) : Int) < (l.length : Int) := by omega
      simp only [impl_Session_57.l0, if_pos h0, mid_eq i j (by omega) (by omega), if_pos g1, if_pos g2]
      rw [rd70 l _ hm, ord_eq _ _ k (by omega)]
      simp only [Option.bind_some]
      have hlb := lb_lt (own := own) h _ hm
      by_cases c : ord l[(i + j) / 2] own < 0
      · rw [if_pos c, nxt _ (by omega)]
        exact ih _ _ _ (by have := hlb.1 c; omega) h2 h3 (by omega) (by omega)
      · rw [if_neg c]
        exact ih _ _ _ h1 (by have : ¬ ((i + j) / 2 < lb own l) := fun h5 => c (hlb.2 h5)
                              omega) (by omega) (by omega) (by omega)
    · exact ih i j k h1 h2 h3 (by omega) (by omega)
theorem bin_eq (l : List S70) (hl : l.length < 4000000) (h : l.Pairwise sl) (own : S70) (k : Nat) (hk : l.length + 5 < k) : ∃ b, impl_Session_57.f k l own.f0 own.f1 own.f2 own.f3 own.f4 = some ((lb own l : Int), b) := by
  have := bin_l0 l hl h own l.length 0 l.length k (by omega) (lb_le _ _) (by omega) (by omega) hk
  simpa [impl_Session_57.f] using this
theorem mrg_out (key time gap : Int) : ∀ (l : List S70) own out, ∃ m : List S70, m.Sublist l ∧ (mrgF key time gap l own out).2 = out ++ m ∧ ∀ t ∈ m, ¬ jn key time gap t
  | [], own, out => ⟨[], List.Sublist.refl _, by simp [mrgF], by simp⟩
  | s :: r, own, out => by
    by_cases c : jn key time gap s
    · obtain ⟨m, h1, h2, h3⟩ := mrg_out key time gap r (joinS s own) out
      exact ⟨m, h1.cons s, by rw [mrgF, if_pos c, h2], h3⟩
    · obtain ⟨m, h1, h2, h3⟩ := mrg_out key time gap r own (out ++ [s])
      refine ⟨s :: m, h1.cons_cons s, by rw [mrgF, if_neg c, h2]; simp, ?_⟩
      intro t ht
      rcases List.mem_cons.1 ht with rfl | ht
      · exact c
      · exact h3 t ht
theorem mrg_own (key time gap : Int) : ∀ (l : List S70) own out, own.f0 = key → (mrgF key time gap l own out).1.f0 = key ∧ ((mrgF key time gap l own out).1.f1 = own.f1 ∨ ∃ s ∈ l, jn key time gap s ∧ (mrgF key time gap l own out).1.f1 = s.f1)
  | [], own, out, h => ⟨by simpa [mrgF] using h, by simp [mrgF]⟩
  | s :: r, own, out, h => by
    by_cases c : jn key time gap s
    · obtain ⟨h1, h2⟩ := mrg_own key time gap r (joinS s own) out c.1
      rw [mrgF, if_pos c]
      refine ⟨h1, ?_⟩
      rcases h2 with h2 | ⟨t, ht, h3, h4⟩
      · have e : (joinS s own).f1 = if own.f1 < s.f1 then own.f1 else s.f1 := rfl
        by_cases c2 : own.f1 < s.f1
        · rw [if_pos c2] at e; exact .inl (h2.trans e)
        · rw [if_neg c2] at e; exact .inr ⟨s, List.mem_cons_self, c, h2.trans e⟩
      · exact .inr ⟨t, List.mem_cons_of_mem _ ht, h3, h4⟩
    · obtain ⟨h1, h2⟩ := mrg_own key time gap r own (out ++ [s]) h
      rw [mrgF, if_neg c]
      refine ⟨h1, ?_⟩
      rcases h2 with h2 | ⟨t, ht, h3, h4⟩
      · exact .inl h2
      · exact .inr ⟨t, List.mem_cons_of_mem _ ht, h3, h4⟩
theorem mrg_apart {key time gap : Int} (hg : 0 ≤ gap ∧ gap ≤ 1000000) (ht : 0 ≤ time ∧ time ≤ 1000000) (l : List S70) (hl : l.Pairwise sl) (hok : ∀ s ∈ l, sesOk s = true) (a3 : Int) :
    (mrgF key time gap l ⟨key, time, time, 1, a3⟩ []).2.Pairwise sl ∧ (mrgF key time gap l ⟨key, time, time, 1, a3⟩ []).2.length ≤ l.length ∧
    ∀ t ∈ (mrgF key time gap l ⟨key, time, time, 1, a3⟩ []).2, sl t (mrgF key time gap l ⟨key, time, time, 1, a3⟩ []).1 ∨ sl (mrgF key time gap l ⟨key, time, time, 1, a3⟩ []).1 t := by
  obtain ⟨m, h1, h2, h3⟩ := mrg_out key time gap l ⟨key, time, time, 1, a3⟩ []
  obtain ⟨h4, h5⟩ := mrg_own key time gap l ⟨key, time, time, 1, a3⟩ [] rfl
  rw [h2, List.nil_append]
  refine ⟨hl.sublist h1, h1.length_le, fun t htm => ?_⟩
  generalize (mrgF key time gap l ⟨key, time, time, 1, a3⟩ []).1 = own at h4 h5
  have htl := h1.subset htm
  have hto := hok t htl
  have hnj := h3 t htm
  simp only [sesOk, decide_eq_true_eq] at hto
  by_cases e : t.f0 = own.f0 ∧ t.f1 = own.f1
  · exfalso
    rcases h5 with h5 | ⟨s, hs, hj, h5⟩
    · have e1 : wrap64 (t.f1 - gap) = t.f1 - gap := by unfold wrap64; omega
      have e2 : wrap64 (t.f2 + gap) = t.f2 + gap := by unfold wrap64; omega
      refine hnj ⟨by omega, ?_, ?_⟩
      · rw [e1]; have : own.f1 = time := h5; omega
      · rw [e2]; have : own.f1 = time := h5; omega
    · obtain ⟨i, hi, rfl⟩ := List.mem_iff_getElem.1 htl
      obtain ⟨j, hj2, rfl⟩ := List.mem_iff_getElem.1 hs
      have hjk := hj.1
      rcases Nat.lt_trichotomy i j with h | h | h
      · have := List.pairwise_iff_getElem.1 hl _ _ hi hj2 h; unfold sl at this; omega
      · subst h; exact hnj hj
      · have := List.pairwise_iff_getElem.1 hl _ _ hj2 hi h; unfold sl at this; omega
  · unfold sl; omega
theorem joinS_f3 {s own : S70} (hs : sesOk s = true) (ho : 1 ≤ own.f3 ∧ own.f3 ≤ 1000000000) : 1 ≤ (joinS s own).f3 ∧ (joinS s own).f3 ≤ 1000000000 := by
  simp only [sesOk, decide_eq_true_eq] at hs
  have e : wrap64 (s.f3 + own.f3) = s.f3 + own.f3 := by unfold wrap64; omega
  show 1 ≤ capI (wrap64 (s.f3 + own.f3)) ∧ capI (wrap64 (s.f3 + own.f3)) ≤ 1000000000
  rw [e]; unfold capI; split <;> (try split) <;> omega
def finS (l : List S70) (own : S70) (out : List S70) : List S70 × Bool := if ((insB own out).length : Int) > 200 then (l, false) else (insB own out, true)
theorem clone_eq (l : List S70) (hl : l.length < 4000000) : impl_Session_56.f l = some l := by
  have : l.length < 3518437208883 := by omega
  simp [impl_Session_56.f, this]
theorem implAdd_l0 (l : List S70) (hl : l.length < 1100000) (hok : ∀ s ∈ l, sesOk s = true) (gap a0 key a2 a3 : Int) : ∀ n i k out own, i + n = l.length → l.length + n + 20 < k → out.length + n ≤ l.length → (1 ≤ own.f3 ∧ own.f3 ≤ 1000000000) →
    (mrgF key a2 gap (l.drop i) own out).2.Pairwise sl → (∀ t ∈ (mrgF key a2 gap (l.drop i) own out).2, sl t (mrgF key a2 gap (l.drop i) own out).1 ∨ sl (mrgF key a2 gap (l.drop i) own out).1 t) → (mrgF key a2 gap (l.drop i) own out).2.length ≤ l.length →
    impl_AddToSessions.l0 k l gap out l (l.length : Int) (i : Int) a0 key a2 a3 own.f0 own.f1 own.f2 own.f3 own.f4 = some (finS l (mrgF key a2 gap (l.drop i) own out).1 (mrgF key a2 gap (l.drop i) own out).2) := by
  intro n
  induction n with
  | zero =>
    intro i k out own hi hk ho h3 hp hap hlen
    obtain ⟨k, rfl⟩ : ∃ q, k = q + 1 := ⟨k - 1, by omega⟩
    have h0 : ¬ ((i : Int) < l.length) := by omega
    rw [List.drop_of_length_le (by omega)] at hp hap hlen ⊢
    simp only [mrgF] at hp hap hlen ⊢
    obtain ⟨b, hb⟩ := bin_eq out (by omega) hp own k (by omega)
    have hle := lb_le own out
    have i1 : (0 : Int) ≤ (lb own out : Int) := by omega
    have i2 : (lb own out : Int) ≤ (out.length : Int) := by omega
    have i3 : out.length + 1 < 3518437208883 := by omega
    have hins := insB_lb own out hp hap
    have e : impl_Session_58.f out (lb own out : Int) [own] = some (insB own out) := by
      rw [hins]; simp [impl_Session_58.f, i1, i2, i3, hle]
    have e' : impl_Session_58.f out (lb own out : Int) [(⟨own.f0, own.f1, own.f2, own.f3, own.f4⟩ : S70)] = some (insB own out) := e
    simp only [impl_AddToSessions.l0, if_neg h0, hb, Option.bind_some, e', clone_eq l (by omega), finS]
    by_cases c : ((insB own out).length : Int) > 200
    · rw [if_pos c, if_pos c]
    · rw [if_neg c, if_neg c]
  | succ n ih =>
    intro i k out own hi hk ho h3 hp hap hlen
    obtain ⟨k, rfl⟩ : ∃ q, k = q + 1 := ⟨k - 1, by omega⟩
    have hlt : i < l.length := by omega
    have h0 : (i : Int) < l.length := by omega
    have h1 : (0 : Int) ≤ i := by omega
    have h2 : out.length < 3518437208883 := by omega
    have hs := hok l[i] (List.getElem_mem _)
    rw [List.drop_eq_getElem_cons hlt] at hp hap hlen ⊢
    simp only [impl_AddToSessions.l0, if_pos h0, if_pos h1, if_pos h2, rd70 l i hlt, nxt i (by omega), implJoin_eq l[i] own hs h3, Option.bind_some]
    by_cases c : jn key a2 gap l[i]
    · rw [mrgF, if_pos c] at hp hap hlen ⊢
      rw [if_pos c.1, if_pos c.2.1, if_pos c.2.2]
      exact ih (i + 1) k out (joinS l[i] own) (by omega) (by omega) (by omega) (joinS_f3 hs h3) hp hap hlen
    · rw [mrgF, if_neg c] at hp hap hlen ⊢
      have ih1 := ih (i + 1) k (out ++ [l[i]]) own (by omega) (by omega) (by simp; omega) h3 hp hap hlen
      by_cases c1 : l[i].f0 = key
      · by_cases c2 : a2 ≥ wrap64 (l[i].f1 - gap)
        · have c3 : ¬ (a2 ≤ wrap64 (l[i].f2 + gap)) := fun h => c ⟨c1, c2, h⟩
          rw [if_pos c1, if_pos c2, if_neg c3]; exact ih1
        · rw [if_pos c1, if_neg c2]; exact ih1
      · rw [if_neg c1]; exact ih1
def addS (l : List S70) (a0 a1 a2 a3 gap : Int) : List S70 × Bool :=
  if (l.length : Int) ≤ 200 ∧ (0 ≤ gap ∧ gap ≤ 1000000) ∧ okF gap none l = true ∧ evOk a0 a1 a2 a3 = true then finS l (mrgF a1 a2 gap l ⟨a1, a2, a2, 1, a3⟩ []).1 (mrgF a1 a2 gap l ⟨a1, a2, a2, 1, a3⟩ []).2 else (l, false)
theorem specSesOk_eq (l : List S70) (hl : l.length < 4000000) (gap : Int) (k : Nat) (hk : l.length + 1 < k) : spec_l11SessionsOk.f k l gap = some (decide ((l.length : Int) ≤ 200) && decide (0 ≤ gap ∧ gap ≤ 1000000) && okF gap none l) := by
  obtain ⟨k, rfl⟩ : ∃ q, k = q + 1 := ⟨k - 1, by omega⟩
  have h := specSesOk_l0 l (by omega) gap l.length 0 k (by omega) (by omega)
  simp only [Int.natCast_zero, List.drop_zero, prevOf] at h
  simp only [spec_l11SessionsOk.f, spec_l11SessionsOk.j0, in_eq, Option.bind_some]
  by_cases c1 : (l.length : Int) > 200
  · rw [if_pos c1]; simp [show ¬ ((l.length : Int) ≤ 200) by omega]
  · rw [if_neg c1]
    by_cases c2 : 0 ≤ gap ∧ gap ≤ 1000000
    · simp [c2, h, show ((l.length : Int) ≤ 200) by omega]
    · simp [c2]
theorem specAdd_l0' (l : List S70) (hl : l.length < 1100000) (gap a0 a1 a2 a3 : Int) : ∀ n i k, i + n = l.length → 3 * l.length + 20 + n < k → spec_AddToSessions.l0 k l gap (l.take i) (i : Int) a0 a1 a2 a3 = some (addS l a0 a1 a2 a3 gap) := by
  intro n
  induction n with
  | zero =>
    intro i k hi hk
    obtain ⟨k, rfl⟩ : ∃ q, k = q + 2 := ⟨k - 2, by omega⟩
    have h0 : ¬ ((i : Int) < l.length) := by omega
    rw [List.take_of_length_le (by omega)]
    obtain ⟨v, hv⟩ := specFrame_some a0 a1 a2 a3
    simp only [spec_AddToSessions.l0, if_neg h0, spec_AddToSessions.j1, specSesOk_eq l (by omega) gap (k + 1) (by omega), Option.bind_some, hv, specAdd_eq l hl a0 a1 a2 a3 gap k (by omega), addS, finS]
    by_cases c1 : (l.length : Int) ≤ 200
    · by_cases c2 : 0 ≤ gap ∧ gap ≤ 1000000
      · cases c3 : okF gap none l
        · simp [c1, c2]
        · by_cases c4 : a0 = 1
          · subst c4
            rw [specFrame_one] at hv
            obtain rfl := Option.some.inj hv
            cases c5 : evOk 1 a1 a2 a3 <;> simp [c1, c2]
            · split <;> rfl
          · have c5 : evOk a0 a1 a2 a3 = false := by simp [evOk, c4]
            cases v <;> simp [c1, c2, c5, c4]
      · simp [c1, c2]
    · simp [c1]
  | succ n ih =>
    intro i k hi hk
    obtain ⟨k, rfl⟩ : ∃ q, k = q + 1 := ⟨k - 1, by omega⟩
    have hlt : i < l.length := by omega
    have h0 : (i : Int) < l.length := by omega
    have h1 : (0 : Int) ≤ i := by omega
    have h2 : (l.take i).length < 3518437208883 := by rw [List.length_take]; omega
    have ih1 := ih (i + 1) k (by omega) (by omega)
    rw [List.take_succ_eq_append_getElem hlt] at ih1
    simp only [spec_AddToSessions.l0, if_pos h0, if_pos h1, if_pos h2, rd70 l i hlt, nxt i (by omega)]
    exact ih1
theorem specAddTo_eq (l : List S70) (hl : l.length < 1100000) (a0 a1 a2 a3 gap : Int) (k : Nat) (hk : 4 * l.length + 20 < k) : spec_AddToSessions.f k l a0 a1 a2 a3 gap = some (addS l a0 a1 a2 a3 gap) := by
  have := specAdd_l0' l hl gap a0 a1 a2 a3 l.length 0 k (by omega) (by omega)
  simpa [spec_AddToSessions.f] using this
theorem implAddTo_eq (l : List S70) (hl : l.length < 1100000) (a0 a1 a2 a3 gap : Int) (k : Nat) (hk : 4 * l.length + 30 < k) : impl_AddToSessions.f k l a0 a1 a2 a3 gap = some (addS l a0 a1 a2 a3 gap) := by
  obtain ⟨k, rfl⟩ : ∃ q, k = q + 1 := ⟨k - 1, by omega⟩
  simp only [impl_AddToSessions.f, isTime_eq, implEv_eq, Option.bind_some, impl_AddToSessions.j0, clone_eq l (by omega), impl_sessionOf.f, addS, decide_eq_true_eq]
  by_cases c2 : 0 ≤ gap ∧ gap ≤ 1000000
  · have h := implSesOk_l0 l (by omega) gap c2 l.length 0 (k + 1) (by omega) (by omega) (by simp [prevOf])
    simp only [Int.natCast_zero, List.drop_zero, prevOf] at h
    cases c5 : evOk a0 a1 a2 a3
    · simp [c2]
    · have hev := c5
      simp only [evOk, decide_eq_true_eq] at hev
      simp only [impl_areSessions.f, h, Option.bind_some]
      cases c3 : okF gap none l
      · simp [c2]
      · by_cases c1 : (l.length : Int) ≤ 200
        · obtain ⟨hris, _, hoks⟩ := okF_rises c2 l none (by simp) c3
          obtain ⟨g1, g2, g3⟩ := mrg_apart (key := a1) c2 hev.2.2.1 l hris hoks a3
          have := implAdd_l0 l hl hoks gap a0 a1 a2 a3 l.length 0 k [] ⟨a1, a2, a2, 1, a3⟩ (by omega) (by omega) (by simp) ⟨by show (1 : Int) ≤ 1; omega, by show (1 : Int) ≤ 1000000000; omega⟩ (by simpa using g1) (by simpa using g3) (by simpa using g2)
          simp only [Int.natCast_zero, List.drop_zero] at this
          simp [c1, c2, this]
        · simp [c1, c2]
  · simp [c2]
theorem addS_length (l : List S70) (a0 a1 a2 a3 gap : Int) : (addS l a0 a1 a2 a3 gap).1.length ≤ l.length + 200 := by
  unfold addS finS
  split
  · split
    · simp
    · rename_i h; simp only; omega
  · simp
end Go.Proofs.Ytdjfnclheohhiaa.WP
namespace Go.Proofs.Ytdjfnclheohhiaa.Pure
open Go.RowKit Go.Proofs.Ytdjfnclheohhiaa.K Go.Proofs.Ytdjfnclheohhiaa.WP Go.Proofs.YtdjfnclheohhiaaW.PrintWords Go.Proofs.YtdjfnclheohhiaaW.PrintLast
set_option linter.unusedVariables false
set_option linter.unusedSimpArgs false
theorem FnExactAddToSessions : ∀ (l0 : List (S79)) (a1_0 : Int) (a1_1 : Int) (a1_2 : Int) (a1_3 : Int) (a2 : Int), (l0.length ≤ maxLen ∧ ∀ x_0 ∈ l0, ((Lit.int .i64 x_0.f0).wf = true ∧ (Lit.int .i64 x_0.f1).wf = true ∧ (Lit.int .i64 x_0.f2).wf = true ∧ (Lit.int .i64 x_0.f3).wf = true ∧ (Lit.int .i64 x_0.f4).wf = true)) → (Lit.int .i64 a1_0).wf = true → (Lit.int .i64 a1_1).wf = true → (Lit.int .i64 a1_2).wf = true → (Lit.int .i64 a1_3).wf = true → (Lit.int .i64 a2).wf = true →  ∃ k, laws_FnExactAddToSessions.f k l0 a1_0 a1_1 a1_2 a1_3 a2 = some true := by
  intro l b0 b1 b2 b3 gap hl0 _ _ _ _ _
  have hmax : l.length ≤ 9223372036854775807 := hl0.1
  by_cases hl : l.length ≤ 1048576
  · have e : wrap64 (1048576 - (l.length : Int)) = 1048576 - (l.length : Int) := by unfold wrap64; omega
    have hn : ¬ (1048576 - (l.length : Int) < 0) := by omega
    have hto := toSessionS_eq l hl (5 * l.length + 1000) (by omega)
    have hlen0 : (l.map cvSession).length = l.length := List.length_map ..
    refine ⟨5 * l.length + 1000, ?_⟩
    have hsp := specAddTo_eq (l.map cvSession) (by omega) b0 b1 b2 b3 gap (5 * l.length + 1000) (by omega)
    have him := implAddTo_eq (l.map cvSession) (by omega) b0 b1 b2 b3 gap (5 * l.length + 1000) (by omega)
    have hlen := addS_length (l.map cvSession) b0 b1 b2 b3 gap
    generalize addS (l.map cvSession) b0 b1 b2 b3 gap = v at hsp him hlen
    obtain ⟨v1, v2⟩ := v
    simp only at hlen
    have heq := eqSessionS_refl v1 (by omega) (5 * l.length + 1000) (by omega)
    have heq2 := eqSessionS_refl (l.map cvSession) (by omega) (5 * l.length + 1000) (by omega)
    have hmk := markSessionS_eq v1 (by omega) 1 (by omega) (by omega) (5 * l.length + 1000) (by omega)
    have hmk2 := markSessionS_eq (l.map cvSession) (by omega) 1 (by omega) (by omega) (5 * l.length + 1000) (by omega)
    have hhe := heldSessionS_eq v1 (by omega) 1 (by omega) (by omega) (5 * l.length + 1000) (by omega)
    rw [hlen0] at hmk2
    have n1 : ¬ (1 + 5 * (l.length : Int) < 0) := by omega
    have n2 : ¬ (1 + 5 * (v1.length : Int) < 0) := by omega
    simp only [laws_FnExactAddToSessions.f, laws_szSessionS.f, laws_toFrame.f, e, if_neg hn, Option.bind_some, hto, hsp, him, heq, heq2, hmk, hmk2, hhe, if_true, bne_self_eq_false, Bool.false_eq_true, if_false, if_neg n1, if_neg n2]
  · refine ⟨1, ?_⟩
    have e : wrap64 (1048576 - (l.length : Int)) = 1048576 - (l.length : Int) := by unfold wrap64; omega
    have hn : 1048576 - (l.length : Int) < 0 := by omega
    simp [laws_FnExactAddToSessions.f, laws_szSessionS.f, e, hn]
end Go.Proofs.Ytdjfnclheohhiaa.Pure
namespace Go.Proofs.Ytdjfnclheohhiaa.fnExactAddToSessions
open Go.ChangeShapes Go.WideShapes Go.ChangeAt Go.RowKit Go.Proofs.YtdjfnclheohhiaaW.PrintWords Go.Proofs.Ytdjfnclheohhiaa.K Go.Proofs.YtdjfnclheohhiaaO
open Go.ChangeMaps (open_string shut_string)
set_option linter.unusedVariables false
theorem own : ownKnob Try.prog.godebug = none := by kernel_rfl
theorem laidOut : laidOutB Try.prog = true := by kernel_rfl
set_option maxRecDepth 100000 in
theorem lifted (os : Os) (started : os.Started) (H : Type) (enc : TypeId × Value → H) :
    ReturnsInHanded {} Try.checked os 4 .any (Rows.fnExactAddToSessionsSpec.pre6 enc Try.prog Try.f4 Rows.fnExactAddToSessionsRow.domain false) (Rows.fnExactAddToSessionsSpec.post enc Try.prog Try.f4 false true false false) := by
  refine returnsInHanded_of_change_sized (C := Try.checked) own started (by kernel_rfl) Try.func4
    (ChangeSpec.witness6 (enc := enc) (C := Try.checked) false ⟨#[], #[.slice none 0 0, .agg #[.int .i64 0, .int .i64 0, .int .i64 0, .int .i64 0], .int .i64 0], []⟩ 8 (by kernel_rfl) (by kernel_rfl) (by kernel_rfl) (by kernel_rfl)) ?_
  intro W base args ds gs before hval0 hW hcnd hsz0 _
  have hval : ∀ (j : Nat) t v, Try.f4.params[j]? = some t → args[j]? = some v → Value.okWide Try.prog W .any base t v := hval0
  have hW' := hW
  obtain ⟨p, q, hA0, hV, rfl, hfz, hnd⟩ := hW
  have hA : DataW.TrodAll enc Try.prog W 0 (fun _ => true) true Try.f4.params.toList args.toList ds p := hA0
  rw [Try.params4] at hA hval
  obtain ⟨v0, vs0, d0, ds0, p0, q0, hargs, rfl, rfl, h0, r0⟩ := trodAll_cons hA
  obtain ⟨v1, vs1, d1, ds1, p1, q1, rfl, rfl, rfl, h1, r1⟩ := trodAll_cons r0
  obtain ⟨v2, vs2, d2, ds2, p2, q2, rfl, rfl, rfl, h2, r2⟩ := trodAll_cons r1
  obtain ⟨rfl, rfl, rfl⟩ := trodAll_nil r2
  obtain rfl : args = #[v0, v1, v2] := by cases args; simp_all
  obtain ⟨rfl, rfl⟩ := trodVars_none hV
  have k0 := h0
  have lt0 : ∀ x ∈ p0, x.block < W.heap.size := by obtain ⟨m, hm⟩ := k0; exact DataW.trod_lt m _ _ _ hm
  obtain ⟨x0, len0, cap0, rfl⟩ := okWide_slice Try.underlying33 (hval 0 33 v0 rfl rfl)
  obtain ⟨l0, ⟨A0, c0, he0, hc0, hC0⟩, w0⟩ := ((opens_slice Try.underlying33 (by kernel_rfl) (opens_iso (opens_struct Try.underlying79 (by kernel_rfl) (opensF_cons (opens_int Try.underlying3 (by kernel_rfl)) (opensF_cons (opens_int Try.underlying3 (by kernel_rfl)) (opensF_cons (opens_int Try.underlying3 (by kernel_rfl)) (opensF_cons (opens_int Try.underlying3 (by kernel_rfl)) (opensF_last (opens_int Try.underlying3 (by kernel_rfl))) rfl) rfl) rfl) rfl)) (fun x : S79 => (x.f0, x.f1, x.f2, x.f3, x.f4)) (fun p => ⟨p.1, p.2.1, p.2.2.1, p.2.2.2.1, p.2.2.2.2⟩) (fun _ => rfl))) : Opens enc Try.prog W 0 (fun _ => true) true 33 (Kd.slice 79 k79) _).at h0
  have he0' : (Value.slice x0 len0 cap0) = .slice A0 l0.length c0 := by have := congrArg List.head? he0; simpa [Value.cells] using this
  rw [he0'] at hW' k0 hval ⊢
  have k1 := h1
  have lt1 : ∀ x ∈ p1, x.block < W.heap.size := by obtain ⟨m, hm⟩ := k1; exact DataW.trod_lt m _ _ _ hm
  obtain ⟨cs1, rfl, sz1⟩ := okWide_struct Try.underlying35 (hval 1 35 v1 rfl rfl)
  obtain ⟨⟨a1_0, a1_1, a1_2, a1_3⟩, hk1, ⟨w1_0, w1_1, w1_2, w1_3⟩⟩ := ((opens_struct Try.underlying35 (by kernel_rfl) (opensF_cons (opens_int Try.underlying3 (by kernel_rfl)) (opensF_cons (opens_int Try.underlying3 (by kernel_rfl)) (opensF_cons (opens_int Try.underlying3 (by kernel_rfl)) (opensF_last (opens_int Try.underlying3 (by kernel_rfl))) rfl) rfl) rfl)) : Opens enc Try.prog W 0 (fun _ => true) true 35 (Kd.pair (Kd.int .i64) (Kd.pair (Kd.int .i64) (Kd.pair (Kd.int .i64) (Kd.int .i64)))) _).at h1
  obtain ⟨_, _, he1, rfl, ⟨_, _, rfl, rfl, ⟨_, _, rfl, rfl, rfl⟩⟩⟩ := hk1
  obtain rfl : cs1 = #[.int .i64 a1_0, .int .i64 a1_1, .int .i64 a1_2, .int .i64 a1_3] := by cases cs1; simpa [Value.cells] using he1
  obtain ⟨a2, rfl, rfl, rfl, w2⟩ := open_int Try.underlying3 (hval 2 3 v2 rfl rfl) h2
  clear hA0 hval0 hsz0
  obtain ⟨k, hk⟩ := Pure.FnExactAddToSessions l0 a1_0 a1_1 a1_2 a1_3 a2 w0 w1_0 w1_1 w1_2 w1_3 w2
  refine (laws_FnExactAddToSessions.calls k A0 c0 l0 a1_0 a1_1 a1_2 a1_3 a2 true W hC0 hc0 hk).mono fun e W' ⟨he, bel⟩ => ?_
  subst he
  exact ⟨_, rfl, _, _, _, [], _, [], hW', trodAll_mk1 (shut_bool Try.underlying4 _), (trodAll_cons_mk (Below.trod laidOut (by kernel_rfl) (of_decide_eq_true (by kernel_rfl)) k0 bel lt0) (trodAll_cons_mk (Below.trod laidOut (by kernel_rfl) (of_decide_eq_true (by kernel_rfl)) k1 bel lt1) (trodAll_cons_mk (shut_int Try.underlying3 w2) trodAll_mk0))), rfl, bel.frame _, fun h => by cases h⟩
theorem over : Rows.fnExactAddToSessionsRow.holds Try.pinned (OpenSpec.ofChange Rows.fnExactAddToSessionsSpec) :=
  OpenClaim.holds_of_wide 4 Try.f4 rfl rfl rfl rfl rfl rfl rfl ⟨rfl, rfl, rfl, rfl, rfl⟩ rfl rfl rfl rfl rfl (by kernel_rfl) Try.func4 (by kernel_rfl)
    (of_decide_eq_true (by kernel_rfl)) (by unfold Func.isWrapper; first | (rw [if_pos (by decide +kernel)]; kernel_rfl) | (rw [if_neg (by decide +kernel)]; exact ⟨rfl, rfl⟩))
    (fun os started H enc _ => lifted os started H enc)
theorem proved : Rows.FnExactAddToSessionsSaid := over
#print axioms proved
end Go.Proofs.Ytdjfnclheohhiaa.fnExactAddToSessions
namespace Go.Proofs.Ytdjfnclheohhiaa
theorem fnExactAddToSessions_holds : Rows.FnExactAddToSessionsSaid := fnExactAddToSessions.proved
end Go.Proofs.Ytdjfnclheohhiaa
