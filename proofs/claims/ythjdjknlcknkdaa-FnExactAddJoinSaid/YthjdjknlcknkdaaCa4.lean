/- Part 4 of a proof: walks of the given functions and laws over lists. -/
import Derived.Test.YthjdjknlcknkdaaCa3
namespace Go.Proofs.Ythjdjknlcknkdaa.K
open Go.RowKit Go.Proofs.YthjdjknlcknkdaaW.PrintWords Go.Proofs.YthjdjknlcknkdaaW.PrintLast Go.Proofs.YthjdjknlcknkdaaW.PrintMore Go.Proofs.YthjdjknlcknkdaaV
attribute [local go_sem] isSome_setCell max2_int min2_int max_two min_two max_three min_three max_four min_four   
set_option linter.unusedVariables false
set_option linter.unusedSimpArgs false
mutual
def impl_AddJoin.j0 : Nat → Int → Bool → List (S35) → Bool → List (S35) → List (S35) → Int → Int → Int → Int → Int → List (S35) → List (S35) → Int → Option ((List (S35)) × (List (S35)) × Int × (List (S75)) × Int)
  | 0, _, _, _, _, _, _, _, _, _, _, _, _, _, _ => none
  | k + 1, x1, x2, x13, x26, x243000, x243001, x243002, x244000, x244001, x244002, x244003, x253000, x253001, x253002 => if x26 = true then (some (x253000, x253001, x253002, ([] : List (S75)), 3)) else (if x244002 ≤ x243002 then (some (x253000, x253001, x253002, ([] : List (S75)), 1)) else (if (x253000.length : Int) = 40 then (some (x253000, x253001, x253002, ([] : List (S75)), 2)) else (if x253000.length < 4398046511104 then (impl_AddJoin.l0 k x1 x2 (([] : List (S75))) x13 (x13.length : Int) 0 x244000 x244001 x244002 x244003 (x253000 ++ [(⟨x244000, x244001, x244002, x244003⟩ : S35)]) x253001 x253002) else (none))))
def impl_AddJoin.l0 : Nat → Int → Bool → List (S75) → List (S35) → Int → Int → Int → Int → Int → Int → List (S35) → List (S35) → Int → Option ((List (S35)) × (List (S35)) × Int × (List (S75)) × Int)
  | 0, _, _, _, _, _, _, _, _, _, _, _, _, _ => none
  | k + 1, x1, x2, x14, x64, x65, x66, x244000, x244001, x244002, x244003, x253000, x253001, x253002 => if x66 < x65 then (if 0 ≤ x66 then (if x66 < (x64.length : Int) then ((impl_meet.f x244000 x244001 x244002 x244003 ((rd_T35 x64 x66).f0) ((rd_T35 x64 x66).f1) ((rd_T35 x64 x66).f2) ((rd_T35 x64 x66).f3) x1).bind fun t264 => (if t264 = true then (if x2 = true then ((impl_pairOf.f x244000 x244001 x244002 x244003 ((rd_T35 x64 x66).f0) ((rd_T35 x64 x66).f1) ((rd_T35 x64 x66).f2) ((rd_T35 x64 x66).f3)).bind fun bt265 => (if x14.length < 3518437208883 then (impl_AddJoin.l0 k x1 x2 (x14 ++ [(⟨bt265.1, bt265.2.1, bt265.2.2.1, bt265.2.2.2.1, bt265.2.2.2.2⟩ : S75)]) x64 x65 (wrap64 (x66 + 1)) x244000 x244001 x244002 x244003 x253000 x253001 x253002) else (none))) else ((impl_pairOf.f ((rd_T35 x64 x66).f0) ((rd_T35 x64 x66).f1) ((rd_T35 x64 x66).f2) ((rd_T35 x64 x66).f3) x244000 x244001 x244002 x244003).bind fun bt273 => (if x14.length < 3518437208883 then (impl_AddJoin.l0 k x1 x2 (x14 ++ [(⟨bt273.1, bt273.2.1, bt273.2.2.1, bt273.2.2.2.1, bt273.2.2.2.2⟩ : S75)]) x64 x65 (wrap64 (x66 + 1)) x244000 x244001 x244002 x244003 x253000 x253001 x253002) else (none)))) else (impl_AddJoin.l0 k x1 x2 x14 x64 x65 (wrap64 (x66 + 1)) x244000 x244001 x244002 x244003 x253000 x253001 x253002))) else (none)) else (none)) else (some (x253000, x253001, x253002, x14, 0))
def impl_AddJoin.j2 : Nat → Int → Bool → List (S35) → Bool → List (S35) → List (S35) → Int → Int → Int → Int → Int → List (S35) → List (S35) → Int → Option ((List (S35)) × (List (S35)) × Int × (List (S75)) × Int)
  | 0, _, _, _, _, _, _, _, _, _, _, _, _, _, _ => none
  | k + 1, x1, x2, x13, x26, x243000, x243001, x243002, x244000, x244001, x244002, x244003, x253000, x253001, x253002 => if x26 = true then (some (x253000, x253001, x253002, ([] : List (S75)), 3)) else (if x244002 ≤ x243002 then (some (x253000, x253001, x253002, ([] : List (S75)), 1)) else (if (x253001.length : Int) = 40 then (some (x253000, x253001, x253002, ([] : List (S75)), 2)) else (if x253001.length < 4398046511104 then (impl_AddJoin.l1 k x1 x2 (([] : List (S75))) x13 (x13.length : Int) 0 x244000 x244001 x244002 x244003 x253000 (x253001 ++ [(⟨x244000, x244001, x244002, x244003⟩ : S35)]) x253002) else (none))))
def impl_AddJoin.l1 : Nat → Int → Bool → List (S75) → List (S35) → Int → Int → Int → Int → Int → Int → List (S35) → List (S35) → Int → Option ((List (S35)) × (List (S35)) × Int × (List (S75)) × Int)
  | 0, _, _, _, _, _, _, _, _, _, _, _, _, _ => none
  | k + 1, x1, x2, x14, x64, x65, x66, x244000, x244001, x244002, x244003, x253000, x253001, x253002 => if x66 < x65 then (if 0 ≤ x66 then (if x66 < (x64.length : Int) then ((impl_meet.f x244000 x244001 x244002 x244003 ((rd_T35 x64 x66).f0) ((rd_T35 x64 x66).f1) ((rd_T35 x64 x66).f2) ((rd_T35 x64 x66).f3) x1).bind fun t292 => (if t292 = true then (if x2 = true then ((impl_pairOf.f x244000 x244001 x244002 x244003 ((rd_T35 x64 x66).f0) ((rd_T35 x64 x66).f1) ((rd_T35 x64 x66).f2) ((rd_T35 x64 x66).f3)).bind fun bt293 => (if x14.length < 3518437208883 then (impl_AddJoin.l1 k x1 x2 (x14 ++ [(⟨bt293.1, bt293.2.1, bt293.2.2.1, bt293.2.2.2.1, bt293.2.2.2.2⟩ : S75)]) x64 x65 (wrap64 (x66 + 1)) x244000 x244001 x244002 x244003 x253000 x253001 x253002) else (none))) else ((impl_pairOf.f ((rd_T35 x64 x66).f0) ((rd_T35 x64 x66).f1) ((rd_T35 x64 x66).f2) ((rd_T35 x64 x66).f3) x244000 x244001 x244002 x244003).bind fun bt301 => (if x14.length < 3518437208883 then (impl_AddJoin.l1 k x1 x2 (x14 ++ [(⟨bt301.1, bt301.2.1, bt301.2.2.1, bt301.2.2.2.1, bt301.2.2.2.2⟩ : S75)]) x64 x65 (wrap64 (x66 + 1)) x244000 x244001 x244002 x244003 x253000 x253001 x253002) else (none)))) else (impl_AddJoin.l1 k x1 x2 x14 x64 x65 (wrap64 (x66 + 1)) x244000 x244001 x244002 x244003 x253000 x253001 x253002))) else (none)) else (none)) else (some (x253000, x253001, x253002, x14, 0))
end
def impl_AddJoin.f (k : Nat) (l0_0 : List (S35)) (l0_1 : List (S35)) (a0_2 : Int) (a1 : Int) (a2 : Bool) (a3_0 : Int) (a3_1 : Int) (a3_2 : Int) (a3_3 : Int) : Option ((List (S35)) × (List (S35)) × Int × (List (S75)) × Int) := (impl_ownJoin.f l0_0 l0_1 a0_2).bind fun bt245 => (if a2 = true then ((impl_JoinOk.f k l0_0 l0_1 a0_2).bind fun t253 => (if t253 = true then ((impl_isEvent.f a3_0 a3_1 a3_2 a3_3).bind fun t254 => (if t254 = true then ((impl_isTime.f a1).bind fun t255 => (impl_AddJoin.j0 k a1 a2 l0_1 (!t255) l0_0 l0_1 a0_2 a3_0 a3_1 a3_2 a3_3 bt245.1 bt245.2.1 bt245.2.2)) else (impl_AddJoin.j0 k a1 a2 l0_1 true l0_0 l0_1 a0_2 a3_0 a3_1 a3_2 a3_3 bt245.1 bt245.2.1 bt245.2.2))) else (impl_AddJoin.j0 k a1 a2 l0_1 true l0_0 l0_1 a0_2 a3_0 a3_1 a3_2 a3_3 bt245.1 bt245.2.1 bt245.2.2))) else ((impl_JoinOk.f k l0_0 l0_1 a0_2).bind fun t281 => (if t281 = true then ((impl_isEvent.f a3_0 a3_1 a3_2 a3_3).bind fun t282 => (if t282 = true then ((impl_isTime.f a1).bind fun t283 => (impl_AddJoin.j2 k a1 a2 l0_0 (!t283) l0_0 l0_1 a0_2 a3_0 a3_1 a3_2 a3_3 bt245.1 bt245.2.1 bt245.2.2)) else (impl_AddJoin.j2 k a1 a2 l0_0 true l0_0 l0_1 a0_2 a3_0 a3_1 a3_2 a3_3 bt245.1 bt245.2.1 bt245.2.2))) else (impl_AddJoin.j2 k a1 a2 l0_0 true l0_0 l0_1 a0_2 a3_0 a3_1 a3_2 a3_3 bt245.1 bt245.2.1 bt245.2.2))))
theorem impl_AddJoin.mono_l : ∀ k, (∀ y0 y1 y2 y3 y4 y5 y6 y7 y8 y9 y10 y11 y12 y13, LeO (impl_AddJoin.j0 k y0 y1 y2 y3 y4 y5 y6 y7 y8 y9 y10 y11 y12 y13) (impl_AddJoin.j0 (k + 1) y0 y1 y2 y3 y4 y5 y6 y7 y8 y9 y10 y11 y12 y13)) ∧ (∀ y0 y1 y2 y3 y4 y5 y6 y7 y8 y9 y10 y11 y12, LeO (impl_AddJoin.l0 k y0 y1 y2 y3 y4 y5 y6 y7 y8 y9 y10 y11 y12) (impl_AddJoin.l0 (k + 1) y0 y1 y2 y3 y4 y5 y6 y7 y8 y9 y10 y11 y12)) ∧ (∀ y0 y1 y2 y3 y4 y5 y6 y7 y8 y9 y10 y11 y12 y13, LeO (impl_AddJoin.j2 k y0 y1 y2 y3 y4 y5 y6 y7 y8 y9 y10 y11 y12 y13) (impl_AddJoin.j2 (k + 1) y0 y1 y2 y3 y4 y5 y6 y7 y8 y9 y10 y11 y12 y13)) ∧ (∀ y0 y1 y2 y3 y4 y5 y6 y7 y8 y9 y10 y11 y12, LeO (impl_AddJoin.l1 k y0 y1 y2 y3 y4 y5 y6 y7 y8 y9 y10 y11 y12) (impl_AddJoin.l1 (k + 1) y0 y1 y2 y3 y4 y5 y6 y7 y8 y9 y10 y11 y12))
  | 0 => ⟨fun _ _ _ _ _ _ _ _ _ _ _ _ _ _ r h => by simp [impl_AddJoin.j0] at h, fun _ _ _ _ _ _ _ _ _ _ _ _ _ r h => by simp [impl_AddJoin.l0] at h, fun _ _ _ _ _ _ _ _ _ _ _ _ _ _ r h => by simp [impl_AddJoin.j2] at h, fun _ _ _ _ _ _ _ _ _ _ _ _ _ r h => by simp [impl_AddJoin.l1] at h⟩
  | k + 1 => by
    obtain ⟨ih0, ih1, ih2, ih3⟩ := impl_AddJoin.mono_l k
    refine ⟨?_, ?_, ?_, ?_⟩
    · intro y0 y1 y2 y3 y4 y5 y6 y7 y8 y9 y10 y11 y12 y13
      unfold impl_AddJoin.j0
      repeat' first
      | (with_reducible exact ih0 _ _ _ _ _ _ _ _ _ _ _ _ _ _)
      | (with_reducible exact ih1 _ _ _ _ _ _ _ _ _ _ _ _ _)
      | (with_reducible exact ih2 _ _ _ _ _ _ _ _ _ _ _ _ _ _)
      | (with_reducible exact ih3 _ _ _ _ _ _ _ _ _ _ _ _ _)
      | (with_reducible exact impl_JoinOk.mono _ _ _ _)
      | (with_reducible exact LeO.refl _)
      | (with_reducible exact LeO.none _)
      | (with_reducible refine LeO.ite ?_ ?_)
      | (with_reducible refine LeO.bind ?_ (fun _ => ?_))
      | exact ih0 _ _ _ _ _ _ _ _ _ _ _ _ _ _
      | exact ih1 _ _ _ _ _ _ _ _ _ _ _ _ _
      | exact ih2 _ _ _ _ _ _ _ _ _ _ _ _ _ _
      | exact ih3 _ _ _ _ _ _ _ _ _ _ _ _ _
      | exact impl_JoinOk.mono _ _ _ _
      | exact LeO.none _
      | refine LeO.ite ?_ ?_
      | refine LeO.bind ?_ (fun _ => ?_)
    · intro y0 y1 y2 y3 y4 y5 y6 y7 y8 y9 y10 y11 y12
      unfold impl_AddJoin.l0
      repeat' first
      | (with_reducible exact ih0 _ _ _ _ _ _ _ _ _ _ _ _ _ _)
      | (with_reducible exact ih1 _ _ _ _ _ _ _ _ _ _ _ _ _)
      | (with_reducible exact ih2 _ _ _ _ _ _ _ _ _ _ _ _ _ _)
      | (with_reducible exact ih3 _ _ _ _ _ _ _ _ _ _ _ _ _)
      | (with_reducible exact impl_JoinOk.mono _ _ _ _)
      | (with_reducible exact LeO.refl _)
      | (with_reducible exact LeO.none _)
      | (with_reducible refine LeO.ite ?_ ?_)
      | (with_reducible refine LeO.bind ?_ (fun _ => ?_))
      | exact ih0 _ _ _ _ _ _ _ _ _ _ _ _ _ _
      | exact ih1 _ _ _ _ _ _ _ _ _ _ _ _ _
      | exact ih2 _ _ _ _ _ _ _ _ _ _ _ _ _ _
      | exact ih3 _ _ _ _ _ _ _ _ _ _ _ _ _
      | exact impl_JoinOk.mono _ _ _ _
      | exact LeO.none _
      | refine LeO.ite ?_ ?_
      | refine LeO.bind ?_ (fun _ => ?_)
    · intro y0 y1 y2 y3 y4 y5 y6 y7 y8 y9 y10 y11 y12 y13
      unfold impl_AddJoin.j2
      repeat' first
      | (with_reducible exact ih0 _ _ _ _ _ _ _ _ _ _ _ _ _ _)
      | (with_reducible exact ih1 _ _ _ _ _ _ _ _ _ _ _ _ _)
      | (with_reducible exact ih2 _ _ _ _ _ _ _ _ _ _ _ _ _ _)
      | (with_reducible exact ih3 _ _ _ _ _ _ _ _ _ _ _ _ _)
      | (with_reducible exact impl_JoinOk.mono _ _ _ _)
      | (with_reducible exact LeO.refl _)
      | (with_reducible exact LeO.none _)
      | (with_reducible refine LeO.ite ?_ ?_)
      | (with_reducible refine LeO.bind ?_ (fun _ => ?_))
      | exact ih0 _ _ _ _ _ _ _ _ _ _ _ _ _ _
      | exact ih1 _ _ _ _ _ _ _ _ _ _ _ _ _
      | exact ih2 _ _ _ _ _ _ _ _ _ _ _ _ _ _
      | exact ih3 _ _ _ _ _ _ _ _ _ _ _ _ _
      | exact impl_JoinOk.mono _ _ _ _
      | exact LeO.none _
      | refine LeO.ite ?_ ?_
      | refine LeO.bind ?_ (fun _ => ?_)
    · intro y0 y1 y2 y3 y4 y5 y6 y7 y8 y9 y10 y11 y12
      unfold impl_AddJoin.l1
      repeat' first
      | (with_reducible exact ih0 _ _ _ _ _ _ _ _ _ _ _ _ _ _)
      | (with_reducible exact ih1 _ _ _ _ _ _ _ _ _ _ _ _ _)
      | (with_reducible exact ih2 _ _ _ _ _ _ _ _ _ _ _ _ _ _)
      | (with_reducible exact ih3 _ _ _ _ _ _ _ _ _ _ _ _ _)
      | (with_reducible exact impl_JoinOk.mono _ _ _ _)
      | (with_reducible exact LeO.refl _)
      | (with_reducible exact LeO.none _)
      | (with_reducible refine LeO.ite ?_ ?_)
      | (with_reducible refine LeO.bind ?_ (fun _ => ?_))
      | exact ih0 _ _ _ _ _ _ _ _ _ _ _ _ _ _
      | exact ih1 _ _ _ _ _ _ _ _ _ _ _ _ _
      | exact ih2 _ _ _ _ _ _ _ _ _ _ _ _ _ _
      | exact ih3 _ _ _ _ _ _ _ _ _ _ _ _ _
      | exact impl_JoinOk.mono _ _ _ _
      | exact LeO.none _
      | refine LeO.ite ?_ ?_
      | refine LeO.bind ?_ (fun _ => ?_)
theorem impl_AddJoin.mono : ∀ a0 a1 a2 a3 a4 a5 a6 a7 a8 k, LeO (impl_AddJoin.f k a0 a1 a2 a3 a4 a5 a6 a7 a8) (impl_AddJoin.f (k + 1) a0 a1 a2 a3 a4 a5 a6 a7 a8) := by
  intro a0 a1 a2 a3 a4 a5 a6 a7 a8 k
  obtain ⟨ih0, ih1, ih2, ih3⟩ := impl_AddJoin.mono_l k
  unfold impl_AddJoin.f
  repeat' first
      | (with_reducible exact ih0 _ _ _ _ _ _ _ _ _ _ _ _ _ _)
      | (with_reducible exact ih1 _ _ _ _ _ _ _ _ _ _ _ _ _)
      | (with_reducible exact ih2 _ _ _ _ _ _ _ _ _ _ _ _ _ _)
      | (with_reducible exact ih3 _ _ _ _ _ _ _ _ _ _ _ _ _)
      | (with_reducible exact impl_JoinOk.mono _ _ _ _)
      | (with_reducible exact LeO.refl _)
      | (with_reducible exact LeO.none _)
      | (with_reducible refine LeO.ite ?_ ?_)
      | (with_reducible refine LeO.bind ?_ (fun _ => ?_))
      | exact ih0 _ _ _ _ _ _ _ _ _ _ _ _ _ _
      | exact ih1 _ _ _ _ _ _ _ _ _ _ _ _ _
      | exact ih2 _ _ _ _ _ _ _ _ _ _ _ _ _ _
      | exact ih3 _ _ _ _ _ _ _ _ _ _ _ _ _
      | exact impl_JoinOk.mono _ _ _ _
      | exact LeO.none _
      | refine LeO.ite ?_ ?_
      | refine LeO.bind ?_ (fun _ => ?_)
def impl_AddJoin.T11 : Bool × List (List Nat × List Nat) := (true, [([], []), ([], []), ([1], [1]), ([2], [2]), ([], []), ([4], [4]), ([3, 5], [3, 5]), ([0, 0, 1, 2, 3, 4, 5, 6], [0]), ([7, 6, 6, 0, 1, 2, 3, 4, 5, 6], [6, 7])])
def impl_AddJoin.B11 : List Nat := [0, 0, 2, 6, 0, 16, 62, 127, 255]
theorem impl_AddJoin.tab11 : rtab .any (opsOf Try.f12 11) = impl_AddJoin.T11 := by kernel_rfl
theorem impl_AddJoin.bits11 : waitsOk impl_AddJoin.T11.2 impl_AddJoin.B11 = true := by kernel_rfl
set_option maxHeartbeats 8000000 in
set_option maxRecDepth 100000 in
theorem impl_AddJoin.calls (k : Nat) (A0_0 : Option Addr) (c0_0 : Nat) (l0_0 : List (S35)) (A0_1 : Option Addr) (c0_1 : Nat) (l0_1 : List (S35)) (a0_2 : Int) (a1 : Int) (a2 : Bool) (a3_0 : Int) (a3_1 : Int) (a3_2 : Int) (a3_3 : Int) (r1 : List (S35)) (r2 : List (S35)) (r3 : Int) (r4 : List (S75)) (r5 : Int) (w : World) (hr0_0 : Kd.C k35 w A0_0 l0_0.length l0_0) (hc0_0 : l0_0.length ≤ c0_0) (hr0_1 : Kd.C k35 w A0_1 l0_1.length l0_1) (hc0_1 : l0_1.length ≤ c0_1) (h : impl_AddJoin.f k l0_0 l0_1 a0_2 a1 a2 a3_0 a3_1 a3_2 a3_3 = some (r1, r2, r3, r4, r5)) :
    Calls Try.prog 12 #[.agg #[.slice A0_0 l0_0.length c0_0, .slice A0_1 l0_1.length c0_1, .int .i64 a0_2], .int .i64 a1, .bool a2, .agg #[.int .i64 a3_0, .int .i64 a3_1, .int .i64 a3_2, .int .i64 a3_3]] w fun e w' => ∃ v0_ v1_ v3_ : Value, e = .returned (.tuple #[.agg #[v0_, v1_, .int .i64 r3], v3_, .int .i64 r5]) ∧ Kd.R k35 35 w' w.heap.size (fun k_ => nb k_ v1_) v0_ r1 ∧ Kd.R k35 35 w' w.heap.size (fun k_ => nb k_ v0_) v1_ r2 ∧ Kd.R k75 75 w' w.heap.size (fun _ => True) v3_ r4 ∧ Below w.heap.size w w' := by
  have hu30 := Try.underlying30
  have hu35 := Try.underlying35
  have HR0_0 := Aside0.mk hr0_0
  have HC0_0 := Aside0.mk hc0_0
  clear hr0_0 hc0_0
  have HR0_1 := Aside0.mk hr0_1
  have HC0_1 := Aside0.mk hc0_1
  clear hr0_1 hc0_1
  have HB := am (Below.refl w.heap.size w)
  have H : ((impl_ownJoin.f l0_0 l0_1 a0_2).bind fun bt245 => (if a2 = true then ((impl_JoinOk.f k l0_0 l0_1 a0_2).bind fun t253 => (if t253 = true then ((impl_isEvent.f a3_0 a3_1 a3_2 a3_3).bind fun t254 => (if t254 = true then ((impl_isTime.f a1).bind fun t255 => (impl_AddJoin.j0 k a1 a2 l0_1 (!t255) l0_0 l0_1 a0_2 a3_0 a3_1 a3_2 a3_3 bt245.1 bt245.2.1 bt245.2.2)) else (impl_AddJoin.j0 k a1 a2 l0_1 true l0_0 l0_1 a0_2 a3_0 a3_1 a3_2 a3_3 bt245.1 bt245.2.1 bt245.2.2))) else (impl_AddJoin.j0 k a1 a2 l0_1 true l0_0 l0_1 a0_2 a3_0 a3_1 a3_2 a3_3 bt245.1 bt245.2.1 bt245.2.2))) else ((impl_JoinOk.f k l0_0 l0_1 a0_2).bind fun t281 => (if t281 = true then ((impl_isEvent.f a3_0 a3_1 a3_2 a3_3).bind fun t282 => (if t282 = true then ((impl_isTime.f a1).bind fun t283 => (impl_AddJoin.j2 k a1 a2 l0_0 (!t283) l0_0 l0_1 a0_2 a3_0 a3_1 a3_2 a3_3 bt245.1 bt245.2.1 bt245.2.2)) else (impl_AddJoin.j2 k a1 a2 l0_0 true l0_0 l0_1 a0_2 a3_0 a3_1 a3_2 a3_3 bt245.1 bt245.2.1 bt245.2.2))) else (impl_AddJoin.j2 k a1 a2 l0_0 true l0_0 l0_1 a0_2 a3_0 a3_1 a3_2 a3_3 bt245.1 bt245.2.1 bt245.2.2))))) = some (r1, r2, r3, r4, r5) := h
  clear h
  replace H := Option.bind_eq_some_iff.mp H
  obtain ⟨⟨t245, t248, t251⟩, A50, H⟩ := H
  (try dsimp only at H)
  have A5 := Aside0.mk A50
  clear A50
  by_cases c6 : a2 = true
  · subst c6
    have H1 : ((impl_JoinOk.f k l0_0 l0_1 a0_2).bind fun t253 => (if t253 = true then ((impl_isEvent.f a3_0 a3_1 a3_2 a3_3).bind fun t254 => (if t254 = true then ((impl_isTime.f a1).bind fun t255 => (impl_AddJoin.j0 k a1 true l0_1 (!t255) l0_0 l0_1 a0_2 a3_0 a3_1 a3_2 a3_3 t245 t248 t251)) else (impl_AddJoin.j0 k a1 true l0_1 true l0_0 l0_1 a0_2 a3_0 a3_1 a3_2 a3_3 t245 t248 t251))) else (impl_AddJoin.j0 k a1 true l0_1 true l0_0 l0_1 a0_2 a3_0 a3_1 a3_2 a3_3 t245 t248 t251))) = some (r1, r2, r3, r4, r5) := by rw [if_pos rfl] at H; exact H
    clear H
    have H := H1
    clear H1
    have HC7 := Aside0.mk H
    clear H
    go_enter Try.func12, Try.ntmps12
    try go_wp2_with (first | ((with_reducible refine gate_dst (N := 4) rfl ?_); refine box_event ?hg (N := 4) ?hd (cs := #[.slice A0_0 l0_0.length c0_0, .slice A0_1 l0_1.length c0_1, .int .i64 a0_2]) (t := 30) ?hr ?_; (case hd => rfl); (case hg => rfl); (case hr => first | (go_simp; done) | (go_simp; rfl)); intro gb242 hg w8 hbox hb; have BK242 := am (hbox); have GW242 := am ((by rw [hg]; exact (below_size bel) : w.heap.size ≤ gb242)); have GE242 := am ((by rw [hg]; exact (below_size bel) : w.heap.size ≤ gb242)); replace HB := am (below_step bel hb); clear hb hbox hg) | ((with_reducible refine gate_dst (N := 7) rfl ?_); refine box_event ?hg (N := 7) ?hd (cs := #[.int .i64 a3_0, .int .i64 a3_1, .int .i64 a3_2, .int .i64 a3_3]) (t := 35) ?hr ?_; (case hd => rfl); (case hg => rfl); (case hr => first | (go_simp; done) | (go_simp; rfl)); intro gb243 hg w9 hbox hb; have BK243 := am (hbox); have GW243 := am ((by rw [hg]; exact (below_size bel) : w.heap.size ≤ gb243)); have GE243 := am ((by rw [hg]; exact (below_size bel) : w.heap.size ≤ gb243)); replace HB := am (below_step bel hb); have NB242_243 := am ((by rw [hg]; exact Nat.ne_of_lt (blk_lt (blkq BK242.out)) : gb242 ≠ gb243)); have NB243_242 := am ((by rw [hg]; exact Nat.ne_of_gt (blk_lt (blkq BK242.out)) : gb243 ≠ gb242)); replace BK242 := am (blk_below (blkq BK242.out) hb); clear hb hbox hg) | ((with_reducible refine gate_dst (N := 8) rfl ?_); refine box_event ?hg (N := 8) ?hd (cs := #[.slice none 0 0, .slice none 0 0, .int .i64 0]) (t := 30) ?hr ?_; (case hd => rfl); (case hg => rfl); (case hr => first | (go_simp; done) | (go_simp; rfl)); intro gb244 hg w10 hbox hb; have BK244 := am (hbox); have GW244 := am ((by rw [hg]; exact (below_size bel) : w.heap.size ≤ gb244)); have GE244 := am ((by rw [hg]; exact (below_size bel) : w.heap.size ≤ gb244)); replace HB := am (below_step bel hb); have NB242_244 := am ((by rw [hg]; exact Nat.ne_of_lt (blk_lt (blkq BK242.out)) : gb242 ≠ gb244)); have NB244_242 := am ((by rw [hg]; exact Nat.ne_of_gt (blk_lt (blkq BK242.out)) : gb244 ≠ gb242)); replace BK242 := am (blk_below (blkq BK242.out) hb); have NB243_244 := am ((by rw [hg]; exact Nat.ne_of_lt (blk_lt (blkq BK243.out)) : gb243 ≠ gb244)); have NB244_243 := am ((by rw [hg]; exact Nat.ne_of_gt (blk_lt (blkq BK243.out)) : gb244 ≠ gb243)); replace BK243 := am (blk_below (blkq BK243.out) hb); clear hb hbox hg; have hnb11 := NB242_243.out; have hnc11 := NB243_242.out; have hnb12 := NB242_244.out; have hnc12 := NB244_242.out; obtain ⟨hcz13_0, hcz13_1, hcz13_2, hfz13_0, hfz13_1, hfz13_2⟩ := blkc3 BK242.out) | ((with_reducible refine gate_callee (f := 49) rfl ?_); refine goesL1 18 Try.func49 #[.agg #[.slice A0_0 l0_0.length c0_0, .slice A0_1 l0_1.length c0_1, .int .i64 a0_2]] ?_; (with_reducible refine (impl_ownJoin.calls _ _ l0_0 _ _ l0_1 a0_2 t245 t248 t251 _ ?side1 ?side2 ?side3 ?side4 A5.out).mono ?_); (case side1 => repeat (first | exact (Kd.C_below HR0_0.out HB.out) | (with_reducible refine Kd.C_alloc ?_ _) | (with_reducible refine Kd.C_drewN ?_ _) | (with_reducible refine Kd.C_drew ?_))); (case side2 => exact HC0_0.out); (case side3 => repeat (first | exact (Kd.C_below HR0_1.out HB.out) | (with_reducible refine Kd.C_alloc ?_ _) | (with_reducible refine Kd.C_drewN ?_ _) | (with_reducible refine Kd.C_drew ?_))); (case side4 => exact HC0_1.out); rintro e w14 ⟨v246, v249, rfl, ho0, ho1, hb⟩; refine ⟨_, rfl, ?_⟩; have HO247 := am (Kd.R_lower (Kd.R_newB ho0 (blkq BK243.out)) (below_size bel)); have HO250 := am (Kd.R_lower (Kd.R_newB ho1 (blkq BK243.out)) (below_size bel)); replace BK242 := am (blk_below (blkq BK242.out) hb); replace BK243 := am (blk_below (blkq BK243.out) hb); replace BK244 := am (blk_below (blkq BK244.out) hb); replace HB := am (below_step bel hb); (try clear hb); (try clear ho0); (try clear ho1)) | ((with_reducible refine gate_dst (N := 11) rfl ?_); refine box_event ?hg (N := 11) ?hd (cs := #[.slice none 0 0, .slice none 0 0, .int .i64 0]) (t := 30) ?hr ?_; (case hd => rfl); (case hg => rfl); (case hr => first | (go_simp; done) | (go_simp; rfl)); intro gb252 hg w15 hbox hb; replace HO247 := am (Kd.R_below (rq HO247.out) hb); replace HO250 := am (Kd.R_below (rq HO250.out) hb); have BK252 := am (hbox); have GW252 := am ((by rw [hg]; exact (below_size bel) : w.heap.size ≤ gb252)); have GE252 := am ((by rw [hg]; exact (below_size bel) : w.heap.size ≤ gb252)); replace HB := am (below_step bel hb); have NB242_252 := am ((by rw [hg]; exact Nat.ne_of_lt (blk_lt (blkq BK242.out)) : gb242 ≠ gb252)); have NB252_242 := am ((by rw [hg]; exact Nat.ne_of_gt (blk_lt (blkq BK242.out)) : gb252 ≠ gb242)); replace BK242 := am (blk_below (blkq BK242.out) hb); have NB243_252 := am ((by rw [hg]; exact Nat.ne_of_lt (blk_lt (blkq BK243.out)) : gb243 ≠ gb252)); have NB252_243 := am ((by rw [hg]; exact Nat.ne_of_gt (blk_lt (blkq BK243.out)) : gb252 ≠ gb243)); replace BK243 := am (blk_below (blkq BK243.out) hb); have NB244_252 := am ((by rw [hg]; exact Nat.ne_of_lt (blk_lt (blkq BK244.out)) : gb244 ≠ gb252)); have NB252_244 := am ((by rw [hg]; exact Nat.ne_of_gt (blk_lt (blkq BK244.out)) : gb252 ≠ gb244)); replace BK244 := am (blk_below (blkq BK244.out) hb); clear hb hbox hg; obtain ⟨Ao16, co16, eo16⟩ := Kd.R_slice HO247.out; subst eo16; have hnb17 := NB252_242.out; have hnc17 := NB242_252.out; have hnb18 := NB252_243.out; have hnc18 := NB243_252.out; have hnb19 := NB252_244.out; have hnc19 := NB244_252.out; obtain ⟨hcz20_0, hcz20_1, hcz20_2, hfz20_0, hfz20_1, hfz20_2⟩ := blkc3 BK252.out; obtain ⟨Ao21, co21, eo21⟩ := Kd.R_slice HO250.out; subst eo21))
    have n0_ : Aside0 (Kd.R k35 35 (((w15.setCell ⟨gb252, 0, none⟩ (.slice Ao16 t245.length co16)).setCell ⟨gb252, 1, none⟩ (.slice Ao21 t248.length co21)).setCell ⟨gb252, 2, none⟩ (.int .i64 t251)) w.heap.size (fun k_ => nb k_ (sv Ao21 t248 co21) ∧ k_ ≠ gb243) (.slice Ao16 t245.length co16) t245) := ⟨by (with_reducible repeat (first | apply Kd.R_alloc | apply Kd.R_drewN | apply Kd.R_drew)); exact Kd.R_mono (Kd.R_far (p := ⟨gb252, 2, none⟩) (Kd.R_far (p := ⟨gb252, 1, none⟩) (Kd.R_far (p := ⟨gb252, 0, none⟩) (Kd.R_types HO247.out BK252.out (by decide)) (fun _ hk => hk.2) (.slice Ao16 t245.length co16)) (fun _ hk => hk.2) (.slice Ao21 t248.length co21)) (fun _ hk => hk.2) (.int .i64 t251)) (fun _ hk => ⟨hk.1.1, hk.1.2⟩)⟩
    have n1_ : Aside0 (Kd.R k35 35 (((w15.setCell ⟨gb252, 0, none⟩ (.slice Ao16 t245.length co16)).setCell ⟨gb252, 1, none⟩ (.slice Ao21 t248.length co21)).setCell ⟨gb252, 2, none⟩ (.int .i64 t251)) w.heap.size (fun k_ => nb k_ (sv Ao16 t245 co16) ∧ k_ ≠ gb243) (.slice Ao21 t248.length co21) t248) := ⟨by (with_reducible repeat (first | apply Kd.R_alloc | apply Kd.R_drewN | apply Kd.R_drew)); exact Kd.R_mono (Kd.R_far (p := ⟨gb252, 2, none⟩) (Kd.R_far (p := ⟨gb252, 1, none⟩) (Kd.R_far (p := ⟨gb252, 0, none⟩) (Kd.R_types HO250.out BK252.out (by decide)) (fun _ hk => hk.2) (.slice Ao16 t245.length co16)) (fun _ hk => hk.2) (.slice Ao21 t248.length co21)) (fun _ hk => hk.2) (.int .i64 t251)) (fun _ hk => ⟨hk.1.1, hk.1.2⟩)⟩
    have n2_ : Aside0 ((((w15.setCell ⟨gb252, 0, none⟩ (.slice Ao16 t245.length co16)).setCell ⟨gb252, 1, none⟩ (.slice Ao21 t248.length co21)).setCell ⟨gb252, 2, none⟩ (.int .i64 t251)).heap[gb242]? = some (.cells #[.slice A0_0 l0_0.length c0_0, .slice A0_1 l0_1.length c0_1, .int .i64 a0_2] 30 (0, 0))) := ⟨by (with_reducible repeat (first | refine blk_drewN ?_ _ | refine blk_drew ?_ | refine blk_alloc ?_ _)); refine blk_far ?_ NB242_252.out _; (with_reducible repeat (first | refine blk_drewN ?_ _ | refine blk_drew ?_ | refine blk_alloc ?_ _)); refine blk_far ?_ NB242_252.out _; (with_reducible repeat (first | refine blk_drewN ?_ _ | refine blk_drew ?_ | refine blk_alloc ?_ _)); refine blk_far ?_ NB242_252.out _; (with_reducible repeat (first | refine blk_drewN ?_ _ | refine blk_drew ?_ | refine blk_alloc ?_ _)); exact BK242.out⟩
    have n3_ : Aside0 ((((w15.setCell ⟨gb252, 0, none⟩ (.slice Ao16 t245.length co16)).setCell ⟨gb252, 1, none⟩ (.slice Ao21 t248.length co21)).setCell ⟨gb252, 2, none⟩ (.int .i64 t251)).heap[gb243]? = some (.cells #[.int .i64 a3_0, .int .i64 a3_1, .int .i64 a3_2, .int .i64 a3_3] 35 (0, 0))) := ⟨by (with_reducible repeat (first | refine blk_drewN ?_ _ | refine blk_drew ?_ | refine blk_alloc ?_ _)); refine blk_far ?_ NB243_252.out _; (with_reducible repeat (first | refine blk_drewN ?_ _ | refine blk_drew ?_ | refine blk_alloc ?_ _)); refine blk_far ?_ NB243_252.out _; (with_reducible repeat (first | refine blk_drewN ?_ _ | refine blk_drew ?_ | refine blk_alloc ?_ _)); refine blk_far ?_ NB243_252.out _; (with_reducible repeat (first | refine blk_drewN ?_ _ | refine blk_drew ?_ | refine blk_alloc ?_ _)); exact BK243.out⟩
    have n4_ : Aside0 ((((w15.setCell ⟨gb252, 0, none⟩ (.slice Ao16 t245.length co16)).setCell ⟨gb252, 1, none⟩ (.slice Ao21 t248.length co21)).setCell ⟨gb252, 2, none⟩ (.int .i64 t251)).heap[gb244]? = some (.cells #[.slice none 0 0, .slice none 0 0, .int .i64 0] 30 (0, 0))) := ⟨by (with_reducible repeat (first | refine blk_drewN ?_ _ | refine blk_drew ?_ | refine blk_alloc ?_ _)); refine blk_far ?_ NB244_252.out _; (with_reducible repeat (first | refine blk_drewN ?_ _ | refine blk_drew ?_ | refine blk_alloc ?_ _)); refine blk_far ?_ NB244_252.out _; (with_reducible repeat (first | refine blk_drewN ?_ _ | refine blk_drew ?_ | refine blk_alloc ?_ _)); refine blk_far ?_ NB244_252.out _; (with_reducible repeat (first | refine blk_drewN ?_ _ | refine blk_drew ?_ | refine blk_alloc ?_ _)); exact BK244.out⟩
    have n5_ : Aside0 ((((w15.setCell ⟨gb252, 0, none⟩ (.slice Ao16 t245.length co16)).setCell ⟨gb252, 1, none⟩ (.slice Ao21 t248.length co21)).setCell ⟨gb252, 2, none⟩ (.int .i64 t251)).heap[gb252]? = some (.cells #[.slice Ao16 t245.length co16, .slice Ao21 t248.length co21, .int .i64 t251] 30 (0, 0))) := ⟨by (with_reducible repeat (first | refine blk_drewN ?_ _ | refine blk_drew ?_ | refine blk_alloc ?_ _)); refine blk_put (cs := #[.slice Ao16 t245.length co16, .slice Ao21 t248.length co21, .int .i64 0]) ?_ 2 _ rfl; (with_reducible repeat (first | refine blk_drewN ?_ _ | refine blk_drew ?_ | refine blk_alloc ?_ _)); refine blk_put (cs := #[.slice Ao16 t245.length co16, .slice none 0 0, .int .i64 0]) ?_ 1 _ rfl; (with_reducible repeat (first | refine blk_drewN ?_ _ | refine blk_drew ?_ | refine blk_alloc ?_ _)); refine blk_put (cs := #[.slice none 0 0, .slice none 0 0, .int .i64 0]) ?_ 0 _ rfl; (with_reducible repeat (first | refine blk_drewN ?_ _ | refine blk_drew ?_ | refine blk_alloc ?_ _)); exact BK252.out⟩
    have n6_ : Aside0 (Below w.heap.size w (((w15.setCell ⟨gb252, 0, none⟩ (.slice Ao16 t245.length co16)).setCell ⟨gb252, 1, none⟩ (.slice Ao21 t248.length co21)).setCell ⟨gb252, 2, none⟩ (.int .i64 t251))) := ⟨by repeat (first | (with_reducible first | exact HB.out | apply below_alloc | apply pw_below_drewN | apply below_drew1 | refine below_set ?_ GE242.out | refine below_set ?_ GE243.out | refine below_set ?_ GE244.out | refine below_set ?_ GE252.out) | exact HB.out)⟩
    (try clear HO247)
    (try clear HO250)
    (try clear BK242)
    (try clear BK243)
    (try clear BK244)
    (try clear BK252)
    (try clear HB)
    generalize (((w15.setCell ⟨gb252, 0, none⟩ (.slice Ao16 t245.length co16)).setCell ⟨gb252, 1, none⟩ (.slice Ao21 t248.length co21)).setCell ⟨gb252, 2, none⟩ (.int .i64 t251)) = w22 at n0_ n1_ n2_ n3_ n4_ n5_ n6_ ⊢
    have HO247 := n0_
    have HO250 := n1_
    have BK242 := n2_
    have BK243 := n3_
    have BK244 := n4_
    have BK252 := n5_
    have HB := n6_
    clear n0_ n1_ n2_ n3_ n4_ n5_ n6_
    replace HO247 := am (Kd.R_drew HO247.out)
    replace HO250 := am (Kd.R_drew HO250.out)
    replace BK242 := am (blk_drew BK242.out)
    replace BK243 := am (blk_drew BK243.out)
    replace BK244 := am (blk_drew BK244.out)
    replace BK252 := am (blk_drew BK252.out)
    replace HB := am (below_drew1 HB.out)
    refine start_ (n := 5) (S := fun w' => w'.cell? ⟨gb242, 0, none⟩ = some (.slice A0_0 l0_0.length c0_0) ∧ w'.cell? ⟨gb242, 1, none⟩ = some (.slice A0_1 l0_1.length c0_1) ∧ w'.cell? ⟨gb242, 2, none⟩ = some (.int .i64 a0_2)) (ds := []) #[false, false, false, false, false] (by kernel_rfl) rfl rfl ⟨(blk_cell BK242.out 0).trans rfl, (blk_cell BK242.out 1).trans rfl, (blk_cell BK242.out 2).trans rfl⟩ (fun hHeld => ?_)
    generalize w22.drew = w23 at HO247 HO250 BK242 BK243 BK244 BK252 HB hHeld ⊢
    refine pure_ (i := 0) (N := some 19) (v := ?_) (a' := ?_) #[true, false, false, false, false] rfl rfl (by kernel_rfl) (fun _ _ _ h => h) (Or.inl ⟨by rfl, ?_⟩) ?_ ?_
    rotate_left
    · intro w'
      go_simp
      with_reducible rfl
    rotate_left
    · simp only [Act.put, List.setIfInBounds_toArray, List.set_cons_zero, List.set_cons_succ, i64_w, i32_w]
      rfl
    refine pure_ (i := 1) (N := some 20) (v := ?_) (a' := ?_) #[true, true, false, false, false] rfl rfl (by kernel_rfl) (fun _ _ _ h => h) (Or.inl ⟨by rfl, ?_⟩) ?_ ?_
    rotate_left
    · intro w'
      go_simp
      with_reducible rfl
    rotate_left
    · simp only [Act.put, List.setIfInBounds_toArray, List.set_cons_zero, List.set_cons_succ, i64_w, i32_w]
      rfl
    refine pure_ (i := 3) (N := some 12) (v := ?_) (a' := ?_) #[true, true, false, true, false] rfl rfl (by kernel_rfl) (fun _ _ _ h => h) (Or.inl ⟨by rfl, ?_⟩) ?_ ?_
    rotate_left
    · intro w'
      go_simp
      with_reducible rfl
    rotate_left
    · simp only [Act.put, List.setIfInBounds_toArray, List.set_cons_zero, List.set_cons_succ, i64_w, i32_w]
      rfl
    refine take_ (i := 2) (N := some 21) (v := ?_) (a' := ?_) #[true, true, true, true, false] rfl rfl (by kernel_rfl) (fun _ _ _ h => h) (Or.inl ⟨by rfl, ?_⟩) hHeld ?_ ?_
    rotate_left
    · rintro w' ⟨s0, s1, s2⟩
      go_simp
      with_reducible rfl
    rotate_left
    · simp only [Act.put, List.setIfInBounds_toArray, List.set_cons_zero, List.set_cons_succ, i64_w, i32_w]
      rfl
    refine pure_ (i := 4) (N := some 13) (v := ?_) (a' := ?_) #[true, true, true, true, true] rfl rfl (by kernel_rfl) (fun _ _ _ h => h) (Or.inl ⟨by rfl, ?_⟩) ?_ ?_
    rotate_left
    · intro w'
      go_simp
      with_reducible rfl
    rotate_left
    · simp only [Act.put, List.setIfInBounds_toArray, List.set_cons_zero, List.set_cons_succ, i64_w, i32_w]
      rfl
    refine done_ (by kernel_rfl) ?_
    try go_wp2
    replace HO247 := am (Kd.R_drew HO247.out)
    replace HO250 := am (Kd.R_drew HO250.out)
    replace BK242 := am (blk_drew BK242.out)
    replace BK243 := am (blk_drew BK243.out)
    replace BK244 := am (blk_drew BK244.out)
    replace BK252 := am (blk_drew BK252.out)
    replace HB := am (below_drew1 HB.out)
    refine start_ (n := 5) (S := fun w' => w'.cell? ⟨gb242, 0, none⟩ = some (.slice A0_0 l0_0.length c0_0) ∧ w'.cell? ⟨gb242, 1, none⟩ = some (.slice A0_1 l0_1.length c0_1) ∧ w'.cell? ⟨gb242, 2, none⟩ = some (.int .i64 a0_2)) (ds := []) #[false, false, false, false, false] (by kernel_rfl) rfl rfl ⟨(blk_cell BK242.out 0).trans rfl, (blk_cell BK242.out 1).trans rfl, (blk_cell BK242.out 2).trans rfl⟩ (fun hHeld => ?_)
    generalize w23.drew = w24 at HO247 HO250 BK242 BK243 BK244 BK252 HB hHeld ⊢
    refine pure_ (i := 0) (N := some 23) (v := ?_) (a' := ?_) #[true, false, false, false, false] rfl rfl (by kernel_rfl) (fun _ _ _ h => h) (Or.inl ⟨by rfl, ?_⟩) ?_ ?_
    rotate_left
    · intro w'
      go_simp
      with_reducible rfl
    rotate_left
    · simp only [Act.put, List.setIfInBounds_toArray, List.set_cons_zero, List.set_cons_succ, i64_w, i32_w]
      rfl
    refine pure_ (i := 1) (N := some 24) (v := ?_) (a' := ?_) #[true, true, false, false, false] rfl rfl (by kernel_rfl) (fun _ _ _ h => h) (Or.inl ⟨by rfl, ?_⟩) ?_ ?_
    rotate_left
    · intro w'
      go_simp
      with_reducible rfl
    rotate_left
    · simp only [Act.put, List.setIfInBounds_toArray, List.set_cons_zero, List.set_cons_succ, i64_w, i32_w]
      rfl
    refine pure_ (i := 3) (N := some 12) (v := ?_) (a' := ?_) #[true, true, false, true, false] rfl rfl (by kernel_rfl) (fun _ _ _ h => h) (Or.inl ⟨by rfl, ?_⟩) ?_ ?_
    rotate_left
    · intro w'
      go_simp
      with_reducible rfl
    rotate_left
    · simp only [Act.put, List.setIfInBounds_toArray, List.set_cons_zero, List.set_cons_succ, i64_w, i32_w]
      rfl
    refine take_ (i := 2) (N := some 25) (v := ?_) (a' := ?_) #[true, true, true, true, false] rfl rfl (by kernel_rfl) (fun _ _ _ h => h) (Or.inl ⟨by rfl, ?_⟩) hHeld ?_ ?_
    rotate_left
    · rintro w' ⟨s0, s1, s2⟩
      go_simp
      with_reducible rfl
    rotate_left
    · simp only [Act.put, List.setIfInBounds_toArray, List.set_cons_zero, List.set_cons_succ, i64_w, i32_w]
      rfl
    refine pure_ (i := 4) (N := some 13) (v := ?_) (a' := ?_) #[true, true, true, true, true] rfl rfl (by kernel_rfl) (fun _ _ _ h => h) (Or.inl ⟨by rfl, ?_⟩) ?_ ?_
    rotate_left
    · intro w'
      go_simp
      with_reducible rfl
    rotate_left
    · simp only [Act.put, List.setIfInBounds_toArray, List.set_cons_zero, List.set_cons_succ, i64_w, i32_w]
      rfl
    refine done_ (by kernel_rfl) ?_
    go_upto_region 5 with (fail)
    go_cut [26] (fun v26 wc => ∃ (kq : Nat) (x26_6 : Bool), v26 = .bool x26_6 ∧ Aside0 (impl_AddJoin.j0 kq a1 true l0_1 x26_6 l0_0 l0_1 a0_2 a3_0 a3_1 a3_2 a3_3 t245 t248 t251 = some (r1, r2, r3, r4, r5)) ∧ Aside0 (kq ≤ k) ∧ Aside0 (Kd.R k35 35 wc w.heap.size (fun k_ => some k_ ≠ ((.slice Ao21 t248.length co21) : Value).ownBlock ∧ k_ ≠ gb243) (.slice Ao16 t245.length co16) t245) ∧ Aside0 (Kd.R k35 35 wc w.heap.size (fun k_ => some k_ ≠ ((.slice Ao16 t245.length co16) : Value).ownBlock ∧ k_ ≠ gb243) (.slice Ao21 t248.length co21) t248) ∧ Aside0 (wc.heap[gb242]? = some (.cells #[(.slice A0_0 l0_0.length c0_0), (.slice A0_1 l0_1.length c0_1), .int .i64 a0_2] 30 (0, 0))) ∧ Aside0 (wc.heap[gb243]? = some (.cells #[.int .i64 a3_0, .int .i64 a3_1, .int .i64 a3_2, .int .i64 a3_3] 35 (0, 0))) ∧ Aside0 (wc.heap[gb244]? = some (.cells #[(.slice none 0 0), (.slice none 0 0), .int .i64 0] 30 (0, 0))) ∧ Aside0 (wc.heap[gb252]? = some (.cells #[(.slice Ao16 t245.length co16), (.slice Ao21 t248.length co21), .int .i64 t251] 30 (0, 0))) ∧ Aside0 (Below w.heap.size w wc))
    case first =>
      have H := HC7.out
      clear HC7
      replace H := Option.bind_eq_some_iff.mp H
      obtain ⟨t253, A250, H⟩ := H
      (try dsimp only at H)
      have A25 := Aside0.mk A250
      clear A250
      by_cases c26 : t253 = true
      rotate_left
      · replace c26 := Bool.eq_false_iff.mpr c26
        subst c26
        have H1 : (impl_AddJoin.j0 k a1 true l0_1 true l0_0 l0_1 a0_2 a3_0 a3_1 a3_2 a3_3 t245 t248 t251) = some (r1, r2, r3, r4, r5) := by rw [if_neg (show ¬ (false = true) by decide)] at H; exact H
        clear H
        have H := H1
        clear H1
        have H' := Aside0.mk H
        clear H
        have hnb48 := NB242_243.out
        have hnc48 := NB243_242.out
        have hnb49 := NB242_244.out
        have hnc49 := NB244_242.out
        have hnb50 := NB242_252.out
        have hnc50 := NB252_242.out
        have hcz51_0 : w24.cell? ⟨gb242, 0, none⟩ = some (.slice A0_0 l0_0.length c0_0) := (blk_cell BK242.out 0).trans rfl
        have hcz51_1 : w24.cell? ⟨gb242, 1, none⟩ = some (.slice A0_1 l0_1.length c0_1) := (blk_cell BK242.out 1).trans rfl
        have hcz51_2 : w24.cell? ⟨gb242, 2, none⟩ = some (.int .i64 a0_2) := (blk_cell BK242.out 2).trans rfl
        have hfz51_0 := blk_frozen BK242.out 0
        have hfz51_1 := blk_frozen BK242.out 1
        have hfz51_2 := blk_frozen BK242.out 2
        go_wp2_with (first | ((with_reducible refine gate_callee (f := 50) rfl ?_); refine goesL1 28 Try.func50 #[.agg #[.slice A0_0 l0_0.length c0_0, .slice A0_1 l0_1.length c0_1, .int .i64 a0_2]] ?_; (with_reducible refine (impl_JoinOk.calls k _ _ l0_0 _ _ l0_1 a0_2 false _ ?side1 ?side2 ?side3 ?side4 A25.out).mono ?_); (case side1 => repeat (first | exact (Kd.C_below HR0_0.out HB.out) | (with_reducible refine Kd.C_alloc ?_ _) | (with_reducible refine Kd.C_drewN ?_ _) | (with_reducible refine Kd.C_drew ?_))); (case side2 => exact HC0_0.out); (case side3 => repeat (first | exact (Kd.C_below HR0_1.out HB.out) | (with_reducible refine Kd.C_alloc ?_ _) | (with_reducible refine Kd.C_drewN ?_ _) | (with_reducible refine Kd.C_drew ?_))); (case side4 => exact HC0_1.out); rintro e w52 ⟨rfl, hb⟩; refine ⟨_, rfl, ?_⟩; replace HO247 := am (Kd.R_below (rq HO247.out) hb); replace HO250 := am (Kd.R_below (rq HO250.out) hb); replace BK242 := am (blk_below (blkq BK242.out) hb); replace BK243 := am (blk_below (blkq BK243.out) hb); replace BK244 := am (blk_below (blkq BK244.out) hb); replace BK252 := am (blk_below (blkq BK252.out) hb); replace HB := am (below_step bel hb); (try clear hb)))
        go_meet
        case rel => exact ⟨_, (true), (by first | rfl | (simp; done) | (simp [*]; done)), H', ⟨by first | omega | exact Nat.le_refl _⟩, ⟨by (with_reducible repeat (first | apply Kd.R_alloc | apply Kd.R_drewN | apply Kd.R_drew)); exact HO247.out⟩, ⟨by (with_reducible repeat (first | apply Kd.R_alloc | apply Kd.R_drewN | apply Kd.R_drew)); exact HO250.out⟩, ⟨by (with_reducible repeat (first | refine blk_drewN ?_ _ | refine blk_drew ?_ | refine blk_alloc ?_ _)); exact BK242.out⟩, ⟨by (with_reducible repeat (first | refine blk_drewN ?_ _ | refine blk_drew ?_ | refine blk_alloc ?_ _)); exact BK243.out⟩, ⟨by (with_reducible repeat (first | refine blk_drewN ?_ _ | refine blk_drew ?_ | refine blk_alloc ?_ _)); exact BK244.out⟩, ⟨by (with_reducible repeat (first | refine blk_drewN ?_ _ | refine blk_drew ?_ | refine blk_alloc ?_ _)); exact BK252.out⟩, ⟨by repeat (first | (with_reducible first | exact HB.out | apply below_alloc | apply pw_below_drewN | apply below_drew1 | refine below_set ?_ GE242.out | refine below_set ?_ GE243.out | refine below_set ?_ GE244.out | refine below_set ?_ GE252.out) | exact HB.out)⟩⟩
      subst c26
      have H1 : ((impl_isEvent.f a3_0 a3_1 a3_2 a3_3).bind fun t254 => (if t254 = true then ((impl_isTime.f a1).bind fun t255 => (impl_AddJoin.j0 k a1 true l0_1 (!t255) l0_0 l0_1 a0_2 a3_0 a3_1 a3_2 a3_3 t245 t248 t251)) else (impl_AddJoin.j0 k a1 true l0_1 true l0_0 l0_1 a0_2 a3_0 a3_1 a3_2 a3_3 t245 t248 t251))) = some (r1, r2, r3, r4, r5) := by rw [if_pos rfl] at H; exact H
      clear H
      have H := H1
      clear H1
      replace H := Option.bind_eq_some_iff.mp H
      obtain ⟨t254, A270, H⟩ := H
      (try dsimp only at H)
      have A27 := Aside0.mk A270
      clear A270
      by_cases c28 : t254 = true
      rotate_left
      · replace c28 := Bool.eq_false_iff.mpr c28
        subst c28
        have H1 : (impl_AddJoin.j0 k a1 true l0_1 true l0_0 l0_1 a0_2 a3_0 a3_1 a3_2 a3_3 t245 t248 t251) = some (r1, r2, r3, r4, r5) := by rw [if_neg (show ¬ (false = true) by decide)] at H; exact H
        clear H
        have H := H1
        clear H1
        have H' := Aside0.mk H
        clear H
        have hnb39 := NB242_243.out
        have hnc39 := NB243_242.out
        have hnb40 := NB242_244.out
        have hnc40 := NB244_242.out
        have hnb41 := NB242_252.out
        have hnc41 := NB252_242.out
        have hcz42_0 : w24.cell? ⟨gb242, 0, none⟩ = some (.slice A0_0 l0_0.length c0_0) := (blk_cell BK242.out 0).trans rfl
        have hcz42_1 : w24.cell? ⟨gb242, 1, none⟩ = some (.slice A0_1 l0_1.length c0_1) := (blk_cell BK242.out 1).trans rfl
        have hcz42_2 : w24.cell? ⟨gb242, 2, none⟩ = some (.int .i64 a0_2) := (blk_cell BK242.out 2).trans rfl
        have hfz42_0 := blk_frozen BK242.out 0
        have hfz42_1 := blk_frozen BK242.out 1
        have hfz42_2 := blk_frozen BK242.out 2
        go_wp2_with (first | ((with_reducible refine gate_callee (f := 50) rfl ?_); refine goesL1 28 Try.func50 #[.agg #[.slice A0_0 l0_0.length c0_0, .slice A0_1 l0_1.length c0_1, .int .i64 a0_2]] ?_; (with_reducible refine (impl_JoinOk.calls k _ _ l0_0 _ _ l0_1 a0_2 true _ ?side1 ?side2 ?side3 ?side4 A25.out).mono ?_); (case side1 => repeat (first | exact (Kd.C_below HR0_0.out HB.out) | (with_reducible refine Kd.C_alloc ?_ _) | (with_reducible refine Kd.C_drewN ?_ _) | (with_reducible refine Kd.C_drew ?_))); (case side2 => exact HC0_0.out); (case side3 => repeat (first | exact (Kd.C_below HR0_1.out HB.out) | (with_reducible refine Kd.C_alloc ?_ _) | (with_reducible refine Kd.C_drewN ?_ _) | (with_reducible refine Kd.C_drew ?_))); (case side4 => exact HC0_1.out); rintro e w43 ⟨rfl, hb⟩; refine ⟨_, rfl, ?_⟩; replace HO247 := am (Kd.R_below (rq HO247.out) hb); replace HO250 := am (Kd.R_below (rq HO250.out) hb); replace BK242 := am (blk_below (blkq BK242.out) hb); replace BK243 := am (blk_below (blkq BK243.out) hb); replace BK244 := am (blk_below (blkq BK244.out) hb); replace BK252 := am (blk_below (blkq BK252.out) hb); replace HB := am (below_step bel hb); (try clear hb); have hnb44 := NB243_244.out; have hnc44 := NB244_243.out; have hnb45 := NB243_252.out; have hnc45 := NB252_243.out; obtain ⟨hcz46_0, hcz46_1, hcz46_2, hcz46_3, hfz46_0, hfz46_1, hfz46_2, hfz46_3⟩ := blkc4 BK243.out) | (go_at_call 51; (with_reducible refine (impl_isEvent.calls a3_0 a3_1 a3_2 a3_3 false _ A27.out).mono ?_); rintro e w47 ⟨rfl, hb⟩; have n0_ := am (Kd.R_below (rq HO247.out) hb); have n1_ := am (Kd.R_below (rq HO250.out) hb); have n2_ := am (blk_below (blkq BK242.out) hb); have n3_ := am (blk_below (blkq BK243.out) hb); have n4_ := am (blk_below (blkq BK244.out) hb); have n5_ := am (blk_below (blkq BK252.out) hb); have n6_ := am (below_step bel hb); clear HO247 HO250 BK242 BK243 BK244 BK252 HB; have HO247 := n0_; have HO250 := n1_; have BK242 := n2_; have BK243 := n3_; have BK244 := n4_; have BK252 := n5_; have HB := n6_; clear n0_ n1_ n2_ n3_ n4_ n5_ n6_; (try clear hb); (try clear hb2); (try clear hk); (try clear hi)))
        go_meet
        case rel => exact ⟨_, (true), (by first | rfl | (simp; done) | (simp [*]; done)), H', ⟨by first | omega | exact Nat.le_refl _⟩, ⟨by (with_reducible repeat (first | apply Kd.R_alloc | apply Kd.R_drewN | apply Kd.R_drew)); exact HO247.out⟩, ⟨by (with_reducible repeat (first | apply Kd.R_alloc | apply Kd.R_drewN | apply Kd.R_drew)); exact HO250.out⟩, ⟨by (with_reducible repeat (first | refine blk_drewN ?_ _ | refine blk_drew ?_ | refine blk_alloc ?_ _)); exact BK242.out⟩, ⟨by (with_reducible repeat (first | refine blk_drewN ?_ _ | refine blk_drew ?_ | refine blk_alloc ?_ _)); exact BK243.out⟩, ⟨by (with_reducible repeat (first | refine blk_drewN ?_ _ | refine blk_drew ?_ | refine blk_alloc ?_ _)); exact BK244.out⟩, ⟨by (with_reducible repeat (first | refine blk_drewN ?_ _ | refine blk_drew ?_ | refine blk_alloc ?_ _)); exact BK252.out⟩, ⟨by repeat (first | (with_reducible first | exact HB.out | apply below_alloc | apply pw_below_drewN | apply below_drew1 | refine below_set ?_ GE242.out | refine below_set ?_ GE243.out | refine below_set ?_ GE244.out | refine below_set ?_ GE252.out) | exact HB.out)⟩⟩
      subst c28
      have H1 : ((impl_isTime.f a1).bind fun t255 => (impl_AddJoin.j0 k a1 true l0_1 (!t255) l0_0 l0_1 a0_2 a3_0 a3_1 a3_2 a3_3 t245 t248 t251)) = some (r1, r2, r3, r4, r5) := by rw [if_pos rfl] at H; exact H
      clear H
      have H := H1
      clear H1
      replace H := Option.bind_eq_some_iff.mp H
      obtain ⟨t255, A290, H⟩ := H
      (try dsimp only at H)
      have A29 := Aside0.mk A290
      clear A290
      have H' := Aside0.mk H
      clear H
      have hnb30 := NB242_243.out
      have hnc30 := NB243_242.out
      have hnb31 := NB242_244.out
      have hnc31 := NB244_242.out
      have hnb32 := NB242_252.out
      have hnc32 := NB252_242.out
      have hcz33_0 : w24.cell? ⟨gb242, 0, none⟩ = some (.slice A0_0 l0_0.length c0_0) := (blk_cell BK242.out 0).trans rfl
      have hcz33_1 : w24.cell? ⟨gb242, 1, none⟩ = some (.slice A0_1 l0_1.length c0_1) := (blk_cell BK242.out 1).trans rfl
      have hcz33_2 : w24.cell? ⟨gb242, 2, none⟩ = some (.int .i64 a0_2) := (blk_cell BK242.out 2).trans rfl
      have hfz33_0 := blk_frozen BK242.out 0
      have hfz33_1 := blk_frozen BK242.out 1
      have hfz33_2 := blk_frozen BK242.out 2
      go_wp2_with (first | ((with_reducible refine gate_callee (f := 50) rfl ?_); refine goesL1 28 Try.func50 #[.agg #[.slice A0_0 l0_0.length c0_0, .slice A0_1 l0_1.length c0_1, .int .i64 a0_2]] ?_; (with_reducible refine (impl_JoinOk.calls k _ _ l0_0 _ _ l0_1 a0_2 true _ ?side1 ?side2 ?side3 ?side4 A25.out).mono ?_); (case side1 => repeat (first | exact (Kd.C_below HR0_0.out HB.out) | (with_reducible refine Kd.C_alloc ?_ _) | (with_reducible refine Kd.C_drewN ?_ _) | (with_reducible refine Kd.C_drew ?_))); (case side2 => exact HC0_0.out); (case side3 => repeat (first | exact (Kd.C_below HR0_1.out HB.out) | (with_reducible refine Kd.C_alloc ?_ _) | (with_reducible refine Kd.C_drewN ?_ _) | (with_reducible refine Kd.C_drew ?_))); (case side4 => exact HC0_1.out); rintro e w34 ⟨rfl, hb⟩; refine ⟨_, rfl, ?_⟩; replace HO247 := am (Kd.R_below (rq HO247.out) hb); replace HO250 := am (Kd.R_below (rq HO250.out) hb); replace BK242 := am (blk_below (blkq BK242.out) hb); replace BK243 := am (blk_below (blkq BK243.out) hb); replace BK244 := am (blk_below (blkq BK244.out) hb); replace BK252 := am (blk_below (blkq BK252.out) hb); replace HB := am (below_step bel hb); (try clear hb); have hnb35 := NB243_244.out; have hnc35 := NB244_243.out; have hnb36 := NB243_252.out; have hnc36 := NB252_243.out; obtain ⟨hcz37_0, hcz37_1, hcz37_2, hcz37_3, hfz37_0, hfz37_1, hfz37_2, hfz37_3⟩ := blkc4 BK243.out) | (go_at_call 51; (with_reducible refine (impl_isEvent.calls a3_0 a3_1 a3_2 a3_3 true _ A27.out).mono ?_); rintro e w38 ⟨rfl, hb⟩; have n0_ := am (Kd.R_below (rq HO247.out) hb); have n1_ := am (Kd.R_below (rq HO250.out) hb); have n2_ := am (blk_below (blkq BK242.out) hb); have n3_ := am (blk_below (blkq BK243.out) hb); have n4_ := am (blk_below (blkq BK244.out) hb); have n5_ := am (blk_below (blkq BK252.out) hb); have n6_ := am (below_step bel hb); clear HO247 HO250 BK242 BK243 BK244 BK252 HB; have HO247 := n0_; have HO250 := n1_; have BK242 := n2_; have BK243 := n3_; have BK244 := n4_; have BK252 := n5_; have HB := n6_; clear n0_ n1_ n2_ n3_ n4_ n5_ n6_; (try clear hb); (try clear hb2); (try clear hk); (try clear hi)) | (go_at_call 52; (with_reducible refine (impl_isTime.calls a1 t255 _ A29.out).mono ?_); rintro e w' ⟨rfl, ⟨nd, rfl⟩⟩))
      go_meet
      case rel => exact ⟨_, (!t255), (by first | rfl | (simp; done) | (simp [*]; done)), H', ⟨by first | omega | exact Nat.le_refl _⟩, ⟨by (with_reducible repeat (first | apply Kd.R_alloc | apply Kd.R_drewN | apply Kd.R_drew)); exact HO247.out⟩, ⟨by (with_reducible repeat (first | apply Kd.R_alloc | apply Kd.R_drewN | apply Kd.R_drew)); exact HO250.out⟩, ⟨by (with_reducible repeat (first | refine blk_drewN ?_ _ | refine blk_drew ?_ | refine blk_alloc ?_ _)); exact BK242.out⟩, ⟨by (with_reducible repeat (first | refine blk_drewN ?_ _ | refine blk_drew ?_ | refine blk_alloc ?_ _)); exact BK243.out⟩, ⟨by (with_reducible repeat (first | refine blk_drewN ?_ _ | refine blk_drew ?_ | refine blk_alloc ?_ _)); exact BK244.out⟩, ⟨by (with_reducible repeat (first | refine blk_drewN ?_ _ | refine blk_drew ?_ | refine blk_alloc ?_ _)); exact BK252.out⟩, ⟨by repeat (first | (with_reducible first | exact HB.out | apply below_alloc | apply pw_below_drewN | apply below_drew1 | refine below_set ?_ GE242.out | refine below_set ?_ GE243.out | refine below_set ?_ GE244.out | refine below_set ?_ GE252.out) | exact HB.out)⟩⟩
    case rest =>
      clear HC7
      try clear c1
      try clear c2
      try clear p2
      try clear c3
      try clear c4
      try clear c5
      try clear c6
      try clear c11
      try clear c12
      try clear c17
      try clear c18
      try clear c19
      try clear c26
      try clear c28
      try clear c30
      try clear c31
      try clear c32
      try clear c35
      try clear c36
      try clear c39
      try clear c40
      try clear c41
      try clear c44
      try clear c45
      try clear c48
      try clear c49
      try clear c50
      try clear hcz13_0
      try clear hcz13_1
      try clear hcz13_2
      try clear hcz20_0
      try clear hcz20_1
      try clear hcz20_2
      try clear hcz33_0
      try clear hcz33_1
      try clear hcz33_2
      try clear hcz37_0
      try clear hcz37_1
      try clear hcz37_2
      try clear hcz37_3
      try clear hcz42_0
      try clear hcz42_1
      try clear hcz42_2
      try clear hcz46_0
      try clear hcz46_1
      try clear hcz46_2
      try clear hcz46_3
      try clear hcz51_0
      try clear hcz51_1
      try clear hcz51_2
      try clear hfz13_0
      try clear hfz13_1
      try clear hfz13_2
      try clear hfz20_0
      try clear hfz20_1
      try clear hfz20_2
      try clear hfz33_0
      try clear hfz33_1
      try clear hfz33_2
      try clear hfz37_0
      try clear hfz37_1
      try clear hfz37_2
      try clear hfz37_3
      try clear hfz42_0
      try clear hfz42_1
      try clear hfz42_2
      try clear hfz46_0
      try clear hfz46_1
      try clear hfz46_2
      try clear hfz46_3
      try clear hfz51_0
      try clear hfz51_1
      try clear hfz51_2
      obtain ⟨kq, x26_6, rfl, HA, HJ6, HO_253000, HO_253001, BK242, BK243, BK244, BK252, HB⟩ := hcut
      cases kq with
      | zero => exact absurd HA.out (by simp [impl_AddJoin.j0])
      | succ kj6 =>
        have H := HA.out
        clear HA
        simp only [impl_AddJoin.j0] at H
        by_cases c53 : x26_6 = true
        · subst c53
          have H1 : (some (t245, t248, t251, ([] : List (S75)), 3)) = some (r1, r2, r3, r4, r5) := by rw [if_pos rfl] at H; exact H
          clear H
          have H := H1
          clear H1
          simp only [Option.some.injEq, Prod.mk.injEq] at H
          obtain ⟨rfl, rfl, rfl, rfl, rfl⟩ := H
          have hnb54 := NB252_242.out
          have hnc54 := NB242_252.out
          have hnb55 := NB252_243.out
          have hnc55 := NB243_252.out
          have hnb56 := NB252_244.out
          have hnc56 := NB244_252.out
          have hcz57_0 : wc.cell? ⟨gb252, 0, none⟩ = some (.slice Ao16 t245.length co16) := (blk_cell BK252.out 0).trans rfl
          have hcz57_1 : wc.cell? ⟨gb252, 1, none⟩ = some (.slice Ao21 t248.length co21) := (blk_cell BK252.out 1).trans rfl
          have hcz57_2 : wc.cell? ⟨gb252, 2, none⟩ = some (.int .i64 t251) := (blk_cell BK252.out 2).trans rfl
          have hfz57_0 := blk_frozen BK252.out 0
          have hfz57_1 := blk_frozen BK252.out 1
          have hfz57_2 := blk_frozen BK252.out 2
          have hnb58 := NB244_242.out
          have hnc58 := NB242_244.out
          have hnb59 := NB244_243.out
          have hnc59 := NB243_244.out
          have hcz60_0 : wc.cell? ⟨gb244, 0, none⟩ = some (.slice none 0 0) := (blk_cell BK244.out 0).trans rfl
          have hcz60_1 : wc.cell? ⟨gb244, 1, none⟩ = some (.slice none 0 0) := (blk_cell BK244.out 1).trans rfl
          have hcz60_2 : wc.cell? ⟨gb244, 2, none⟩ = some (.int .i64 0) := (blk_cell BK244.out 2).trans rfl
          have hfz60_0 := blk_frozen BK244.out 0
          have hfz60_1 := blk_frozen BK244.out 1
          have hfz60_2 := blk_frozen BK244.out 2
          go_wp2
          refine bodyPost_ret (results_ctt rfl _ _ gb244 30 #[.slice Ao16 t245.length co16, .slice Ao21 t248.length co21, .int .i64 t251] (0, 0) _ rfl (by (with_reducible repeat (first | refine blk_drewN ?_ _ | refine blk_drew ?_ | refine blk_alloc ?_ _)); refine blk_put (cs := #[.slice Ao16 t245.length co16, .slice Ao21 t248.length co21, .int .i64 0]) ?_ 2 _ rfl; (with_reducible repeat (first | refine blk_drewN ?_ _ | refine blk_drew ?_ | refine blk_alloc ?_ _)); refine blk_put (cs := #[.slice Ao16 t245.length co16, .slice none 0 0, .int .i64 0]) ?_ 1 _ rfl; (with_reducible repeat (first | refine blk_drewN ?_ _ | refine blk_drew ?_ | refine blk_alloc ?_ _)); refine blk_put (cs := #[.slice none 0 0, .slice none 0 0, .int .i64 0]) ?_ 0 _ rfl; (with_reducible repeat (first | refine blk_drewN ?_ _ | refine blk_drew ?_ | refine blk_alloc ?_ _)); exact BK244.out) Try.underlying30 rfl (by kernel_rfl)) rfl ?_
          exact ⟨_, _, _, by first | rfl | (simp [errW_none, errW_some] <;> rfl) | (simp [*, errW_none, errW_some] <;> rfl), by (with_reducible repeat (first | apply Kd.R_alloc | apply Kd.R_drewN | apply Kd.R_drew)); exact Kd.R_mono (Kd.R_far (p := ⟨gb244, 2, none⟩) (Kd.R_far (p := ⟨gb244, 1, none⟩) (Kd.R_far (p := ⟨gb244, 0, none⟩) (Kd.R_types HO_253000.out BK244.out (by decide)) (fun _ hk => hk.2) (.slice Ao16 t245.length co16)) (fun _ hk => hk.2) (.slice Ao21 t248.length co21)) (fun _ hk => hk.2) (.int .i64 t251)) (fun _ hk => hk.1.1), by (with_reducible repeat (first | apply Kd.R_alloc | apply Kd.R_drewN | apply Kd.R_drew)); exact Kd.R_mono (Kd.R_far (p := ⟨gb244, 2, none⟩) (Kd.R_far (p := ⟨gb244, 1, none⟩) (Kd.R_far (p := ⟨gb244, 0, none⟩) (Kd.R_types HO_253001.out BK244.out (by decide)) (fun _ hk => hk.2) (.slice Ao16 t245.length co16)) (fun _ hk => hk.2) (.slice Ao21 t248.length co21)) (fun _ hk => hk.2) (.int .i64 t251)) (fun _ hk => hk.1.1), by first | exact Kd.R_nil _ _ _ _ _ | exact Kd.N_nil _ _ _ _ _ | exact Kd.V_nil _ _ _ _ _ | exact Kd.Q_nil _ _ _ _ _ | exact Kd.S_nil _ _ _ _ _, by repeat (first | (with_reducible first | exact HB.out | apply below_alloc | apply pw_below_drewN | apply below_drew1 | refine below_set ?_ GE242.out | refine below_set ?_ GE243.out | refine below_set ?_ GE244.out | refine below_set ?_ GE252.out) | exact HB.out)⟩
        replace c53 := Bool.eq_false_iff.mpr c53
        subst c53
        have H1 : (if a3_2 ≤ a0_2 then (some (t245, t248, t251, ([] : List (S75)), 1)) else (if (t245.length : Int) = 40 then (some (t245, t248, t251, ([] : List (S75)), 2)) else (if t245.length < 4398046511104 then (impl_AddJoin.l0 kj6 a1 true (([] : List (S75))) l0_1 (l0_1.length : Int) 0 a3_0 a3_1 a3_2 a3_3 (t245 ++ [(⟨a3_0, a3_1, a3_2, a3_3⟩ : S35)]) t248 t251) else (none)))) = some (r1, r2, r3, r4, r5) := by rw [if_neg (show ¬ (false = true) by decide)] at H; exact H
        clear H
        have H := H1
        clear H1
        by_cases c61 : a3_2 ≤ a0_2
        · rw [if_pos c61] at H
          have c61b0 : decide (a3_2 ≤ a0_2) = true := decide_eq_true c61
          clear c61
          simp only [Option.some.injEq, Prod.mk.injEq] at H
          obtain ⟨rfl, rfl, rfl, rfl, rfl⟩ := H
          have hnb62 := NB243_242.out
          have hnc62 := NB242_243.out
          have hnb63 := NB243_244.out
          have hnc63 := NB244_243.out
          have hnb64 := NB243_252.out
          have hnc64 := NB252_243.out
          have hcz65_0 : wc.cell? ⟨gb243, 0, none⟩ = some (.int .i64 a3_0) := (blk_cell BK243.out 0).trans rfl
          have hcz65_1 : wc.cell? ⟨gb243, 1, none⟩ = some (.int .i64 a3_1) := (blk_cell BK243.out 1).trans rfl
          have hcz65_2 : wc.cell? ⟨gb243, 2, none⟩ = some (.int .i64 a3_2) := (blk_cell BK243.out 2).trans rfl
          have hcz65_3 : wc.cell? ⟨gb243, 3, none⟩ = some (.int .i64 a3_3) := (blk_cell BK243.out 3).trans rfl
          have hfz65_0 := blk_frozen BK243.out 0
          have hfz65_1 := blk_frozen BK243.out 1
          have hfz65_2 := blk_frozen BK243.out 2
          have hfz65_3 := blk_frozen BK243.out 3
          have hnb66 := NB242_244.out
          have hnc66 := NB244_242.out
          have hnb67 := NB242_252.out
          have hnc67 := NB252_242.out
          have hcz68_0 : wc.cell? ⟨gb242, 0, none⟩ = some (.slice A0_0 l0_0.length c0_0) := (blk_cell BK242.out 0).trans rfl
          have hcz68_1 : wc.cell? ⟨gb242, 1, none⟩ = some (.slice A0_1 l0_1.length c0_1) := (blk_cell BK242.out 1).trans rfl
          have hcz68_2 : wc.cell? ⟨gb242, 2, none⟩ = some (.int .i64 a0_2) := (blk_cell BK242.out 2).trans rfl
          have hfz68_0 := blk_frozen BK242.out 0
          have hfz68_1 := blk_frozen BK242.out 1
          have hfz68_2 := blk_frozen BK242.out 2
          have hnb69 := NB252_244.out
          have hnc69 := NB244_252.out
          have hcz70_0 : wc.cell? ⟨gb252, 0, none⟩ = some (.slice Ao16 t245.length co16) := (blk_cell BK252.out 0).trans rfl
          have hcz70_1 : wc.cell? ⟨gb252, 1, none⟩ = some (.slice Ao21 t248.length co21) := (blk_cell BK252.out 1).trans rfl
          have hcz70_2 : wc.cell? ⟨gb252, 2, none⟩ = some (.int .i64 t251) := (blk_cell BK252.out 2).trans rfl
          have hfz70_0 := blk_frozen BK252.out 0
          have hfz70_1 := blk_frozen BK252.out 1
          have hfz70_2 := blk_frozen BK252.out 2
          have hcz71_0 : wc.cell? ⟨gb244, 0, none⟩ = some (.slice none 0 0) := (blk_cell BK244.out 0).trans rfl
          have hcz71_1 : wc.cell? ⟨gb244, 1, none⟩ = some (.slice none 0 0) := (blk_cell BK244.out 1).trans rfl
          have hcz71_2 : wc.cell? ⟨gb244, 2, none⟩ = some (.int .i64 0) := (blk_cell BK244.out 2).trans rfl
          have hfz71_0 := blk_frozen BK244.out 0
          have hfz71_1 := blk_frozen BK244.out 1
          have hfz71_2 := blk_frozen BK244.out 2
          go_wp2
          refine bodyPost_ret (results_ctt rfl _ _ gb244 30 #[.slice Ao16 t245.length co16, .slice Ao21 t248.length co21, .int .i64 t251] (0, 0) _ rfl (by (with_reducible repeat (first | refine blk_drewN ?_ _ | refine blk_drew ?_ | refine blk_alloc ?_ _)); refine blk_put (cs := #[.slice Ao16 t245.length co16, .slice Ao21 t248.length co21, .int .i64 0]) ?_ 2 _ rfl; (with_reducible repeat (first | refine blk_drewN ?_ _ | refine blk_drew ?_ | refine blk_alloc ?_ _)); refine blk_put (cs := #[.slice Ao16 t245.length co16, .slice none 0 0, .int .i64 0]) ?_ 1 _ rfl; (with_reducible repeat (first | refine blk_drewN ?_ _ | refine blk_drew ?_ | refine blk_alloc ?_ _)); refine blk_put (cs := #[.slice none 0 0, .slice none 0 0, .int .i64 0]) ?_ 0 _ rfl; (with_reducible repeat (first | refine blk_drewN ?_ _ | refine blk_drew ?_ | refine blk_alloc ?_ _)); exact BK244.out) Try.underlying30 rfl (by kernel_rfl)) rfl ?_
          exact ⟨_, _, _, by first | rfl | (simp [errW_none, errW_some] <;> rfl) | (simp [*, errW_none, errW_some] <;> rfl), by (with_reducible repeat (first | apply Kd.R_alloc | apply Kd.R_drewN | apply Kd.R_drew)); exact Kd.R_mono (Kd.R_far (p := ⟨gb244, 2, none⟩) (Kd.R_far (p := ⟨gb244, 1, none⟩) (Kd.R_far (p := ⟨gb244, 0, none⟩) (Kd.R_types HO_253000.out BK244.out (by decide)) (fun _ hk => hk.2) (.slice Ao16 t245.length co16)) (fun _ hk => hk.2) (.slice Ao21 t248.length co21)) (fun _ hk => hk.2) (.int .i64 t251)) (fun _ hk => hk.1.1), by (with_reducible repeat (first | apply Kd.R_alloc | apply Kd.R_drewN | apply Kd.R_drew)); exact Kd.R_mono (Kd.R_far (p := ⟨gb244, 2, none⟩) (Kd.R_far (p := ⟨gb244, 1, none⟩) (Kd.R_far (p := ⟨gb244, 0, none⟩) (Kd.R_types HO_253001.out BK244.out (by decide)) (fun _ hk => hk.2) (.slice Ao16 t245.length co16)) (fun _ hk => hk.2) (.slice Ao21 t248.length co21)) (fun _ hk => hk.2) (.int .i64 t251)) (fun _ hk => hk.1.1), by first | exact Kd.R_nil _ _ _ _ _ | exact Kd.N_nil _ _ _ _ _ | exact Kd.V_nil _ _ _ _ _ | exact Kd.Q_nil _ _ _ _ _ | exact Kd.S_nil _ _ _ _ _, by repeat (first | (with_reducible first | exact HB.out | apply below_alloc | apply pw_below_drewN | apply below_drew1 | refine below_set ?_ GE242.out | refine below_set ?_ GE243.out | refine below_set ?_ GE244.out | refine below_set ?_ GE252.out) | exact HB.out)⟩
        rw [if_neg c61] at H
        have c61b0 : decide (a3_2 ≤ a0_2) = false := decide_eq_false c61
        clear c61
        by_cases c72 : (t245.length : Int) = 40
        · rw [if_pos c72] at H
          have c72b0 : ((t245.length : Int) == 40) = true := beq_iff_eq.mpr c72
          have c72b1 : ((t245.length : Int) != 40) = false := bne_eq_false_iff_eq.mpr c72
          clear c72
          simp only [Option.some.injEq, Prod.mk.injEq] at H
          obtain ⟨rfl, rfl, rfl, rfl, rfl⟩ := H
          have hnb73 := NB243_242.out
          have hnc73 := NB242_243.out
          have hnb74 := NB243_244.out
          have hnc74 := NB244_243.out
          have hnb75 := NB243_252.out
          have hnc75 := NB252_243.out
          have hcz76_0 : wc.cell? ⟨gb243, 0, none⟩ = some (.int .i64 a3_0) := (blk_cell BK243.out 0).trans rfl
          have hcz76_1 : wc.cell? ⟨gb243, 1, none⟩ = some (.int .i64 a3_1) := (blk_cell BK243.out 1).trans rfl
          have hcz76_2 : wc.cell? ⟨gb243, 2, none⟩ = some (.int .i64 a3_2) := (blk_cell BK243.out 2).trans rfl
          have hcz76_3 : wc.cell? ⟨gb243, 3, none⟩ = some (.int .i64 a3_3) := (blk_cell BK243.out 3).trans rfl
          have hfz76_0 := blk_frozen BK243.out 0
          have hfz76_1 := blk_frozen BK243.out 1
          have hfz76_2 := blk_frozen BK243.out 2
          have hfz76_3 := blk_frozen BK243.out 3
          have hnb77 := NB242_244.out
          have hnc77 := NB244_242.out
          have hnb78 := NB242_252.out
          have hnc78 := NB252_242.out
          have hcz79_0 : wc.cell? ⟨gb242, 0, none⟩ = some (.slice A0_0 l0_0.length c0_0) := (blk_cell BK242.out 0).trans rfl
          have hcz79_1 : wc.cell? ⟨gb242, 1, none⟩ = some (.slice A0_1 l0_1.length c0_1) := (blk_cell BK242.out 1).trans rfl
          have hcz79_2 : wc.cell? ⟨gb242, 2, none⟩ = some (.int .i64 a0_2) := (blk_cell BK242.out 2).trans rfl
          have hfz79_0 := blk_frozen BK242.out 0
          have hfz79_1 := blk_frozen BK242.out 1
          have hfz79_2 := blk_frozen BK242.out 2
          have hnb80 := NB252_244.out
          have hnc80 := NB244_252.out
          have hcz81_0 : wc.cell? ⟨gb252, 0, none⟩ = some (.slice Ao16 t245.length co16) := (blk_cell BK252.out 0).trans rfl
          have hcz81_1 : wc.cell? ⟨gb252, 1, none⟩ = some (.slice Ao21 t248.length co21) := (blk_cell BK252.out 1).trans rfl
          have hcz81_2 : wc.cell? ⟨gb252, 2, none⟩ = some (.int .i64 t251) := (blk_cell BK252.out 2).trans rfl
          have hfz81_0 := blk_frozen BK252.out 0
          have hfz81_1 := blk_frozen BK252.out 1
          have hfz81_2 := blk_frozen BK252.out 2
          have hcz82_0 : wc.cell? ⟨gb244, 0, none⟩ = some (.slice none 0 0) := (blk_cell BK244.out 0).trans rfl
          have hcz82_1 : wc.cell? ⟨gb244, 1, none⟩ = some (.slice none 0 0) := (blk_cell BK244.out 1).trans rfl
          have hcz82_2 : wc.cell? ⟨gb244, 2, none⟩ = some (.int .i64 0) := (blk_cell BK244.out 2).trans rfl
          have hfz82_0 := blk_frozen BK244.out 0
          have hfz82_1 := blk_frozen BK244.out 1
          have hfz82_2 := blk_frozen BK244.out 2
          go_wp2
          refine bodyPost_ret (results_ctt rfl _ _ gb244 30 #[.slice Ao16 t245.length co16, .slice Ao21 t248.length co21, .int .i64 t251] (0, 0) _ rfl (by (with_reducible repeat (first | refine blk_drewN ?_ _ | refine blk_drew ?_ | refine blk_alloc ?_ _)); refine blk_put (cs := #[.slice Ao16 t245.length co16, .slice Ao21 t248.length co21, .int .i64 0]) ?_ 2 _ rfl; (with_reducible repeat (first | refine blk_drewN ?_ _ | refine blk_drew ?_ | refine blk_alloc ?_ _)); refine blk_put (cs := #[.slice Ao16 t245.length co16, .slice none 0 0, .int .i64 0]) ?_ 1 _ rfl; (with_reducible repeat (first | refine blk_drewN ?_ _ | refine blk_drew ?_ | refine blk_alloc ?_ _)); refine blk_put (cs := #[.slice none 0 0, .slice none 0 0, .int .i64 0]) ?_ 0 _ rfl; (with_reducible repeat (first | refine blk_drewN ?_ _ | refine blk_drew ?_ | refine blk_alloc ?_ _)); exact BK244.out) Try.underlying30 rfl (by kernel_rfl)) rfl ?_
          exact ⟨_, _, _, by first | rfl | (simp [errW_none, errW_some] <;> rfl) | (simp [*, errW_none, errW_some] <;> rfl), by (with_reducible repeat (first | apply Kd.R_alloc | apply Kd.R_drewN | apply Kd.R_drew)); exact Kd.R_mono (Kd.R_far (p := ⟨gb244, 2, none⟩) (Kd.R_far (p := ⟨gb244, 1, none⟩) (Kd.R_far (p := ⟨gb244, 0, none⟩) (Kd.R_types HO_253000.out BK244.out (by decide)) (fun _ hk => hk.2) (.slice Ao16 t245.length co16)) (fun _ hk => hk.2) (.slice Ao21 t248.length co21)) (fun _ hk => hk.2) (.int .i64 t251)) (fun _ hk => hk.1.1), by (with_reducible repeat (first | apply Kd.R_alloc | apply Kd.R_drewN | apply Kd.R_drew)); exact Kd.R_mono (Kd.R_far (p := ⟨gb244, 2, none⟩) (Kd.R_far (p := ⟨gb244, 1, none⟩) (Kd.R_far (p := ⟨gb244, 0, none⟩) (Kd.R_types HO_253001.out BK244.out (by decide)) (fun _ hk => hk.2) (.slice Ao16 t245.length co16)) (fun _ hk => hk.2) (.slice Ao21 t248.length co21)) (fun _ hk => hk.2) (.int .i64 t251)) (fun _ hk => hk.1.1), by first | exact Kd.R_nil _ _ _ _ _ | exact Kd.N_nil _ _ _ _ _ | exact Kd.V_nil _ _ _ _ _ | exact Kd.Q_nil _ _ _ _ _ | exact Kd.S_nil _ _ _ _ _, by repeat (first | (with_reducible first | exact HB.out | apply below_alloc | apply pw_below_drewN | apply below_drew1 | refine below_set ?_ GE242.out | refine below_set ?_ GE243.out | refine below_set ?_ GE244.out | refine below_set ?_ GE252.out) | exact HB.out)⟩
        rw [if_neg c72] at H
        have c72b0 : ((t245.length : Int) == 40) = false := beq_eq_false_iff_ne.mpr c72
        have c72b1 : ((t245.length : Int) != 40) = true := bne_iff_ne.mpr c72
        by_cases c83 : t245.length < 4398046511104
        rotate_left
        · rw [if_neg c83] at H
          exact absurd H (by simp)
        rw [if_pos c83] at H
        have LMc83 := Aside0.mk c83
        clear c83
        obtain ⟨y256, hy256⟩ : ∃ y_ : List (S35), y_ = (t245 ++ [(⟨a3_0, a3_1, a3_2, a3_3⟩ : S35)]) := ⟨_, rfl⟩
        replace H : (impl_AddJoin.l0 kj6 a1 true (([] : List (S75))) l0_1 (l0_1.length : Int) 0 a3_0 a3_1 a3_2 a3_3 y256 t248 t251) = some (r1, r2, r3, r4, r5) := by first | (rw [hy256]; with_reducible exact H) | (have H2_ := (Option.bind_some _ _).symm.trans H; rw [hy256]; with_reducible exact H2_) | (have H2_ := (Option.bind_some _ _).symm.trans H; with_reducible exact H2_) | with_reducible exact H | (rw [hy256]; exact H) | exact H
        have Ny256 := Aside0.mk hy256
        clear hy256
        obtain ⟨y259, hy259⟩ : ∃ y_ : List (S75), y_ = (([] : List (S75))) := ⟨_, rfl⟩
        replace H : (impl_AddJoin.l0 kj6 a1 true y259 l0_1 (l0_1.length : Int) 0 a3_0 a3_1 a3_2 a3_3 y256 t248 t251) = some (r1, r2, r3, r4, r5) := by first | (rw [hy259]; with_reducible exact H) | (have H2_ := (Option.bind_some _ _).symm.trans H; rw [hy259]; with_reducible exact H2_) | (have H2_ := (Option.bind_some _ _).symm.trans H; with_reducible exact H2_) | with_reducible exact H | (rw [hy259]; exact H) | exact H
        have Ny259 := Aside0.mk hy259
        clear hy259
        have H' := Aside0.mk H
        clear H
        have hnb84 := NB243_242.out
        have hnc84 := NB242_243.out
        have hnb85 := NB243_244.out
        have hnc85 := NB244_243.out
        have hnb86 := NB243_252.out
        have hnc86 := NB252_243.out
        have hcz87_0 : wc.cell? ⟨gb243, 0, none⟩ = some (.int .i64 a3_0) := (blk_cell BK243.out 0).trans rfl
        have hcz87_1 : wc.cell? ⟨gb243, 1, none⟩ = some (.int .i64 a3_1) := (blk_cell BK243.out 1).trans rfl
        have hcz87_2 : wc.cell? ⟨gb243, 2, none⟩ = some (.int .i64 a3_2) := (blk_cell BK243.out 2).trans rfl
        have hcz87_3 : wc.cell? ⟨gb243, 3, none⟩ = some (.int .i64 a3_3) := (blk_cell BK243.out 3).trans rfl
        have hfz87_0 := blk_frozen BK243.out 0
        have hfz87_1 := blk_frozen BK243.out 1
        have hfz87_2 := blk_frozen BK243.out 2
        have hfz87_3 := blk_frozen BK243.out 3
        have hnb88 := NB242_244.out
        have hnc88 := NB244_242.out
        have hnb89 := NB242_252.out
        have hnc89 := NB252_242.out
        have hcz90_0 : wc.cell? ⟨gb242, 0, none⟩ = some (.slice A0_0 l0_0.length c0_0) := (blk_cell BK242.out 0).trans rfl
        have hcz90_1 : wc.cell? ⟨gb242, 1, none⟩ = some (.slice A0_1 l0_1.length c0_1) := (blk_cell BK242.out 1).trans rfl
        have hcz90_2 : wc.cell? ⟨gb242, 2, none⟩ = some (.int .i64 a0_2) := (blk_cell BK242.out 2).trans rfl
        have hfz90_0 := blk_frozen BK242.out 0
        have hfz90_1 := blk_frozen BK242.out 1
        have hfz90_2 := blk_frozen BK242.out 2
        have hnb91 := NB252_244.out
        have hnc91 := NB244_252.out
        have hcz92_0 : wc.cell? ⟨gb252, 0, none⟩ = some (.slice Ao16 t245.length co16) := (blk_cell BK252.out 0).trans rfl
        have hcz92_1 : wc.cell? ⟨gb252, 1, none⟩ = some (.slice Ao21 t248.length co21) := (blk_cell BK252.out 1).trans rfl
        have hcz92_2 : wc.cell? ⟨gb252, 2, none⟩ = some (.int .i64 t251) := (blk_cell BK252.out 2).trans rfl
        have hfz92_0 := blk_frozen BK252.out 0
        have hfz92_1 := blk_frozen BK252.out 1
        have hfz92_2 := blk_frozen BK252.out 2
        try go_wp2
        replace HO_253000 := am (Kd.R_drew HO_253000.out)
        replace HO_253001 := am (Kd.R_drew HO_253001.out)
        replace BK242 := am (blk_drew BK242.out)
        replace BK243 := am (blk_drew BK243.out)
        replace BK244 := am (blk_drew BK244.out)
        replace BK252 := am (blk_drew BK252.out)
        replace HB := am (below_drew1 HB.out)
        refine start_ (n := 9) (S := fun w' => w'.cell? ⟨gb252, 0, none⟩ = some (.slice Ao16 t245.length co16) ∧ w'.cell? ⟨gb252, 1, none⟩ = some (.slice Ao21 t248.length co21) ∧ w'.cell? ⟨gb252, 2, none⟩ = some (.int .i64 t251) ∧ w'.cell? ⟨gb243, 0, none⟩ = some (.int .i64 a3_0) ∧ w'.cell? ⟨gb243, 1, none⟩ = some (.int .i64 a3_1) ∧ w'.cell? ⟨gb243, 2, none⟩ = some (.int .i64 a3_2) ∧ w'.cell? ⟨gb243, 3, none⟩ = some (.int .i64 a3_3)) (ds := [8]) #[false, false, false, false, false, false, false, false, false] (by kernel_rfl) rfl rfl ⟨(blk_cell BK252.out 0).trans rfl, (blk_cell BK252.out 1).trans rfl, (blk_cell BK252.out 2).trans rfl, (blk_cell BK243.out 0).trans rfl, (blk_cell BK243.out 1).trans rfl, (blk_cell BK243.out 2).trans rfl, (blk_cell BK243.out 3).trans rfl⟩ (fun hHeld => ?_); refine with_tabW impl_AddJoin.tab11 impl_AddJoin.bits11 (fun HT_ HW_ => ?_)
        generalize wc.drew = w93 at HO_253000 HO_253001 BK242 BK243 BK244 BK252 HB hHeld ⊢
        refine pure_ (i := 0) (N := some 55) (v := ?_) (a' := ?_) #[true, false, false, false, false, false, false, false, false] rfl rfl (any_of HT_.out (by kernel_rfl)) (fun _ _ _ h => h) (Or.inl ⟨by rfl, ?_⟩) ?_ ?_
        rotate_left
        · intro w'
          go_simp
          with_reducible rfl
        rotate_left
        · simp only [Act.put, List.setIfInBounds_toArray, List.set_cons_zero, List.set_cons_succ, i64_w, i32_w]
          rfl
        refine pure_ (i := 1) (N := some 56) (v := ?_) (a' := ?_) #[true, true, false, false, false, false, false, false, false] rfl rfl (any_of HT_.out (by kernel_rfl)) (fun _ _ _ h => h) (Or.inl ⟨by rfl, ?_⟩) ?_ ?_
        rotate_left
        · intro w'
          go_simp
          with_reducible rfl
        rotate_left
        · simp only [Act.put, List.setIfInBounds_toArray, List.set_cons_zero, List.set_cons_succ, i64_w, i32_w]
          rfl
        refine pure_ (i := 2) (N := some 57) (v := ?_) (a' := ?_) #[true, true, true, false, false, false, false, false, false] rfl rfl (any_of HT_.out (by kernel_rfl)) (fun _ _ _ h => h) (Or.inl ⟨by rfl, ?_⟩) ?_ ?_
        rotate_left
        · intro w'
          go_simp
          with_reducible rfl
        rotate_left
        · simp only [Act.put, List.setIfInBounds_toArray, List.set_cons_zero, List.set_cons_succ, i64_w, i32_w]
          rfl
        refine take_ (i := 3) (N := some 58) (v := ?_) (a' := ?_) #[true, true, true, true, false, false, false, false, false] rfl rfl (take_ofW HT_.out HW_.out (by kernel_rfl)) (fun _ _ _ h => h) (Or.inl ⟨by rfl, ?_⟩) hHeld ?_ ?_
        rotate_left
        · rintro w' ⟨s0, s1, s2, s3, s4, s5, s6⟩
          go_simp
          with_reducible rfl
        rotate_left
        · simp only [Act.put, List.setIfInBounds_toArray, List.set_cons_zero, List.set_cons_succ, i64_w, i32_w]
          rfl
        refine take_ (i := 4) (N := some 59) (v := ?_) (a' := ?_) #[true, true, true, true, true, false, false, false, false] rfl rfl (take_ofW HT_.out HW_.out (by kernel_rfl)) (fun _ _ _ h => h) (Or.inl ⟨by rfl, ?_⟩) hHeld ?_ ?_
        rotate_left
        · rintro w' ⟨s0, s1, s2, s3, s4, s5, s6⟩
          go_simp
          with_reducible rfl
        rotate_left
        · simp only [Act.put, List.setIfInBounds_toArray, List.set_cons_zero, List.set_cons_succ, i64_w, i32_w]
          rfl
        refine one_ (i := 5) (N := some 60) #[true, true, true, true, true, true, false, false, false] rfl rfl (one_of HT_.out (by kernel_rfl)) (by decide) (fun K hK => ?_)
        refine value_ (w1 := ?_) (v := ?_) (by rfl) rfl ?_ ?_
        rotate_left 2
        · go_simp
          constructor
          · rfl
          · rfl
        refine hK.out _ _ ⟨(blk_cell (blk_alloc BK252.out _) 0).trans rfl, (blk_cell (blk_alloc BK252.out _) 1).trans rfl, (blk_cell (blk_alloc BK252.out _) 2).trans rfl, (blk_cell (blk_alloc BK243.out _) 0).trans rfl, (blk_cell (blk_alloc BK243.out _) 1).trans rfl, (blk_cell (blk_alloc BK243.out _) 2).trans rfl, (blk_cell (blk_alloc BK243.out _) 3).trans rfl⟩ (fun hHeld => ?_)
        clear hK K
        refine norm_ (a' := ?_) ?_ ?_
        rotate_left
        · show Act.put _ (some 60) _ = _
          simp only [Act.put, List.setIfInBounds_toArray, List.set_cons_zero, List.set_cons_succ, i64_w, i32_w]
          rfl
        refine one_ (i := 6) (N := some 61) #[true, true, true, true, true, true, true, false, false] rfl rfl (one_of HT_.out (by kernel_rfl)) (by decide) (fun K hK => ?_)
        refine Kd.R_append_step k35 (w0 := w) w.heap.size (by rfl) (.tmp 58) (.tmp 60) 28 35 (.agg #[(.int .i64 0), (.int .i64 0), (.int .i64 0), (.int .i64 0)]) 32 rfl Try.underlying28 info35 rfl (by decide) (by omega) (.slice Ao16 t245.length co16) t245 (⟨a3_0, a3_1, a3_2, a3_3⟩ : S35) [.int .i64 a3_0, .int .i64 a3_1, .int .i64 a3_2, .int .i64 a3_3] (fun k_ => nb k_ (sv Ao21 t248 co21) ∧ k_ ≠ gb243) (fun _ => False) rfl rfl ?aP (fun _ hk => hk.elim) ?aF ?aO ?aB ?aS ?aL ?_
        (case aP => exact k35_mkM _ _ _ (⟨a3_0, a3_1, a3_2, a3_3⟩ : S35))
        (case aB => exact bel)
        (case aF => exact (fun k_ hk => ⟨Kd.fresh' (Kd.R_lt (rq HO_253001.out)) k_ hk, Kd.freshB (blkq BK243.out) k_ hk⟩))
        (case aO => exact (rq HO_253000.out))
        (case aS => exact (below_size bel))
        (case aL => have := LMc83.out; omega)
        intro v257 w94 ho hb hg hat
        rw [← Ny256.out] at ho
        replace HO_253001 := am (Kd.R_after (ok := (fun k_ => k_ ≠ gb243)) (by (with_reducible repeat (first | apply Kd.R_alloc | apply Kd.R_drewN | apply Kd.R_drew)); exact Kd.R_mono HO_253001.out (fun _ hk => ⟨hk.2, hk.1⟩)) hg hat)
        replace BK242 := am (blk_grown (blkq BK242.out) hg (Kd.R_ne HO_253000.out BK242.out (by decide)))
        replace BK243 := am (blk_grown (blkq BK243.out) hg (Kd.R_away HO_253000.out (fun _ hk => hk.2)))
        replace BK244 := am (blk_grown (blkq BK244.out) hg (Kd.R_ne HO_253000.out BK244.out (by decide)))
        replace BK252 := am (blk_grown (blkq BK252.out) hg (Kd.R_ne HO_253000.out BK252.out (by decide)))
        replace HB := am (hb)
        have HO258 := am (ho)
        clear HO_253000 ho hb hg hat
        obtain ⟨Ao95, co95, eo95⟩ := Kd.R_slice HO258.out
        (first | subst eo95 | (injection eo95 with f1_ f2_ f3_; have f4_ := f1_.symm; have f5_ := f3_.symm; clear f1_ f2_ f3_; subst f4_; subst f5_))
        refine hK.out _ _ ⟨(blk_cell BK252.out 0).trans rfl, (blk_cell BK252.out 1).trans rfl, (blk_cell BK252.out 2).trans rfl, (blk_cell BK243.out 0).trans rfl, (blk_cell BK243.out 1).trans rfl, (blk_cell BK243.out 2).trans rfl, (blk_cell BK243.out 3).trans rfl⟩ (fun hHeld => ?_)
        clear hK K
        refine norm_ (a' := ?_) ?_ ?_
        rotate_left
        · show Act.put _ (some 61) _ = _
          simp only [Act.put, List.setIfInBounds_toArray, List.set_cons_zero, List.set_cons_succ, i64_w, i32_w]
          rfl
        refine pure_ (i := 7) (N := some 62) (v := ?_) (a' := ?_) #[true, true, true, true, true, true, true, true, false] rfl rfl (any_of HT_.out (by kernel_rfl)) (fun _ _ _ h => h) (Or.inl ⟨by rfl, ?_⟩) ?_ ?_
        rotate_left
        · intro w'
          go_simp
          with_reducible rfl
        rotate_left
        · simp only [Act.put, List.setIfInBounds_toArray, List.set_cons_zero, List.set_cons_succ, i64_w, i32_w]
          rfl
        refine last_ (i := 8) (N := none) #[true, true, true, true, true, true, true, true, true] rfl rfl (one_of HT_.out (by kernel_rfl)) (by decide) (fun K hK => ?_)
        have hs96 : w94.cell? ⟨gb252, 0, none⟩ = some (.slice Ao16 t245.length co16) := (blk_cell BK252.out 0).trans rfl
        have hfs96 := blk_frozen BK252.out 0
        have hns96_0 := NB242_252.out
        have hns96_1 := NB243_252.out
        have hns96_2 := NB244_252.out
        have hms96_0 := NB252_242.out
        have hms96_1 := NB252_243.out
        have hms96_2 := NB252_244.out
        refine skip_ (w1 := ?_) (by rfl) rfl ?_ ?_
        rotate_left
        · go_simp
          rfl
        refine hK.out _ _ ?_
        clear hK K
        refine done_ (done_of HT_.out (by kernel_rfl)) ?_
        try go_wp2_with (first | ((with_reducible refine gate_dst (N := 63) rfl ?_); refine Kd.R_lit k75 _ 75 ?hg (N := 63) ?hd (xs := ([] : List (S75))) (inner := []) (ok := fun _ => True) (okp := fun _ => True) ?hr ?hp (fun _ hk => hk) trivial (Below.refl _ _) (Nat.le_refl _) (by simp) ?_; (case hd => rfl); (case hg => rfl); (case hr => first | (go_simp; done) | (go_simp; rfl)); (case hp => exact (Reps.none _ _)); intro v260 w97 ho98 hb hg_ hnew_; clear hg_ hnew_; (first | rw [← Ny259.out] at ho98 | (simp only [Int.reduceToNat] at ho98; rw [← Ny259.out] at ho98)); replace HO_253001 := am (Kd.R_below (by (with_reducible repeat (first | apply Kd.R_alloc | apply Kd.R_drewN | apply Kd.R_drew)); exact (Kd.R_mono (Kd.R_far (p := ⟨gb252, 0, none⟩) (Kd.R_types HO_253001.out BK252.out (by decide)) (fun _ hk => hk.2) (.slice Ao95 y256.length co95)) (fun _ h_ => h_.1))) hb); replace HO258 := am (Kd.R_below (by (with_reducible repeat (first | apply Kd.R_alloc | apply Kd.R_drewN | apply Kd.R_drew)); exact (Kd.R_mono (Kd.R_far (p := ⟨gb252, 0, none⟩) (Kd.R_types HO258.out BK252.out (by decide)) (fun _ hk => hk.2) (.slice Ao95 y256.length co95)) (fun _ h_ => h_.1))) hb); have HO261 := am (Kd.R_lower ho98 (below_size bel)); replace BK242 := am (blk_below (g := gb242) (o := .cells #[.slice A0_0 l0_0.length c0_0, .slice A0_1 l0_1.length c0_1, .int .i64 a0_2] 30 (0, 0)) (by (with_reducible repeat (first | refine blk_drewN ?_ _ | refine blk_drew ?_ | refine blk_alloc ?_ _)); refine blk_far ?_ NB242_252.out _; (with_reducible repeat (first | refine blk_drewN ?_ _ | refine blk_drew ?_ | refine blk_alloc ?_ _)); exact BK242.out) hb); replace BK243 := am (blk_below (g := gb243) (o := .cells #[.int .i64 a3_0, .int .i64 a3_1, .int .i64 a3_2, .int .i64 a3_3] 35 (0, 0)) (by (with_reducible repeat (first | refine blk_drewN ?_ _ | refine blk_drew ?_ | refine blk_alloc ?_ _)); refine blk_far ?_ NB243_252.out _; (with_reducible repeat (first | refine blk_drewN ?_ _ | refine blk_drew ?_ | refine blk_alloc ?_ _)); exact BK243.out) hb); replace BK244 := am (blk_below (g := gb244) (o := .cells #[.slice none 0 0, .slice none 0 0, .int .i64 0] 30 (0, 0)) (by (with_reducible repeat (first | refine blk_drewN ?_ _ | refine blk_drew ?_ | refine blk_alloc ?_ _)); refine blk_far ?_ NB244_252.out _; (with_reducible repeat (first | refine blk_drewN ?_ _ | refine blk_drew ?_ | refine blk_alloc ?_ _)); exact BK244.out) hb); replace BK252 := am (blk_below (g := gb252) (o := .cells #[.slice Ao95 y256.length co95, .slice Ao21 t248.length co21, .int .i64 t251] 30 (0, 0)) (by (with_reducible repeat (first | refine blk_drewN ?_ _ | refine blk_drew ?_ | refine blk_alloc ?_ _)); refine blk_put (cs := #[.slice Ao16 t245.length co16, .slice Ao21 t248.length co21, .int .i64 t251]) ?_ 0 _ rfl; (with_reducible repeat (first | refine blk_drewN ?_ _ | refine blk_drew ?_ | refine blk_alloc ?_ _)); exact BK252.out) hb); replace HB := am (below_step bel hb); clear hb ho98))
        go_loopg [14, 66] kj6 (fun kq v14 v66 w' => ∃ (x14_2 : List (S75)) (x66_2 : Int), v66 = .int .i64 x66_2 ∧ Aside0 (impl_AddJoin.l0 kq a1 true x14_2 l0_1 (l0_1.length : Int) x66_2 a3_0 a3_1 a3_2 a3_3 y256 t248 t251 = some (r1, r2, r3, r4, r5)) ∧ Aside0 (kq ≤ kj6) ∧ Aside0 (Kd.R k75 75 w' w.heap.size (fun _ => True) v14 x14_2) ∧ Aside0 (Kd.R k35 35 w' w.heap.size (fun k_ => some k_ ≠ ((.slice Ao21 t248.length co21) : Value).ownBlock ∧ k_ ≠ gb243) (.slice Ao95 y256.length co95) y256) ∧ Aside0 (Kd.R k35 35 w' w.heap.size (fun k_ => some k_ ≠ ((.slice Ao95 y256.length co95) : Value).ownBlock ∧ k_ ≠ gb243) (.slice Ao21 t248.length co21) t248) ∧ Aside0 (w'.heap[gb242]? = some (.cells #[(.slice A0_0 l0_0.length c0_0), (.slice A0_1 l0_1.length c0_1), .int .i64 a0_2] 30 (0, 0))) ∧ Aside0 (w'.heap[gb243]? = some (.cells #[.int .i64 a3_0, .int .i64 a3_1, .int .i64 a3_2, .int .i64 a3_3] 35 (0, 0))) ∧ Aside0 (w'.heap[gb244]? = some (.cells #[(.slice none 0 0), (.slice none 0 0), .int .i64 0] 30 (0, 0))) ∧ Aside0 (w'.heap[gb252]? = some (.cells #[(.slice Ao95 y256.length co95), (.slice Ao21 t248.length co21), .int .i64 t251] 30 (0, 0))) ∧ Aside0 (Below w.heap.size w w'))
        case atStart => exact ⟨(y259), (0), (by first | rfl | (simp; done) | (simp [*]; done)), H', ⟨Nat.le_refl _⟩, ⟨by (with_reducible repeat (first | apply Kd.R_alloc | apply Kd.R_drewN | apply Kd.R_drew)); exact HO261.out⟩, ⟨by (with_reducible repeat (first | apply Kd.R_alloc | apply Kd.R_drewN | apply Kd.R_drew)); exact HO258.out⟩, ⟨by (with_reducible repeat (first | apply Kd.R_alloc | apply Kd.R_drewN | apply Kd.R_drew)); exact Kd.R_mono HO_253001.out (fun _ hk => ⟨hk.2, hk.1⟩)⟩, ⟨by (with_reducible repeat (first | refine blk_drewN ?_ _ | refine blk_drew ?_ | refine blk_alloc ?_ _)); exact BK242.out⟩, ⟨by (with_reducible repeat (first | refine blk_drewN ?_ _ | refine blk_drew ?_ | refine blk_alloc ?_ _)); exact BK243.out⟩, ⟨by (with_reducible repeat (first | refine blk_drewN ?_ _ | refine blk_drew ?_ | refine blk_alloc ?_ _)); exact BK244.out⟩, ⟨by (with_reducible repeat (first | refine blk_drewN ?_ _ | refine blk_drew ?_ | refine blk_alloc ?_ _)); exact BK252.out⟩, ⟨by repeat (first | (with_reducible first | exact HB.out | apply below_alloc | apply pw_below_drewN | apply below_drew1 | refine below_set ?_ GE242.out | refine below_set ?_ GE243.out | refine below_set ?_ GE244.out | refine below_set ?_ GE252.out) | exact HB.out)⟩⟩
        case round =>
          clear H'
          try clear c1
          try clear c2
          try clear p2
          try clear c3
          try clear c4
          try clear c5
          try clear c6
          try clear c7
          try clear c8
          try clear c9
          try clear c11
          try clear c12
          try clear c17
          try clear c18
          try clear c19
          try clear c26
          try clear c28
          try clear c30
          try clear c31
          try clear c32
          try clear c35
          try clear c36
          try clear c39
          try clear c40
          try clear c41
          try clear c44
          try clear c45
          try clear c48
          try clear c49
          try clear c50
          try clear c53
          try clear c54
          try clear c55
          try clear c56
          try clear c58
          try clear c59
          try clear c61
          try clear c61b0
          try clear c62
          try clear c63
          try clear c64
          try clear c66
          try clear c67
          try clear c69
          try clear c72
          try clear c72b0
          try clear c72b1
          try clear c73
          try clear c74
          try clear c75
          try clear c77
          try clear c78
          try clear c80
          try clear c83
          try clear c84
          try clear c85
          try clear c86
          try clear c88
          try clear c89
          try clear c91
          try clear hcz13_0
          try clear hcz13_1
          try clear hcz13_2
          try clear hcz20_0
          try clear hcz20_1
          try clear hcz20_2
          try clear hcz33_0
          try clear hcz33_1
          try clear hcz33_2
          try clear hcz37_0
          try clear hcz37_1
          try clear hcz37_2
          try clear hcz37_3
          try clear hcz42_0
          try clear hcz42_1
          try clear hcz42_2
          try clear hcz46_0
          try clear hcz46_1
          try clear hcz46_2
          try clear hcz46_3
          try clear hcz51_0
          try clear hcz51_1
          try clear hcz51_2
          try clear hcz57_0
          try clear hcz57_1
          try clear hcz57_2
          try clear hcz60_0
          try clear hcz60_1
          try clear hcz60_2
          try clear hcz65_0
          try clear hcz65_1
          try clear hcz65_2
          try clear hcz65_3
          try clear hcz68_0
          try clear hcz68_1
          try clear hcz68_2
          try clear hcz70_0
          try clear hcz70_1
          try clear hcz70_2
          try clear hcz71_0
          try clear hcz71_1
          try clear hcz71_2
          try clear hcz76_0
          try clear hcz76_1
          try clear hcz76_2
          try clear hcz76_3
          try clear hcz79_0
          try clear hcz79_1
          try clear hcz79_2
          try clear hcz81_0
          try clear hcz81_1
          try clear hcz81_2
          try clear hcz82_0
          try clear hcz82_1
          try clear hcz82_2
          try clear hcz87_0
          try clear hcz87_1
          try clear hcz87_2
          try clear hcz87_3
          try clear hcz90_0
          try clear hcz90_1
          try clear hcz90_2
          try clear hcz92_0
          try clear hcz92_1
          try clear hcz92_2
          try clear hfz13_0
          try clear hfz13_1
          try clear hfz13_2
          try clear hfz20_0
          try clear hfz20_1
          try clear hfz20_2
          try clear hfz33_0
          try clear hfz33_1
          try clear hfz33_2
          try clear hfz37_0
          try clear hfz37_1
          try clear hfz37_2
          try clear hfz37_3
          try clear hfz42_0
          try clear hfz42_1
          try clear hfz42_2
          try clear hfz46_0
          try clear hfz46_1
          try clear hfz46_2
          try clear hfz46_3
          try clear hfz51_0
          try clear hfz51_1
          try clear hfz51_2
          try clear hfz57_0
          try clear hfz57_1
          try clear hfz57_2
          try clear hfz60_0
          try clear hfz60_1
          try clear hfz60_2
          try clear hfz65_0
          try clear hfz65_1
          try clear hfz65_2
          try clear hfz65_3
          try clear hfz68_0
          try clear hfz68_1
          try clear hfz68_2
          try clear hfz70_0
          try clear hfz70_1
          try clear hfz70_2
          try clear hfz71_0
          try clear hfz71_1
          try clear hfz71_2
          try clear hfz76_0
          try clear hfz76_1
          try clear hfz76_2
          try clear hfz76_3
          try clear hfz79_0
          try clear hfz79_1
          try clear hfz79_2
          try clear hfz81_0
          try clear hfz81_1
          try clear hfz81_2
          try clear hfz82_0
          try clear hfz82_1
          try clear hfz82_2
          try clear hfz87_0
          try clear hfz87_1
          try clear hfz87_2
          try clear hfz87_3
          try clear hfz90_0
          try clear hfz90_1
          try clear hfz90_2
          try clear hfz92_0
          try clear hfz92_1
          try clear hfz92_2
          try clear p2
          obtain ⟨x14_2, x66_2, rfl, HA, HK2, HO_14, HO_253000, HO_253001, BK242, BK243, BK244, BK252, HB⟩ := hrel
          cases gk with
          | zero => exact absurd HA.out (by simp [impl_AddJoin.l0])
          | succ k2 =>
            have H := HA.out
            clear HA
            simp only [impl_AddJoin.l0] at H
            by_cases c99 : x66_2 < (l0_1.length : Int)
            rotate_left
            · rw [if_neg c99] at H
              have c99b0 : decide (x66_2 < (l0_1.length : Int)) = false := decide_eq_false c99
              clear c99
              simp only [Option.some.injEq, Prod.mk.injEq] at H
              obtain ⟨rfl, rfl, rfl, rfl, rfl⟩ := H
              have hnb150 := NB252_242.out
              have hnc150 := NB242_252.out
              have hnb151 := NB252_243.out
              have hnc151 := NB243_252.out
              have hnb152 := NB252_244.out
              have hnc152 := NB244_252.out
              have hcz153_0 : wr.cell? ⟨gb252, 0, none⟩ = some (.slice Ao95 y256.length co95) := (blk_cell BK252.out 0).trans rfl
              have hcz153_1 : wr.cell? ⟨gb252, 1, none⟩ = some (.slice Ao21 t248.length co21) := (blk_cell BK252.out 1).trans rfl
              have hcz153_2 : wr.cell? ⟨gb252, 2, none⟩ = some (.int .i64 t251) := (blk_cell BK252.out 2).trans rfl
              have hfz153_0 := blk_frozen BK252.out 0
              have hfz153_1 := blk_frozen BK252.out 1
              have hfz153_2 := blk_frozen BK252.out 2
              have hnb154 := NB244_242.out
              have hnc154 := NB242_244.out
              have hnb155 := NB244_243.out
              have hnc155 := NB243_244.out
              have hcz156_0 : wr.cell? ⟨gb244, 0, none⟩ = some (.slice none 0 0) := (blk_cell BK244.out 0).trans rfl
              have hcz156_1 : wr.cell? ⟨gb244, 1, none⟩ = some (.slice none 0 0) := (blk_cell BK244.out 1).trans rfl
              have hcz156_2 : wr.cell? ⟨gb244, 2, none⟩ = some (.int .i64 0) := (blk_cell BK244.out 2).trans rfl
              have hfz156_0 := blk_frozen BK244.out 0
              have hfz156_1 := blk_frozen BK244.out 1
              have hfz156_2 := blk_frozen BK244.out 2
              go_wp2
              refine bodyPost_ret (results_ctt rfl _ _ gb244 30 #[.slice Ao95 y256.length co95, .slice Ao21 t248.length co21, .int .i64 t251] (0, 0) _ rfl (by (with_reducible repeat (first | refine blk_drewN ?_ _ | refine blk_drew ?_ | refine blk_alloc ?_ _)); refine blk_put (cs := #[.slice Ao95 y256.length co95, .slice Ao21 t248.length co21, .int .i64 0]) ?_ 2 _ rfl; (with_reducible repeat (first | refine blk_drewN ?_ _ | refine blk_drew ?_ | refine blk_alloc ?_ _)); refine blk_put (cs := #[.slice Ao95 y256.length co95, .slice none 0 0, .int .i64 0]) ?_ 1 _ rfl; (with_reducible repeat (first | refine blk_drewN ?_ _ | refine blk_drew ?_ | refine blk_alloc ?_ _)); refine blk_put (cs := #[.slice none 0 0, .slice none 0 0, .int .i64 0]) ?_ 0 _ rfl; (with_reducible repeat (first | refine blk_drewN ?_ _ | refine blk_drew ?_ | refine blk_alloc ?_ _)); exact BK244.out) Try.underlying30 rfl (by kernel_rfl)) rfl ?_
              exact ⟨_, _, _, by first | rfl | (simp [errW_none, errW_some] <;> rfl) | (simp [*, errW_none, errW_some] <;> rfl), by (with_reducible repeat (first | apply Kd.R_alloc | apply Kd.R_drewN | apply Kd.R_drew)); exact Kd.R_mono (Kd.R_far (p := ⟨gb244, 2, none⟩) (Kd.R_far (p := ⟨gb244, 1, none⟩) (Kd.R_far (p := ⟨gb244, 0, none⟩) (Kd.R_types HO_253000.out BK244.out (by decide)) (fun _ hk => hk.2) (.slice Ao95 y256.length co95)) (fun _ hk => hk.2) (.slice Ao21 t248.length co21)) (fun _ hk => hk.2) (.int .i64 t251)) (fun _ hk => hk.1.1), by (with_reducible repeat (first | apply Kd.R_alloc | apply Kd.R_drewN | apply Kd.R_drew)); exact Kd.R_mono (Kd.R_far (p := ⟨gb244, 2, none⟩) (Kd.R_far (p := ⟨gb244, 1, none⟩) (Kd.R_far (p := ⟨gb244, 0, none⟩) (Kd.R_types HO_253001.out BK244.out (by decide)) (fun _ hk => hk.2) (.slice Ao95 y256.length co95)) (fun _ hk => hk.2) (.slice Ao21 t248.length co21)) (fun _ hk => hk.2) (.int .i64 t251)) (fun _ hk => hk.1.1), by (with_reducible repeat (first | apply Kd.R_alloc | apply Kd.R_drewN | apply Kd.R_drew)); exact Kd.R_mono (Kd.R_far (p := ⟨gb244, 2, none⟩) (Kd.R_far (p := ⟨gb244, 1, none⟩) (Kd.R_far (p := ⟨gb244, 0, none⟩) (Kd.R_types HO_14.out BK244.out (by decide)) (fun _ hk => hk.2) (.slice Ao95 y256.length co95)) (fun _ hk => hk.2) (.slice Ao21 t248.length co21)) (fun _ hk => hk.2) (.int .i64 t251)) (fun _ hk => trivial), by repeat (first | (with_reducible first | exact HB.out | apply below_alloc | apply pw_below_drewN | apply below_drew1 | refine below_set ?_ GE242.out | refine below_set ?_ GE243.out | refine below_set ?_ GE244.out | refine below_set ?_ GE252.out) | exact HB.out)⟩
            rw [if_pos c99] at H
            have c99b0 : decide (x66_2 < (l0_1.length : Int)) = true := decide_eq_true c99
            clear c99
            by_cases c100 : 0 ≤ x66_2
            rotate_left
            · rw [if_neg c100] at H
              exact absurd H (by simp)
            rw [if_pos c100] at H
            have c100b0 : decide (0 ≤ x66_2) = true := decide_eq_true c100
            clear c100
            by_cases c101 : x66_2 < (l0_1.length : Int)
            rotate_left
            · rw [if_neg c101] at H
              exact absurd H (by simp)
            rw [if_pos c101] at H
            have c101b0 : decide (x66_2 < (l0_1.length : Int)) = true := decide_eq_true c101
            clear c101
            replace H := Option.bind_eq_some_iff.mp H
            obtain ⟨t264, A1020, H⟩ := H
            (try dsimp only at H)
            have A102 := Aside0.mk A1020
            clear A1020
            by_cases c103 : t264 = true
            rotate_left
            · replace c103 := Bool.eq_false_iff.mpr c103
              subst c103
              have H1 : (impl_AddJoin.l0 k2 a1 true x14_2 l0_1 (l0_1.length : Int) (wrap64 (x66_2 + 1)) a3_0 a3_1 a3_2 a3_3 y256 t248 t251) = some (r1, r2, r3, r4, r5) := by rw [if_neg (show ¬ (false = true) by decide)] at H; exact H
              clear H
              have H := H1
              clear H1
              have H' := Aside0.mk H
              clear H
              have p262 : 0 ≤ (x66_2 : Int) := of_decide_eq_true (by first | (with_reducible assumption) | assumption)
              have q262 : x66_2 < (l0_1.length : Int) := of_decide_eq_true (by first | (with_reducible assumption) | assumption)
              obtain ⟨ad262, e262, hx262_0, hx262_1, hx262_2, hx262_3⟩ := at_T35 HR0_1.out x66_2 p262 q262
              cases e262
              replace hx262_0 := (HB.out.cell (World.block_lt_of_cell? w _ hx262_0)).trans hx262_0
              replace hx262_1 := (HB.out.cell (World.block_lt_of_cell? w _ hx262_1)).trans hx262_1
              replace hx262_2 := (HB.out.cell (World.block_lt_of_cell? w _ hx262_2)).trans hx262_2
              replace hx262_3 := (HB.out.cell (World.block_lt_of_cell? w _ hx262_3)).trans hx262_3
              replace p262 := eq_true p262
              replace q262 := eq_true q262
              go_wp2_with (first | ((with_reducible refine gate_dst (N := 16) rfl ?_); refine box_event ?hg (N := 16) ?hd (cs := #[.int .i64 0, .int .i64 0, .int .i64 0, .int .i64 0]) (t := 35) ?hr ?_; (case hd => rfl); (case hg => rfl); (case hr => first | (go_simp; done) | (go_simp; rfl)); intro gb263 hg w139 hbox hb; replace HO_14 := am (Kd.R_below (rq HO_14.out) hb); replace HO_253000 := am (Kd.R_below (Kd.R_elderB (rq HO_253000.out) gb263 (Nat.le_of_eq hg.symm)) hb); replace HO_253001 := am (Kd.R_below (Kd.R_elderB (rq HO_253001.out) gb263 (Nat.le_of_eq hg.symm)) hb); have BK263 := am (hbox); have GW263 := am ((by rw [hg]; exact (below_size bel) : w.heap.size ≤ gb263)); have GE263 := am ((by rw [hg]; exact (below_size bel) : w.heap.size ≤ gb263)); replace HB := am (below_step bel hb); have NB242_263 := am ((by rw [hg]; exact Nat.ne_of_lt (blk_lt (blkq BK242.out)) : gb242 ≠ gb263)); have NB263_242 := am ((by rw [hg]; exact Nat.ne_of_gt (blk_lt (blkq BK242.out)) : gb263 ≠ gb242)); replace BK242 := am (blk_below (blkq BK242.out) hb); have NB243_263 := am ((by rw [hg]; exact Nat.ne_of_lt (blk_lt (blkq BK243.out)) : gb243 ≠ gb263)); have NB263_243 := am ((by rw [hg]; exact Nat.ne_of_gt (blk_lt (blkq BK243.out)) : gb263 ≠ gb243)); replace BK243 := am (blk_below (blkq BK243.out) hb); have NB244_263 := am ((by rw [hg]; exact Nat.ne_of_lt (blk_lt (blkq BK244.out)) : gb244 ≠ gb263)); have NB263_244 := am ((by rw [hg]; exact Nat.ne_of_gt (blk_lt (blkq BK244.out)) : gb263 ≠ gb244)); replace BK244 := am (blk_below (blkq BK244.out) hb); have NB252_263 := am ((by rw [hg]; exact Nat.ne_of_lt (blk_lt (blkq BK252.out)) : gb252 ≠ gb263)); have NB263_252 := am ((by rw [hg]; exact Nat.ne_of_gt (blk_lt (blkq BK252.out)) : gb263 ≠ gb252)); replace BK252 := am (blk_below (blkq BK252.out) hb); clear hb hbox hg; have hnb140 := NB263_242.out; have hnc140 := NB242_263.out; have hnb141 := NB263_243.out; have hnc141 := NB243_263.out; have hnb142 := NB263_244.out; have hnc142 := NB244_263.out; have hnb143 := NB263_252.out; have hnc143 := NB252_263.out; obtain ⟨hcz144_0, hcz144_1, hcz144_2, hcz144_3, hfz144_0, hfz144_1, hfz144_2, hfz144_3⟩ := blkc4 BK263.out; have hnb145 := NB243_242.out; have hnc145 := NB242_243.out; have hnb146 := NB243_244.out; have hnc146 := NB244_243.out; have hnb147 := NB243_252.out; have hnc147 := NB252_243.out; obtain ⟨hcz148_0, hcz148_1, hcz148_2, hcz148_3, hfz148_0, hfz148_1, hfz148_2, hfz148_3⟩ := blkc4 BK243.out) | ((with_reducible refine gate_callee (f := 53) rfl ?_); refine goesL1 80 Try.func53 #[.agg #[.int .i64 a3_0, .int .i64 a3_1, .int .i64 a3_2, .int .i64 a3_3], .agg #[.int .i64 ((rd_T35 l0_1 x66_2).f0), .int .i64 ((rd_T35 l0_1 x66_2).f1), .int .i64 ((rd_T35 l0_1 x66_2).f2), .int .i64 ((rd_T35 l0_1 x66_2).f3)], .int .i64 a1] ?_; (with_reducible refine (impl_meet.calls a3_0 a3_1 a3_2 a3_3 ((rd_T35 l0_1 x66_2).f0) ((rd_T35 l0_1 x66_2).f1) ((rd_T35 l0_1 x66_2).f2) ((rd_T35 l0_1 x66_2).f3) a1 false _ A102.out).mono ?_); rintro e w149 ⟨rfl, hb⟩; refine ⟨_, rfl, ?_⟩; replace HO_14 := am (Kd.R_below (by (with_reducible repeat (first | apply Kd.R_alloc | apply Kd.R_drewN | apply Kd.R_drew)); exact (Kd.R_mono (Kd.R_far (p := ⟨gb263, 3, none⟩) (Kd.R_far (p := ⟨gb263, 2, none⟩) (Kd.R_far (p := ⟨gb263, 1, none⟩) (Kd.R_far (p := ⟨gb263, 0, none⟩) (Kd.R_types HO_14.out BK263.out (by decide)) (fun _ hk => hk.2) (.int .i64 ((rd_T35 l0_1 x66_2).f0))) (fun _ hk => hk.2) (.int .i64 ((rd_T35 l0_1 x66_2).f1))) (fun _ hk => hk.2) (.int .i64 ((rd_T35 l0_1 x66_2).f2))) (fun _ hk => hk.2) (.int .i64 ((rd_T35 l0_1 x66_2).f3))) (fun _ h_ => h_.1))) hb); replace HO_253000 := am (Kd.R_below (by (with_reducible repeat (first | apply Kd.R_alloc | apply Kd.R_drewN | apply Kd.R_drew)); exact (Kd.R_mono (Kd.R_far (p := ⟨gb263, 3, none⟩) (Kd.R_far (p := ⟨gb263, 2, none⟩) (Kd.R_far (p := ⟨gb263, 1, none⟩) (Kd.R_far (p := ⟨gb263, 0, none⟩) (Kd.R_mono HO_253000.out (fun k_ hk => (⟨hk, hk.2⟩ : _ ∧ k_ ≠ gb263))) (fun _ hk => hk.2) (.int .i64 ((rd_T35 l0_1 x66_2).f0))) (fun _ hk => hk.2) (.int .i64 ((rd_T35 l0_1 x66_2).f1))) (fun _ hk => hk.2) (.int .i64 ((rd_T35 l0_1 x66_2).f2))) (fun _ hk => hk.2) (.int .i64 ((rd_T35 l0_1 x66_2).f3))) (fun _ h_ => h_.1))) hb); replace HO_253001 := am (Kd.R_below (by (with_reducible repeat (first | apply Kd.R_alloc | apply Kd.R_drewN | apply Kd.R_drew)); exact (Kd.R_mono (Kd.R_far (p := ⟨gb263, 3, none⟩) (Kd.R_far (p := ⟨gb263, 2, none⟩) (Kd.R_far (p := ⟨gb263, 1, none⟩) (Kd.R_far (p := ⟨gb263, 0, none⟩) (Kd.R_mono HO_253001.out (fun k_ hk => (⟨hk, hk.2⟩ : _ ∧ k_ ≠ gb263))) (fun _ hk => hk.2) (.int .i64 ((rd_T35 l0_1 x66_2).f0))) (fun _ hk => hk.2) (.int .i64 ((rd_T35 l0_1 x66_2).f1))) (fun _ hk => hk.2) (.int .i64 ((rd_T35 l0_1 x66_2).f2))) (fun _ hk => hk.2) (.int .i64 ((rd_T35 l0_1 x66_2).f3))) (fun _ h_ => h_.1))) hb); replace BK242 := am (blk_below (g := gb242) (o := .cells #[.slice A0_0 l0_0.length c0_0, .slice (some ad262) l0_1.length c0_1, .int .i64 a0_2] 30 (0, 0)) (by (with_reducible repeat (first | refine blk_drewN ?_ _ | refine blk_drew ?_ | refine blk_alloc ?_ _)); refine blk_far ?_ NB242_263.out _; (with_reducible repeat (first | refine blk_drewN ?_ _ | refine blk_drew ?_ | refine blk_alloc ?_ _)); refine blk_far ?_ NB242_263.out _; (with_reducible repeat (first | refine blk_drewN ?_ _ | refine blk_drew ?_ | refine blk_alloc ?_ _)); refine blk_far ?_ NB242_263.out _; (with_reducible repeat (first | refine blk_drewN ?_ _ | refine blk_drew ?_ | refine blk_alloc ?_ _)); refine blk_far ?_ NB242_263.out _; (with_reducible repeat (first | refine blk_drewN ?_ _ | refine blk_drew ?_ | refine blk_alloc ?_ _)); exact BK242.out) hb); replace BK243 := am (blk_below (g := gb243) (o := .cells #[.int .i64 a3_0, .int .i64 a3_1, .int .i64 a3_2, .int .i64 a3_3] 35 (0, 0)) (by (with_reducible repeat (first | refine blk_drewN ?_ _ | refine blk_drew ?_ | refine blk_alloc ?_ _)); refine blk_far ?_ NB243_263.out _; (with_reducible repeat (first | refine blk_drewN ?_ _ | refine blk_drew ?_ | refine blk_alloc ?_ _)); refine blk_far ?_ NB243_263.out _; (with_reducible repeat (first | refine blk_drewN ?_ _ | refine blk_drew ?_ | refine blk_alloc ?_ _)); refine blk_far ?_ NB243_263.out _; (with_reducible repeat (first | refine blk_drewN ?_ _ | refine blk_drew ?_ | refine blk_alloc ?_ _)); refine blk_far ?_ NB243_263.out _; (with_reducible repeat (first | refine blk_drewN ?_ _ | refine blk_drew ?_ | refine blk_alloc ?_ _)); exact BK243.out) hb); replace BK244 := am (blk_below (g := gb244) (o := .cells #[.slice none 0 0, .slice none 0 0, .int .i64 0] 30 (0, 0)) (by (with_reducible repeat (first | refine blk_drewN ?_ _ | refine blk_drew ?_ | refine blk_alloc ?_ _)); refine blk_far ?_ NB244_263.out _; (with_reducible repeat (first | refine blk_drewN ?_ _ | refine blk_drew ?_ | refine blk_alloc ?_ _)); refine blk_far ?_ NB244_263.out _; (with_reducible repeat (first | refine blk_drewN ?_ _ | refine blk_drew ?_ | refine blk_alloc ?_ _)); refine blk_far ?_ NB244_263.out _; (with_reducible repeat (first | refine blk_drewN ?_ _ | refine blk_drew ?_ | refine blk_alloc ?_ _)); refine blk_far ?_ NB244_263.out _; (with_reducible repeat (first | refine blk_drewN ?_ _ | refine blk_drew ?_ | refine blk_alloc ?_ _)); exact BK244.out) hb); replace BK252 := am (blk_below (g := gb252) (o := .cells #[.slice Ao95 y256.length co95, .slice Ao21 t248.length co21, .int .i64 t251] 30 (0, 0)) (by (with_reducible repeat (first | refine blk_drewN ?_ _ | refine blk_drew ?_ | refine blk_alloc ?_ _)); refine blk_far ?_ NB252_263.out _; (with_reducible repeat (first | refine blk_drewN ?_ _ | refine blk_drew ?_ | refine blk_alloc ?_ _)); refine blk_far ?_ NB252_263.out _; (with_reducible repeat (first | refine blk_drewN ?_ _ | refine blk_drew ?_ | refine blk_alloc ?_ _)); refine blk_far ?_ NB252_263.out _; (with_reducible repeat (first | refine blk_drewN ?_ _ | refine blk_drew ?_ | refine blk_alloc ?_ _)); refine blk_far ?_ NB252_263.out _; (with_reducible repeat (first | refine blk_drewN ?_ _ | refine blk_drew ?_ | refine blk_alloc ?_ _)); exact BK252.out) hb); replace BK263 := am (blk_below (g := gb263) (o := .cells #[.int .i64 ((rd_T35 l0_1 x66_2).f0), .int .i64 ((rd_T35 l0_1 x66_2).f1), .int .i64 ((rd_T35 l0_1 x66_2).f2), .int .i64 ((rd_T35 l0_1 x66_2).f3)] 35 (0, 0)) (by (with_reducible repeat (first | refine blk_drewN ?_ _ | refine blk_drew ?_ | refine blk_alloc ?_ _)); refine blk_put (cs := #[.int .i64 ((rd_T35 l0_1 x66_2).f0), .int .i64 ((rd_T35 l0_1 x66_2).f1), .int .i64 ((rd_T35 l0_1 x66_2).f2), .int .i64 0]) ?_ 3 _ rfl; (with_reducible repeat (first | refine blk_drewN ?_ _ | refine blk_drew ?_ | refine blk_alloc ?_ _)); refine blk_put (cs := #[.int .i64 ((rd_T35 l0_1 x66_2).f0), .int .i64 ((rd_T35 l0_1 x66_2).f1), .int .i64 0, .int .i64 0]) ?_ 2 _ rfl; (with_reducible repeat (first | refine blk_drewN ?_ _ | refine blk_drew ?_ | refine blk_alloc ?_ _)); refine blk_put (cs := #[.int .i64 ((rd_T35 l0_1 x66_2).f0), .int .i64 0, .int .i64 0, .int .i64 0]) ?_ 1 _ rfl; (with_reducible repeat (first | refine blk_drewN ?_ _ | refine blk_drew ?_ | refine blk_alloc ?_ _)); refine blk_put (cs := #[.int .i64 0, .int .i64 0, .int .i64 0, .int .i64 0]) ?_ 0 _ rfl; (with_reducible repeat (first | refine blk_drewN ?_ _ | refine blk_drew ?_ | refine blk_alloc ?_ _)); exact BK263.out) hb); replace HB := am (below_step bel hb); (try clear hb)))
              go_roundg k2
              case measure => have := HJ6.out; have := HK2.out; omega
              case rel => exact ⟨(x14_2), (wrap64 (x66_2 + 1)), (by first | rfl | (simp; done) | (simp [*]; done)), H', ⟨by have := HJ6.out; have := HK2.out; omega⟩, ⟨by (with_reducible repeat (first | apply Kd.R_alloc | apply Kd.R_drewN | apply Kd.R_drew)); exact HO_14.out⟩, ⟨by (with_reducible repeat (first | apply Kd.R_alloc | apply Kd.R_drewN | apply Kd.R_drew)); exact Kd.R_mono HO_253000.out (fun _ hk => ⟨hk.1.1, hk.1.2⟩)⟩, ⟨by (with_reducible repeat (first | apply Kd.R_alloc | apply Kd.R_drewN | apply Kd.R_drew)); exact Kd.R_mono HO_253001.out (fun _ hk => ⟨hk.1.1, hk.1.2⟩)⟩, ⟨by (with_reducible repeat (first | refine blk_drewN ?_ _ | refine blk_drew ?_ | refine blk_alloc ?_ _)); exact BK242.out⟩, ⟨by (with_reducible repeat (first | refine blk_drewN ?_ _ | refine blk_drew ?_ | refine blk_alloc ?_ _)); exact BK243.out⟩, ⟨by (with_reducible repeat (first | refine blk_drewN ?_ _ | refine blk_drew ?_ | refine blk_alloc ?_ _)); exact BK244.out⟩, ⟨by (with_reducible repeat (first | refine blk_drewN ?_ _ | refine blk_drew ?_ | refine blk_alloc ?_ _)); exact BK252.out⟩, ⟨by repeat (first | (with_reducible first | exact HB.out | apply below_alloc | apply pw_below_drewN | apply below_drew1 | refine below_set ?_ GE242.out | refine below_set ?_ GE243.out | refine below_set ?_ GE244.out | refine below_set ?_ GE252.out | refine below_set ?_ GE263.out) | exact HB.out)⟩⟩
            subst c103
            have H1 : (if true = true then ((impl_pairOf.f a3_0 a3_1 a3_2 a3_3 ((rd_T35 l0_1 x66_2).f0) ((rd_T35 l0_1 x66_2).f1) ((rd_T35 l0_1 x66_2).f2) ((rd_T35 l0_1 x66_2).f3)).bind fun bt265 => (if x14_2.length < 3518437208883 then (impl_AddJoin.l0 k2 a1 true (x14_2 ++ [(⟨bt265.1, bt265.2.1, bt265.2.2.1, bt265.2.2.2.1, bt265.2.2.2.2⟩ : S75)]) l0_1 (l0_1.length : Int) (wrap64 (x66_2 + 1)) a3_0 a3_1 a3_2 a3_3 y256 t248 t251) else (none))) else ((impl_pairOf.f ((rd_T35 l0_1 x66_2).f0) ((rd_T35 l0_1 x66_2).f1) ((rd_T35 l0_1 x66_2).f2) ((rd_T35 l0_1 x66_2).f3) a3_0 a3_1 a3_2 a3_3).bind fun bt273 => (if x14_2.length < 3518437208883 then (impl_AddJoin.l0 k2 a1 true (x14_2 ++ [(⟨bt273.1, bt273.2.1, bt273.2.2.1, bt273.2.2.2.1, bt273.2.2.2.2⟩ : S75)]) l0_1 (l0_1.length : Int) (wrap64 (x66_2 + 1)) a3_0 a3_1 a3_2 a3_3 y256 t248 t251) else (none)))) = some (r1, r2, r3, r4, r5) := by rw [if_pos rfl] at H; exact H
            clear H
            have H := H1
            clear H1
            by_cases c104 : true = true
            rotate_left
            · exact absurd rfl c104
            clear c104
            have H1 : ((impl_pairOf.f a3_0 a3_1 a3_2 a3_3 ((rd_T35 l0_1 x66_2).f0) ((rd_T35 l0_1 x66_2).f1) ((rd_T35 l0_1 x66_2).f2) ((rd_T35 l0_1 x66_2).f3)).bind fun bt265 => (if x14_2.length < 3518437208883 then (impl_AddJoin.l0 k2 a1 true (x14_2 ++ [(⟨bt265.1, bt265.2.1, bt265.2.2.1, bt265.2.2.2.1, bt265.2.2.2.2⟩ : S75)]) l0_1 (l0_1.length : Int) (wrap64 (x66_2 + 1)) a3_0 a3_1 a3_2 a3_3 y256 t248 t251) else (none))) = some (r1, r2, r3, r4, r5) := by rw [if_pos rfl] at H; exact H
            clear H
            have H := H1
            clear H1
            replace H := Option.bind_eq_some_iff.mp H
            obtain ⟨⟨t265, t266, t267, t268, t269⟩, A1050, H⟩ := H
            (try dsimp only at H)
            have A105 := Aside0.mk A1050
            clear A1050
            by_cases c106 : x14_2.length < 3518437208883
            rotate_left
            · rw [if_neg c106] at H
              exact absurd H (by simp)
            rw [if_pos c106] at H
            have LMc106 := Aside0.mk c106
            clear c106
            obtain ⟨y270, hy270⟩ : ∃ y_ : List (S75), y_ = (x14_2 ++ [(⟨t265, t266, t267, t268, t269⟩ : S75)]) := ⟨_, rfl⟩
            replace H : (impl_AddJoin.l0 k2 a1 true y270 l0_1 (l0_1.length : Int) (wrap64 (x66_2 + 1)) a3_0 a3_1 a3_2 a3_3 y256 t248 t251) = some (r1, r2, r3, r4, r5) := by first | (rw [hy270]; with_reducible exact H) | (have H2_ := (Option.bind_some _ _).symm.trans H; rw [hy270]; with_reducible exact H2_) | (have H2_ := (Option.bind_some _ _).symm.trans H; with_reducible exact H2_) | with_reducible exact H | (rw [hy270]; exact H) | exact H
            have Ny270 := Aside0.mk hy270
            clear hy270
            have H' := Aside0.mk H
            clear H
            have p262 : 0 ≤ (x66_2 : Int) := of_decide_eq_true (by first | (with_reducible assumption) | assumption)
            have q262 : x66_2 < (l0_1.length : Int) := of_decide_eq_true (by first | (with_reducible assumption) | assumption)
            obtain ⟨ad262, e262, hx262_0, hx262_1, hx262_2, hx262_3⟩ := at_T35 HR0_1.out x66_2 p262 q262
            cases e262
            replace hx262_0 := (HB.out.cell (World.block_lt_of_cell? w _ hx262_0)).trans hx262_0
            replace hx262_1 := (HB.out.cell (World.block_lt_of_cell? w _ hx262_1)).trans hx262_1
            replace hx262_2 := (HB.out.cell (World.block_lt_of_cell? w _ hx262_2)).trans hx262_2
            replace hx262_3 := (HB.out.cell (World.block_lt_of_cell? w _ hx262_3)).trans hx262_3
            replace p262 := eq_true p262
            replace q262 := eq_true q262
            go_wp2_with (first | ((with_reducible refine gate_dst (N := 16) rfl ?_); refine box_event ?hg (N := 16) ?hd (cs := #[.int .i64 0, .int .i64 0, .int .i64 0, .int .i64 0]) (t := 35) ?hr ?_; (case hd => rfl); (case hg => rfl); (case hr => first | (go_simp; done) | (go_simp; rfl)); intro gb263 hg w107 hbox hb; replace HO_14 := am (Kd.R_below (rq HO_14.out) hb); replace HO_253000 := am (Kd.R_below (Kd.R_elderB (rq HO_253000.out) gb263 (Nat.le_of_eq hg.symm)) hb); replace HO_253001 := am (Kd.R_below (Kd.R_elderB (rq HO_253001.out) gb263 (Nat.le_of_eq hg.symm)) hb); have BK263 := am (hbox); have GW263 := am ((by rw [hg]; exact (below_size bel) : w.heap.size ≤ gb263)); have GE263 := am ((by rw [hg]; exact (below_size bel) : w.heap.size ≤ gb263)); replace HB := am (below_step bel hb); have NB242_263 := am ((by rw [hg]; exact Nat.ne_of_lt (blk_lt (blkq BK242.out)) : gb242 ≠ gb263)); have NB263_242 := am ((by rw [hg]; exact Nat.ne_of_gt (blk_lt (blkq BK242.out)) : gb263 ≠ gb242)); replace BK242 := am (blk_below (blkq BK242.out) hb); have NB243_263 := am ((by rw [hg]; exact Nat.ne_of_lt (blk_lt (blkq BK243.out)) : gb243 ≠ gb263)); have NB263_243 := am ((by rw [hg]; exact Nat.ne_of_gt (blk_lt (blkq BK243.out)) : gb263 ≠ gb243)); replace BK243 := am (blk_below (blkq BK243.out) hb); have NB244_263 := am ((by rw [hg]; exact Nat.ne_of_lt (blk_lt (blkq BK244.out)) : gb244 ≠ gb263)); have NB263_244 := am ((by rw [hg]; exact Nat.ne_of_gt (blk_lt (blkq BK244.out)) : gb263 ≠ gb244)); replace BK244 := am (blk_below (blkq BK244.out) hb); have NB252_263 := am ((by rw [hg]; exact Nat.ne_of_lt (blk_lt (blkq BK252.out)) : gb252 ≠ gb263)); have NB263_252 := am ((by rw [hg]; exact Nat.ne_of_gt (blk_lt (blkq BK252.out)) : gb263 ≠ gb252)); replace BK252 := am (blk_below (blkq BK252.out) hb); clear hb hbox hg; have hnb108 := NB263_242.out; have hnc108 := NB242_263.out; have hnb109 := NB263_243.out; have hnc109 := NB243_263.out; have hnb110 := NB263_244.out; have hnc110 := NB244_263.out; have hnb111 := NB263_252.out; have hnc111 := NB252_263.out; obtain ⟨hcz112_0, hcz112_1, hcz112_2, hcz112_3, hfz112_0, hfz112_1, hfz112_2, hfz112_3⟩ := blkc4 BK263.out; have hnb113 := NB243_242.out; have hnc113 := NB242_243.out; have hnb114 := NB243_244.out; have hnc114 := NB244_243.out; have hnb115 := NB243_252.out; have hnc115 := NB252_243.out; obtain ⟨hcz116_0, hcz116_1, hcz116_2, hcz116_3, hfz116_0, hfz116_1, hfz116_2, hfz116_3⟩ := blkc4 BK243.out) | ((with_reducible refine gate_callee (f := 53) rfl ?_); refine goesL1 80 Try.func53 #[.agg #[.int .i64 a3_0, .int .i64 a3_1, .int .i64 a3_2, .int .i64 a3_3], .agg #[.int .i64 ((rd_T35 l0_1 x66_2).f0), .int .i64 ((rd_T35 l0_1 x66_2).f1), .int .i64 ((rd_T35 l0_1 x66_2).f2), .int .i64 ((rd_T35 l0_1 x66_2).f3)], .int .i64 a1] ?_; (with_reducible refine (impl_meet.calls a3_0 a3_1 a3_2 a3_3 ((rd_T35 l0_1 x66_2).f0) ((rd_T35 l0_1 x66_2).f1) ((rd_T35 l0_1 x66_2).f2) ((rd_T35 l0_1 x66_2).f3) a1 true _ A102.out).mono ?_); rintro e w117 ⟨rfl, hb⟩; refine ⟨_, rfl, ?_⟩; replace HO_14 := am (Kd.R_below (by (with_reducible repeat (first | apply Kd.R_alloc | apply Kd.R_drewN | apply Kd.R_drew)); exact (Kd.R_mono (Kd.R_far (p := ⟨gb263, 3, none⟩) (Kd.R_far (p := ⟨gb263, 2, none⟩) (Kd.R_far (p := ⟨gb263, 1, none⟩) (Kd.R_far (p := ⟨gb263, 0, none⟩) (Kd.R_types HO_14.out BK263.out (by decide)) (fun _ hk => hk.2) (.int .i64 ((rd_T35 l0_1 x66_2).f0))) (fun _ hk => hk.2) (.int .i64 ((rd_T35 l0_1 x66_2).f1))) (fun _ hk => hk.2) (.int .i64 ((rd_T35 l0_1 x66_2).f2))) (fun _ hk => hk.2) (.int .i64 ((rd_T35 l0_1 x66_2).f3))) (fun _ h_ => h_.1))) hb); replace HO_253000 := am (Kd.R_below (by (with_reducible repeat (first | apply Kd.R_alloc | apply Kd.R_drewN | apply Kd.R_drew)); exact (Kd.R_mono (Kd.R_far (p := ⟨gb263, 3, none⟩) (Kd.R_far (p := ⟨gb263, 2, none⟩) (Kd.R_far (p := ⟨gb263, 1, none⟩) (Kd.R_far (p := ⟨gb263, 0, none⟩) (Kd.R_mono HO_253000.out (fun k_ hk => (⟨hk, hk.2⟩ : _ ∧ k_ ≠ gb263))) (fun _ hk => hk.2) (.int .i64 ((rd_T35 l0_1 x66_2).f0))) (fun _ hk => hk.2) (.int .i64 ((rd_T35 l0_1 x66_2).f1))) (fun _ hk => hk.2) (.int .i64 ((rd_T35 l0_1 x66_2).f2))) (fun _ hk => hk.2) (.int .i64 ((rd_T35 l0_1 x66_2).f3))) (fun _ h_ => h_.1))) hb); replace HO_253001 := am (Kd.R_below (by (with_reducible repeat (first | apply Kd.R_alloc | apply Kd.R_drewN | apply Kd.R_drew)); exact (Kd.R_mono (Kd.R_far (p := ⟨gb263, 3, none⟩) (Kd.R_far (p := ⟨gb263, 2, none⟩) (Kd.R_far (p := ⟨gb263, 1, none⟩) (Kd.R_far (p := ⟨gb263, 0, none⟩) (Kd.R_mono HO_253001.out (fun k_ hk => (⟨hk, hk.2⟩ : _ ∧ k_ ≠ gb263))) (fun _ hk => hk.2) (.int .i64 ((rd_T35 l0_1 x66_2).f0))) (fun _ hk => hk.2) (.int .i64 ((rd_T35 l0_1 x66_2).f1))) (fun _ hk => hk.2) (.int .i64 ((rd_T35 l0_1 x66_2).f2))) (fun _ hk => hk.2) (.int .i64 ((rd_T35 l0_1 x66_2).f3))) (fun _ h_ => h_.1))) hb); replace BK242 := am (blk_below (g := gb242) (o := .cells #[.slice A0_0 l0_0.length c0_0, .slice (some ad262) l0_1.length c0_1, .int .i64 a0_2] 30 (0, 0)) (by (with_reducible repeat (first | refine blk_drewN ?_ _ | refine blk_drew ?_ | refine blk_alloc ?_ _)); refine blk_far ?_ NB242_263.out _; (with_reducible repeat (first | refine blk_drewN ?_ _ | refine blk_drew ?_ | refine blk_alloc ?_ _)); refine blk_far ?_ NB242_263.out _; (with_reducible repeat (first | refine blk_drewN ?_ _ | refine blk_drew ?_ | refine blk_alloc ?_ _)); refine blk_far ?_ NB242_263.out _; (with_reducible repeat (first | refine blk_drewN ?_ _ | refine blk_drew ?_ | refine blk_alloc ?_ _)); refine blk_far ?_ NB242_263.out _; (with_reducible repeat (first | refine blk_drewN ?_ _ | refine blk_drew ?_ | refine blk_alloc ?_ _)); exact BK242.out) hb); replace BK243 := am (blk_below (g := gb243) (o := .cells #[.int .i64 a3_0, .int .i64 a3_1, .int .i64 a3_2, .int .i64 a3_3] 35 (0, 0)) (by (with_reducible repeat (first | refine blk_drewN ?_ _ | refine blk_drew ?_ | refine blk_alloc ?_ _)); refine blk_far ?_ NB243_263.out _; (with_reducible repeat (first | refine blk_drewN ?_ _ | refine blk_drew ?_ | refine blk_alloc ?_ _)); refine blk_far ?_ NB243_263.out _; (with_reducible repeat (first | refine blk_drewN ?_ _ | refine blk_drew ?_ | refine blk_alloc ?_ _)); refine blk_far ?_ NB243_263.out _; (with_reducible repeat (first | refine blk_drewN ?_ _ | refine blk_drew ?_ | refine blk_alloc ?_ _)); refine blk_far ?_ NB243_263.out _; (with_reducible repeat (first | refine blk_drewN ?_ _ | refine blk_drew ?_ | refine blk_alloc ?_ _)); exact BK243.out) hb); replace BK244 := am (blk_below (g := gb244) (o := .cells #[.slice none 0 0, .slice none 0 0, .int .i64 0] 30 (0, 0)) (by (with_reducible repeat (first | refine blk_drewN ?_ _ | refine blk_drew ?_ | refine blk_alloc ?_ _)); refine blk_far ?_ NB244_263.out _; (with_reducible repeat (first | refine blk_drewN ?_ _ | refine blk_drew ?_ | refine blk_alloc ?_ _)); refine blk_far ?_ NB244_263.out _; (with_reducible repeat (first | refine blk_drewN ?_ _ | refine blk_drew ?_ | refine blk_alloc ?_ _)); refine blk_far ?_ NB244_263.out _; (with_reducible repeat (first | refine blk_drewN ?_ _ | refine blk_drew ?_ | refine blk_alloc ?_ _)); refine blk_far ?_ NB244_263.out _; (with_reducible repeat (first | refine blk_drewN ?_ _ | refine blk_drew ?_ | refine blk_alloc ?_ _)); exact BK244.out) hb); replace BK252 := am (blk_below (g := gb252) (o := .cells #[.slice Ao95 y256.length co95, .slice Ao21 t248.length co21, .int .i64 t251] 30 (0, 0)) (by (with_reducible repeat (first | refine blk_drewN ?_ _ | refine blk_drew ?_ | refine blk_alloc ?_ _)); refine blk_far ?_ NB252_263.out _; (with_reducible repeat (first | refine blk_drewN ?_ _ | refine blk_drew ?_ | refine blk_alloc ?_ _)); refine blk_far ?_ NB252_263.out _; (with_reducible repeat (first | refine blk_drewN ?_ _ | refine blk_drew ?_ | refine blk_alloc ?_ _)); refine blk_far ?_ NB252_263.out _; (with_reducible repeat (first | refine blk_drewN ?_ _ | refine blk_drew ?_ | refine blk_alloc ?_ _)); refine blk_far ?_ NB252_263.out _; (with_reducible repeat (first | refine blk_drewN ?_ _ | refine blk_drew ?_ | refine blk_alloc ?_ _)); exact BK252.out) hb); replace BK263 := am (blk_below (g := gb263) (o := .cells #[.int .i64 ((rd_T35 l0_1 x66_2).f0), .int .i64 ((rd_T35 l0_1 x66_2).f1), .int .i64 ((rd_T35 l0_1 x66_2).f2), .int .i64 ((rd_T35 l0_1 x66_2).f3)] 35 (0, 0)) (by (with_reducible repeat (first | refine blk_drewN ?_ _ | refine blk_drew ?_ | refine blk_alloc ?_ _)); refine blk_put (cs := #[.int .i64 ((rd_T35 l0_1 x66_2).f0), .int .i64 ((rd_T35 l0_1 x66_2).f1), .int .i64 ((rd_T35 l0_1 x66_2).f2), .int .i64 0]) ?_ 3 _ rfl; (with_reducible repeat (first | refine blk_drewN ?_ _ | refine blk_drew ?_ | refine blk_alloc ?_ _)); refine blk_put (cs := #[.int .i64 ((rd_T35 l0_1 x66_2).f0), .int .i64 ((rd_T35 l0_1 x66_2).f1), .int .i64 0, .int .i64 0]) ?_ 2 _ rfl; (with_reducible repeat (first | refine blk_drewN ?_ _ | refine blk_drew ?_ | refine blk_alloc ?_ _)); refine blk_put (cs := #[.int .i64 ((rd_T35 l0_1 x66_2).f0), .int .i64 0, .int .i64 0, .int .i64 0]) ?_ 1 _ rfl; (with_reducible repeat (first | refine blk_drewN ?_ _ | refine blk_drew ?_ | refine blk_alloc ?_ _)); refine blk_put (cs := #[.int .i64 0, .int .i64 0, .int .i64 0, .int .i64 0]) ?_ 0 _ rfl; (with_reducible repeat (first | refine blk_drewN ?_ _ | refine blk_drew ?_ | refine blk_alloc ?_ _)); exact BK263.out) hb); replace HB := am (below_step bel hb); (try clear hb); obtain ⟨hcz118_0, hcz118_1, hcz118_2, hcz118_3, hfz118_0, hfz118_1, hfz118_2, hfz118_3⟩ := blkc4 BK243.out; obtain ⟨hcz119_0, hcz119_1, hcz119_2, hcz119_3, hfz119_0, hfz119_1, hfz119_2, hfz119_3⟩ := blkc4 BK263.out) | ((with_reducible refine gate_callee (f := 54) rfl ?_); refine goesL1 87 Try.func54 #[.agg #[.int .i64 a3_0, .int .i64 a3_1, .int .i64 a3_2, .int .i64 a3_3], .agg #[.int .i64 ((rd_T35 l0_1 x66_2).f0), .int .i64 ((rd_T35 l0_1 x66_2).f1), .int .i64 ((rd_T35 l0_1 x66_2).f2), .int .i64 ((rd_T35 l0_1 x66_2).f3)]] ?_; (with_reducible refine (impl_pairOf.calls a3_0 a3_1 a3_2 a3_3 ((rd_T35 l0_1 x66_2).f0) ((rd_T35 l0_1 x66_2).f1) ((rd_T35 l0_1 x66_2).f2) ((rd_T35 l0_1 x66_2).f3) t265 t266 t267 t268 t269 _ A105.out).mono ?_); rintro e w120 ⟨rfl, hb⟩; refine ⟨_, rfl, ?_⟩; replace HO_14 := am (Kd.R_below (rq HO_14.out) hb); replace HO_253000 := am (Kd.R_below (rq HO_253000.out) hb); replace HO_253001 := am (Kd.R_below (rq HO_253001.out) hb); replace BK242 := am (blk_below (blkq BK242.out) hb); replace BK243 := am (blk_below (blkq BK243.out) hb); replace BK244 := am (blk_below (blkq BK244.out) hb); replace BK252 := am (blk_below (blkq BK252.out) hb); replace BK263 := am (blk_below (blkq BK263.out) hb); replace HB := am (below_step bel hb); (try clear hb)) | ((with_reducible refine gate_builtin (b := .append) (xs := #[.tmp 84, .tmp 88]) rfl ?_); at_builtin; refine Kd.R_append k75 (w0 := w) w.heap.size rfl (.tmp 84) (.tmp 88) 31 75 (.agg #[(.int .i64 0), (.int .i64 0), (.int .i64 0), (.int .i64 0), (.int .i64 0)]) 40 rfl Try.underlying31 info75 rfl (by decide) (by omega) u14 x14_2 (⟨t265, t266, t267, t268, t269⟩ : S75) [.int .i64 t265, .int .i64 t266, .int .i64 t267, .int .i64 t268, .int .i64 t269] (fun _ => True) (fun _ => False) rfl rfl ?aP (fun _ hk => hk.elim) ?aF ?aO ?aB ?aS ?aL ?_; (case aP => exact k75_mkM _ _ _ (⟨t265, t266, t267, t268, t269⟩ : S75)); (case aB => exact bel); (case aF => exact (fun _ _ => trivial)); (case aO => exact (rq HO_14.out)); (case aS => exact (below_size bel)); (case aL => have := LMc106.out; omega); intro v271 w121 ho hb hg hat; rw [← Ny270.out] at ho; replace HO_253000 := am (Kd.R_over' (rq HO_253000.out) (Kd.R_typed (rq HO_14.out)) (by decide) hg); replace HO_253001 := am (Kd.R_over' (rq HO_253001.out) (Kd.R_typed (rq HO_14.out)) (by decide) hg); replace BK242 := am (blk_grown (blkq BK242.out) hg (Kd.R_ne HO_14.out BK242.out (by decide))); replace BK243 := am (blk_grown (blkq BK243.out) hg (Kd.R_ne HO_14.out BK243.out (by decide))); replace BK244 := am (blk_grown (blkq BK244.out) hg (Kd.R_ne HO_14.out BK244.out (by decide))); replace BK252 := am (blk_grown (blkq BK252.out) hg (Kd.R_ne HO_14.out BK252.out (by decide))); replace BK263 := am (blk_grown (blkq BK263.out) hg (Kd.R_ne HO_14.out BK263.out (by decide))); replace HB := am (hb); have HO272 := am (ho); clear HO_14; clear ho hb hg hat))
            go_roundg k2
            case measure => have := HJ6.out; have := HK2.out; omega
            case rel => exact ⟨(y270), (wrap64 (x66_2 + 1)), (by first | rfl | (simp; done) | (simp [*]; done)), H', ⟨by have := HJ6.out; have := HK2.out; omega⟩, ⟨by (with_reducible repeat (first | apply Kd.R_alloc | apply Kd.R_drewN | apply Kd.R_drew)); exact HO272.out⟩, ⟨by (with_reducible repeat (first | apply Kd.R_alloc | apply Kd.R_drewN | apply Kd.R_drew)); exact Kd.R_mono HO_253000.out (fun _ hk => ⟨hk.1.1, hk.1.2⟩)⟩, ⟨by (with_reducible repeat (first | apply Kd.R_alloc | apply Kd.R_drewN | apply Kd.R_drew)); exact Kd.R_mono HO_253001.out (fun _ hk => ⟨hk.1.1, hk.1.2⟩)⟩, ⟨by (with_reducible repeat (first | refine blk_drewN ?_ _ | refine blk_drew ?_ | refine blk_alloc ?_ _)); exact BK242.out⟩, ⟨by (with_reducible repeat (first | refine blk_drewN ?_ _ | refine blk_drew ?_ | refine blk_alloc ?_ _)); exact BK243.out⟩, ⟨by (with_reducible repeat (first | refine blk_drewN ?_ _ | refine blk_drew ?_ | refine blk_alloc ?_ _)); exact BK244.out⟩, ⟨by (with_reducible repeat (first | refine blk_drewN ?_ _ | refine blk_drew ?_ | refine blk_alloc ?_ _)); exact BK252.out⟩, ⟨by repeat (first | (with_reducible first | exact HB.out | apply below_alloc | apply pw_below_drewN | apply below_drew1 | refine below_set ?_ GE242.out | refine below_set ?_ GE243.out | refine below_set ?_ GE244.out | refine below_set ?_ GE252.out | refine below_set ?_ GE263.out) | exact HB.out)⟩⟩
  replace c6 := Bool.eq_false_iff.mpr c6
  subst c6
  have H1 : ((impl_JoinOk.f k l0_0 l0_1 a0_2).bind fun t281 => (if t281 = true then ((impl_isEvent.f a3_0 a3_1 a3_2 a3_3).bind fun t282 => (if t282 = true then ((impl_isTime.f a1).bind fun t283 => (impl_AddJoin.j2 k a1 false l0_0 (!t283) l0_0 l0_1 a0_2 a3_0 a3_1 a3_2 a3_3 t245 t248 t251)) else (impl_AddJoin.j2 k a1 false l0_0 true l0_0 l0_1 a0_2 a3_0 a3_1 a3_2 a3_3 t245 t248 t251))) else (impl_AddJoin.j2 k a1 false l0_0 true l0_0 l0_1 a0_2 a3_0 a3_1 a3_2 a3_3 t245 t248 t251))) = some (r1, r2, r3, r4, r5) := by rw [if_neg (show ¬ (false = true) by decide)] at H; exact H
  clear H
  have H := H1
  clear H1
  have HC157 := Aside0.mk H
  clear H
  go_enter Try.func12, Try.ntmps12
  try go_wp2_with (first | ((with_reducible refine gate_dst (N := 4) rfl ?_); refine box_event ?hg (N := 4) ?hd (cs := #[.slice A0_0 l0_0.length c0_0, .slice A0_1 l0_1.length c0_1, .int .i64 a0_2]) (t := 30) ?hr ?_; (case hd => rfl); (case hg => rfl); (case hr => first | (go_simp; done) | (go_simp; rfl)); intro gb242 hg w158 hbox hb; have BK242 := am (hbox); have GW242 := am ((by rw [hg]; exact (below_size bel) : w.heap.size ≤ gb242)); have GE242 := am ((by rw [hg]; exact (below_size bel) : w.heap.size ≤ gb242)); replace HB := am (below_step bel hb); clear hb hbox hg) | ((with_reducible refine gate_dst (N := 7) rfl ?_); refine box_event ?hg (N := 7) ?hd (cs := #[.int .i64 a3_0, .int .i64 a3_1, .int .i64 a3_2, .int .i64 a3_3]) (t := 35) ?hr ?_; (case hd => rfl); (case hg => rfl); (case hr => first | (go_simp; done) | (go_simp; rfl)); intro gb243 hg w159 hbox hb; have BK243 := am (hbox); have GW243 := am ((by rw [hg]; exact (below_size bel) : w.heap.size ≤ gb243)); have GE243 := am ((by rw [hg]; exact (below_size bel) : w.heap.size ≤ gb243)); replace HB := am (below_step bel hb); have NB242_243 := am ((by rw [hg]; exact Nat.ne_of_lt (blk_lt (blkq BK242.out)) : gb242 ≠ gb243)); have NB243_242 := am ((by rw [hg]; exact Nat.ne_of_gt (blk_lt (blkq BK242.out)) : gb243 ≠ gb242)); replace BK242 := am (blk_below (blkq BK242.out) hb); clear hb hbox hg) | ((with_reducible refine gate_dst (N := 8) rfl ?_); refine box_event ?hg (N := 8) ?hd (cs := #[.slice none 0 0, .slice none 0 0, .int .i64 0]) (t := 30) ?hr ?_; (case hd => rfl); (case hg => rfl); (case hr => first | (go_simp; done) | (go_simp; rfl)); intro gb244 hg w160 hbox hb; have BK244 := am (hbox); have GW244 := am ((by rw [hg]; exact (below_size bel) : w.heap.size ≤ gb244)); have GE244 := am ((by rw [hg]; exact (below_size bel) : w.heap.size ≤ gb244)); replace HB := am (below_step bel hb); have NB242_244 := am ((by rw [hg]; exact Nat.ne_of_lt (blk_lt (blkq BK242.out)) : gb242 ≠ gb244)); have NB244_242 := am ((by rw [hg]; exact Nat.ne_of_gt (blk_lt (blkq BK242.out)) : gb244 ≠ gb242)); replace BK242 := am (blk_below (blkq BK242.out) hb); have NB243_244 := am ((by rw [hg]; exact Nat.ne_of_lt (blk_lt (blkq BK243.out)) : gb243 ≠ gb244)); have NB244_243 := am ((by rw [hg]; exact Nat.ne_of_gt (blk_lt (blkq BK243.out)) : gb244 ≠ gb243)); replace BK243 := am (blk_below (blkq BK243.out) hb); clear hb hbox hg; have hnb161 := NB242_243.out; have hnc161 := NB243_242.out; have hnb162 := NB242_244.out; have hnc162 := NB244_242.out; obtain ⟨hcz163_0, hcz163_1, hcz163_2, hfz163_0, hfz163_1, hfz163_2⟩ := blkc3 BK242.out) | ((with_reducible refine gate_callee (f := 49) rfl ?_); refine goesL1 18 Try.func49 #[.agg #[.slice A0_0 l0_0.length c0_0, .slice A0_1 l0_1.length c0_1, .int .i64 a0_2]] ?_; (with_reducible refine (impl_ownJoin.calls _ _ l0_0 _ _ l0_1 a0_2 t245 t248 t251 _ ?side1 ?side2 ?side3 ?side4 A5.out).mono ?_); (case side1 => repeat (first | exact (Kd.C_below HR0_0.out HB.out) | (with_reducible refine Kd.C_alloc ?_ _) | (with_reducible refine Kd.C_drewN ?_ _) | (with_reducible refine Kd.C_drew ?_))); (case side2 => exact HC0_0.out); (case side3 => repeat (first | exact (Kd.C_below HR0_1.out HB.out) | (with_reducible refine Kd.C_alloc ?_ _) | (with_reducible refine Kd.C_drewN ?_ _) | (with_reducible refine Kd.C_drew ?_))); (case side4 => exact HC0_1.out); rintro e w164 ⟨v246, v249, rfl, ho0, ho1, hb⟩; refine ⟨_, rfl, ?_⟩; have HO247 := am (Kd.R_lower (Kd.R_newB ho0 (blkq BK243.out)) (below_size bel)); have HO250 := am (Kd.R_lower (Kd.R_newB ho1 (blkq BK243.out)) (below_size bel)); replace BK242 := am (blk_below (blkq BK242.out) hb); replace BK243 := am (blk_below (blkq BK243.out) hb); replace BK244 := am (blk_below (blkq BK244.out) hb); replace HB := am (below_step bel hb); (try clear hb); (try clear ho0); (try clear ho1)) | ((with_reducible refine gate_dst (N := 11) rfl ?_); refine box_event ?hg (N := 11) ?hd (cs := #[.slice none 0 0, .slice none 0 0, .int .i64 0]) (t := 30) ?hr ?_; (case hd => rfl); (case hg => rfl); (case hr => first | (go_simp; done) | (go_simp; rfl)); intro gb252 hg w165 hbox hb; replace HO247 := am (Kd.R_below (rq HO247.out) hb); replace HO250 := am (Kd.R_below (rq HO250.out) hb); have BK252 := am (hbox); have GW252 := am ((by rw [hg]; exact (below_size bel) : w.heap.size ≤ gb252)); have GE252 := am ((by rw [hg]; exact (below_size bel) : w.heap.size ≤ gb252)); replace HB := am (below_step bel hb); have NB242_252 := am ((by rw [hg]; exact Nat.ne_of_lt (blk_lt (blkq BK242.out)) : gb242 ≠ gb252)); have NB252_242 := am ((by rw [hg]; exact Nat.ne_of_gt (blk_lt (blkq BK242.out)) : gb252 ≠ gb242)); replace BK242 := am (blk_below (blkq BK242.out) hb); have NB243_252 := am ((by rw [hg]; exact Nat.ne_of_lt (blk_lt (blkq BK243.out)) : gb243 ≠ gb252)); have NB252_243 := am ((by rw [hg]; exact Nat.ne_of_gt (blk_lt (blkq BK243.out)) : gb252 ≠ gb243)); replace BK243 := am (blk_below (blkq BK243.out) hb); have NB244_252 := am ((by rw [hg]; exact Nat.ne_of_lt (blk_lt (blkq BK244.out)) : gb244 ≠ gb252)); have NB252_244 := am ((by rw [hg]; exact Nat.ne_of_gt (blk_lt (blkq BK244.out)) : gb252 ≠ gb244)); replace BK244 := am (blk_below (blkq BK244.out) hb); clear hb hbox hg; obtain ⟨Ao166, co166, eo166⟩ := Kd.R_slice HO247.out; subst eo166; have hnb167 := NB252_242.out; have hnc167 := NB242_252.out; have hnb168 := NB252_243.out; have hnc168 := NB243_252.out; have hnb169 := NB252_244.out; have hnc169 := NB244_252.out; obtain ⟨hcz170_0, hcz170_1, hcz170_2, hfz170_0, hfz170_1, hfz170_2⟩ := blkc3 BK252.out; obtain ⟨Ao171, co171, eo171⟩ := Kd.R_slice HO250.out; subst eo171))
  have n0_ : Aside0 (Kd.R k35 35 (((w165.setCell ⟨gb252, 0, none⟩ (.slice Ao166 t245.length co166)).setCell ⟨gb252, 1, none⟩ (.slice Ao171 t248.length co171)).setCell ⟨gb252, 2, none⟩ (.int .i64 t251)) w.heap.size (fun k_ => nb k_ (sv Ao171 t248 co171) ∧ k_ ≠ gb243) (.slice Ao166 t245.length co166) t245) := ⟨by (with_reducible repeat (first | apply Kd.R_alloc | apply Kd.R_drewN | apply Kd.R_drew)); exact Kd.R_mono (Kd.R_far (p := ⟨gb252, 2, none⟩) (Kd.R_far (p := ⟨gb252, 1, none⟩) (Kd.R_far (p := ⟨gb252, 0, none⟩) (Kd.R_types HO247.out BK252.out (by decide)) (fun _ hk => hk.2) (.slice Ao166 t245.length co166)) (fun _ hk => hk.2) (.slice Ao171 t248.length co171)) (fun _ hk => hk.2) (.int .i64 t251)) (fun _ hk => ⟨hk.1.1, hk.1.2⟩)⟩
  have n1_ : Aside0 (Kd.R k35 35 (((w165.setCell ⟨gb252, 0, none⟩ (.slice Ao166 t245.length co166)).setCell ⟨gb252, 1, none⟩ (.slice Ao171 t248.length co171)).setCell ⟨gb252, 2, none⟩ (.int .i64 t251)) w.heap.size (fun k_ => nb k_ (sv Ao166 t245 co166) ∧ k_ ≠ gb243) (.slice Ao171 t248.length co171) t248) := ⟨by (with_reducible repeat (first | apply Kd.R_alloc | apply Kd.R_drewN | apply Kd.R_drew)); exact Kd.R_mono (Kd.R_far (p := ⟨gb252, 2, none⟩) (Kd.R_far (p := ⟨gb252, 1, none⟩) (Kd.R_far (p := ⟨gb252, 0, none⟩) (Kd.R_types HO250.out BK252.out (by decide)) (fun _ hk => hk.2) (.slice Ao166 t245.length co166)) (fun _ hk => hk.2) (.slice Ao171 t248.length co171)) (fun _ hk => hk.2) (.int .i64 t251)) (fun _ hk => ⟨hk.1.1, hk.1.2⟩)⟩
  have n2_ : Aside0 ((((w165.setCell ⟨gb252, 0, none⟩ (.slice Ao166 t245.length co166)).setCell ⟨gb252, 1, none⟩ (.slice Ao171 t248.length co171)).setCell ⟨gb252, 2, none⟩ (.int .i64 t251)).heap[gb242]? = some (.cells #[.slice A0_0 l0_0.length c0_0, .slice A0_1 l0_1.length c0_1, .int .i64 a0_2] 30 (0, 0))) := ⟨by (with_reducible repeat (first | refine blk_drewN ?_ _ | refine blk_drew ?_ | refine blk_alloc ?_ _)); refine blk_far ?_ NB242_252.out _; (with_reducible repeat (first | refine blk_drewN ?_ _ | refine blk_drew ?_ | refine blk_alloc ?_ _)); refine blk_far ?_ NB242_252.out _; (with_reducible repeat (first | refine blk_drewN ?_ _ | refine blk_drew ?_ | refine blk_alloc ?_ _)); refine blk_far ?_ NB242_252.out _; (with_reducible repeat (first | refine blk_drewN ?_ _ | refine blk_drew ?_ | refine blk_alloc ?_ _)); exact BK242.out⟩
  have n3_ : Aside0 ((((w165.setCell ⟨gb252, 0, none⟩ (.slice Ao166 t245.length co166)).setCell ⟨gb252, 1, none⟩ (.slice Ao171 t248.length co171)).setCell ⟨gb252, 2, none⟩ (.int .i64 t251)).heap[gb243]? = some (.cells #[.int .i64 a3_0, .int .i64 a3_1, .int .i64 a3_2, .int .i64 a3_3] 35 (0, 0))) := ⟨by (with_reducible repeat (first | refine blk_drewN ?_ _ | refine blk_drew ?_ | refine blk_alloc ?_ _)); refine blk_far ?_ NB243_252.out _; (with_reducible repeat (first | refine blk_drewN ?_ _ | refine blk_drew ?_ | refine blk_alloc ?_ _)); refine blk_far ?_ NB243_252.out _; (with_reducible repeat (first | refine blk_drewN ?_ _ | refine blk_drew ?_ | refine blk_alloc ?_ _)); refine blk_far ?_ NB243_252.out _; (with_reducible repeat (first | refine blk_drewN ?_ _ | refine blk_drew ?_ | refine blk_alloc ?_ _)); exact BK243.out⟩
  have n4_ : Aside0 ((((w165.setCell ⟨gb252, 0, none⟩ (.slice Ao166 t245.length co166)).setCell ⟨gb252, 1, none⟩ (.slice Ao171 t248.length co171)).setCell ⟨gb252, 2, none⟩ (.int .i64 t251)).heap[gb244]? = some (.cells #[.slice none 0 0, .slice none 0 0, .int .i64 0] 30 (0, 0))) := ⟨by (with_reducible repeat (first | refine blk_drewN ?_ _ | refine blk_drew ?_ | refine blk_alloc ?_ _)); refine blk_far ?_ NB244_252.out _; (with_reducible repeat (first | refine blk_drewN ?_ _ | refine blk_drew ?_ | refine blk_alloc ?_ _)); refine blk_far ?_ NB244_252.out _; (with_reducible repeat (first | refine blk_drewN ?_ _ | refine blk_drew ?_ | refine blk_alloc ?_ _)); refine blk_far ?_ NB244_252.out _; (with_reducible repeat (first | refine blk_drewN ?_ _ | refine blk_drew ?_ | refine blk_alloc ?_ _)); exact BK244.out⟩
  have n5_ : Aside0 ((((w165.setCell ⟨gb252, 0, none⟩ (.slice Ao166 t245.length co166)).setCell ⟨gb252, 1, none⟩ (.slice Ao171 t248.length co171)).setCell ⟨gb252, 2, none⟩ (.int .i64 t251)).heap[gb252]? = some (.cells #[.slice Ao166 t245.length co166, .slice Ao171 t248.length co171, .int .i64 t251] 30 (0, 0))) := ⟨by (with_reducible repeat (first | refine blk_drewN ?_ _ | refine blk_drew ?_ | refine blk_alloc ?_ _)); refine blk_put (cs := #[.slice Ao166 t245.length co166, .slice Ao171 t248.length co171, .int .i64 0]) ?_ 2 _ rfl; (with_reducible repeat (first | refine blk_drewN ?_ _ | refine blk_drew ?_ | refine blk_alloc ?_ _)); refine blk_put (cs := #[.slice Ao166 t245.length co166, .slice none 0 0, .int .i64 0]) ?_ 1 _ rfl; (with_reducible repeat (first | refine blk_drewN ?_ _ | refine blk_drew ?_ | refine blk_alloc ?_ _)); refine blk_put (cs := #[.slice none 0 0, .slice none 0 0, .int .i64 0]) ?_ 0 _ rfl; (with_reducible repeat (first | refine blk_drewN ?_ _ | refine blk_drew ?_ | refine blk_alloc ?_ _)); exact BK252.out⟩
  have n6_ : Aside0 (Below w.heap.size w (((w165.setCell ⟨gb252, 0, none⟩ (.slice Ao166 t245.length co166)).setCell ⟨gb252, 1, none⟩ (.slice Ao171 t248.length co171)).setCell ⟨gb252, 2, none⟩ (.int .i64 t251))) := ⟨by repeat (first | (with_reducible first | exact HB.out | apply below_alloc | apply pw_below_drewN | apply below_drew1 | refine below_set ?_ GE242.out | refine below_set ?_ GE243.out | refine below_set ?_ GE244.out | refine below_set ?_ GE252.out) | exact HB.out)⟩
  (try clear HO247)
  (try clear HO250)
  (try clear BK242)
  (try clear BK243)
  (try clear BK244)
  (try clear BK252)
  (try clear HB)
  generalize (((w165.setCell ⟨gb252, 0, none⟩ (.slice Ao166 t245.length co166)).setCell ⟨gb252, 1, none⟩ (.slice Ao171 t248.length co171)).setCell ⟨gb252, 2, none⟩ (.int .i64 t251)) = w172 at n0_ n1_ n2_ n3_ n4_ n5_ n6_ ⊢
  have HO247 := n0_
  have HO250 := n1_
  have BK242 := n2_
  have BK243 := n3_
  have BK244 := n4_
  have BK252 := n5_
  have HB := n6_
  clear n0_ n1_ n2_ n3_ n4_ n5_ n6_
  replace HO247 := am (Kd.R_drew HO247.out)
  replace HO250 := am (Kd.R_drew HO250.out)
  replace BK242 := am (blk_drew BK242.out)
  replace BK243 := am (blk_drew BK243.out)
  replace BK244 := am (blk_drew BK244.out)
  replace BK252 := am (blk_drew BK252.out)
  replace HB := am (below_drew1 HB.out)
  refine start_ (n := 5) (S := fun w' => w'.cell? ⟨gb242, 0, none⟩ = some (.slice A0_0 l0_0.length c0_0) ∧ w'.cell? ⟨gb242, 1, none⟩ = some (.slice A0_1 l0_1.length c0_1) ∧ w'.cell? ⟨gb242, 2, none⟩ = some (.int .i64 a0_2)) (ds := []) #[false, false, false, false, false] (by kernel_rfl) rfl rfl ⟨(blk_cell BK242.out 0).trans rfl, (blk_cell BK242.out 1).trans rfl, (blk_cell BK242.out 2).trans rfl⟩ (fun hHeld => ?_)
  generalize w172.drew = w173 at HO247 HO250 BK242 BK243 BK244 BK252 HB hHeld ⊢
  refine pure_ (i := 0) (N := some 19) (v := ?_) (a' := ?_) #[true, false, false, false, false] rfl rfl (by kernel_rfl) (fun _ _ _ h => h) (Or.inl ⟨by rfl, ?_⟩) ?_ ?_
  rotate_left
  · intro w'
    go_simp
    with_reducible rfl
  rotate_left
  · simp only [Act.put, List.setIfInBounds_toArray, List.set_cons_zero, List.set_cons_succ, i64_w, i32_w]
    rfl
  refine pure_ (i := 1) (N := some 20) (v := ?_) (a' := ?_) #[true, true, false, false, false] rfl rfl (by kernel_rfl) (fun _ _ _ h => h) (Or.inl ⟨by rfl, ?_⟩) ?_ ?_
  rotate_left
  · intro w'
    go_simp
    with_reducible rfl
  rotate_left
  · simp only [Act.put, List.setIfInBounds_toArray, List.set_cons_zero, List.set_cons_succ, i64_w, i32_w]
    rfl
  refine pure_ (i := 3) (N := some 12) (v := ?_) (a' := ?_) #[true, true, false, true, false] rfl rfl (by kernel_rfl) (fun _ _ _ h => h) (Or.inl ⟨by rfl, ?_⟩) ?_ ?_
  rotate_left
  · intro w'
    go_simp
    with_reducible rfl
  rotate_left
  · simp only [Act.put, List.setIfInBounds_toArray, List.set_cons_zero, List.set_cons_succ, i64_w, i32_w]
    rfl
  refine take_ (i := 2) (N := some 21) (v := ?_) (a' := ?_) #[true, true, true, true, false] rfl rfl (by kernel_rfl) (fun _ _ _ h => h) (Or.inl ⟨by rfl, ?_⟩) hHeld ?_ ?_
  rotate_left
  · rintro w' ⟨s0, s1, s2⟩
    go_simp
    with_reducible rfl
  rotate_left
  · simp only [Act.put, List.setIfInBounds_toArray, List.set_cons_zero, List.set_cons_succ, i64_w, i32_w]
    rfl
  refine pure_ (i := 4) (N := some 13) (v := ?_) (a' := ?_) #[true, true, true, true, true] rfl rfl (by kernel_rfl) (fun _ _ _ h => h) (Or.inl ⟨by rfl, ?_⟩) ?_ ?_
  rotate_left
  · intro w'
    go_simp
    with_reducible rfl
  rotate_left
  · simp only [Act.put, List.setIfInBounds_toArray, List.set_cons_zero, List.set_cons_succ, i64_w, i32_w]
    rfl
  refine done_ (by kernel_rfl) ?_
  go_upto_region 5 with (fail)
  go_cut [26] (fun v26 wc => ∃ (kq : Nat) (x26_156 : Bool), v26 = .bool x26_156 ∧ Aside0 (impl_AddJoin.j2 kq a1 false l0_0 x26_156 l0_0 l0_1 a0_2 a3_0 a3_1 a3_2 a3_3 t245 t248 t251 = some (r1, r2, r3, r4, r5)) ∧ Aside0 (kq ≤ k) ∧ Aside0 (Kd.R k35 35 wc w.heap.size (fun k_ => some k_ ≠ ((.slice Ao171 t248.length co171) : Value).ownBlock ∧ k_ ≠ gb243) (.slice Ao166 t245.length co166) t245) ∧ Aside0 (Kd.R k35 35 wc w.heap.size (fun k_ => some k_ ≠ ((.slice Ao166 t245.length co166) : Value).ownBlock ∧ k_ ≠ gb243) (.slice Ao171 t248.length co171) t248) ∧ Aside0 (wc.heap[gb242]? = some (.cells #[(.slice A0_0 l0_0.length c0_0), (.slice A0_1 l0_1.length c0_1), .int .i64 a0_2] 30 (0, 0))) ∧ Aside0 (wc.heap[gb243]? = some (.cells #[.int .i64 a3_0, .int .i64 a3_1, .int .i64 a3_2, .int .i64 a3_3] 35 (0, 0))) ∧ Aside0 (wc.heap[gb244]? = some (.cells #[(.slice none 0 0), (.slice none 0 0), .int .i64 0] 30 (0, 0))) ∧ Aside0 (wc.heap[gb252]? = some (.cells #[(.slice Ao166 t245.length co166), (.slice Ao171 t248.length co171), .int .i64 t251] 30 (0, 0))) ∧ Aside0 (Below w.heap.size w wc))
  case first =>
    have H := HC157.out
    clear HC157
    replace H := Option.bind_eq_some_iff.mp H
    obtain ⟨t281, A1740, H⟩ := H
    (try dsimp only at H)
    have A174 := Aside0.mk A1740
    clear A1740
    by_cases c175 : t281 = true
    rotate_left
    · replace c175 := Bool.eq_false_iff.mpr c175
      subst c175
      have H1 : (impl_AddJoin.j2 k a1 false l0_0 true l0_0 l0_1 a0_2 a3_0 a3_1 a3_2 a3_3 t245 t248 t251) = some (r1, r2, r3, r4, r5) := by rw [if_neg (show ¬ (false = true) by decide)] at H; exact H
      clear H
      have H := H1
      clear H1
      have H' := Aside0.mk H
      clear H
      have hnb197 := NB242_243.out
      have hnc197 := NB243_242.out
      have hnb198 := NB242_244.out
      have hnc198 := NB244_242.out
      have hnb199 := NB242_252.out
      have hnc199 := NB252_242.out
      have hcz200_0 : w173.cell? ⟨gb242, 0, none⟩ = some (.slice A0_0 l0_0.length c0_0) := (blk_cell BK242.out 0).trans rfl
      have hcz200_1 : w173.cell? ⟨gb242, 1, none⟩ = some (.slice A0_1 l0_1.length c0_1) := (blk_cell BK242.out 1).trans rfl
      have hcz200_2 : w173.cell? ⟨gb242, 2, none⟩ = some (.int .i64 a0_2) := (blk_cell BK242.out 2).trans rfl
      have hfz200_0 := blk_frozen BK242.out 0
      have hfz200_1 := blk_frozen BK242.out 1
      have hfz200_2 := blk_frozen BK242.out 2
      go_wp2_with (first | ((with_reducible refine gate_callee (f := 50) rfl ?_); refine goesL1 28 Try.func50 #[.agg #[.slice A0_0 l0_0.length c0_0, .slice A0_1 l0_1.length c0_1, .int .i64 a0_2]] ?_; (with_reducible refine (impl_JoinOk.calls k _ _ l0_0 _ _ l0_1 a0_2 false _ ?side1 ?side2 ?side3 ?side4 A174.out).mono ?_); (case side1 => repeat (first | exact (Kd.C_below HR0_0.out HB.out) | (with_reducible refine Kd.C_alloc ?_ _) | (with_reducible refine Kd.C_drewN ?_ _) | (with_reducible refine Kd.C_drew ?_))); (case side2 => exact HC0_0.out); (case side3 => repeat (first | exact (Kd.C_below HR0_1.out HB.out) | (with_reducible refine Kd.C_alloc ?_ _) | (with_reducible refine Kd.C_drewN ?_ _) | (with_reducible refine Kd.C_drew ?_))); (case side4 => exact HC0_1.out); rintro e w201 ⟨rfl, hb⟩; refine ⟨_, rfl, ?_⟩; replace HO247 := am (Kd.R_below (rq HO247.out) hb); replace HO250 := am (Kd.R_below (rq HO250.out) hb); replace BK242 := am (blk_below (blkq BK242.out) hb); replace BK243 := am (blk_below (blkq BK243.out) hb); replace BK244 := am (blk_below (blkq BK244.out) hb); replace BK252 := am (blk_below (blkq BK252.out) hb); replace HB := am (below_step bel hb); (try clear hb)))
      go_meet
      case rel => exact ⟨_, (true), (by first | rfl | (simp; done) | (simp [*]; done)), H', ⟨by first | omega | exact Nat.le_refl _⟩, ⟨by (with_reducible repeat (first | apply Kd.R_alloc | apply Kd.R_drewN | apply Kd.R_drew)); exact HO247.out⟩, ⟨by (with_reducible repeat (first | apply Kd.R_alloc | apply Kd.R_drewN | apply Kd.R_drew)); exact HO250.out⟩, ⟨by (with_reducible repeat (first | refine blk_drewN ?_ _ | refine blk_drew ?_ | refine blk_alloc ?_ _)); exact BK242.out⟩, ⟨by (with_reducible repeat (first | refine blk_drewN ?_ _ | refine blk_drew ?_ | refine blk_alloc ?_ _)); exact BK243.out⟩, ⟨by (with_reducible repeat (first | refine blk_drewN ?_ _ | refine blk_drew ?_ | refine blk_alloc ?_ _)); exact BK244.out⟩, ⟨by (with_reducible repeat (first | refine blk_drewN ?_ _ | refine blk_drew ?_ | refine blk_alloc ?_ _)); exact BK252.out⟩, ⟨by repeat (first | (with_reducible first | exact HB.out | apply below_alloc | apply pw_below_drewN | apply below_drew1 | refine below_set ?_ GE242.out | refine below_set ?_ GE243.out | refine below_set ?_ GE244.out | refine below_set ?_ GE252.out) | exact HB.out)⟩⟩
    subst c175
    have H1 : ((impl_isEvent.f a3_0 a3_1 a3_2 a3_3).bind fun t282 => (if t282 = true then ((impl_isTime.f a1).bind fun t283 => (impl_AddJoin.j2 k a1 false l0_0 (!t283) l0_0 l0_1 a0_2 a3_0 a3_1 a3_2 a3_3 t245 t248 t251)) else (impl_AddJoin.j2 k a1 false l0_0 true l0_0 l0_1 a0_2 a3_0 a3_1 a3_2 a3_3 t245 t248 t251))) = some (r1, r2, r3, r4, r5) := by rw [if_pos rfl] at H; exact H
    clear H
    have H := H1
    clear H1
    replace H := Option.bind_eq_some_iff.mp H
    obtain ⟨t282, A1760, H⟩ := H
    (try dsimp only at H)
    have A176 := Aside0.mk A1760
    clear A1760
    by_cases c177 : t282 = true
    rotate_left
    · replace c177 := Bool.eq_false_iff.mpr c177
      subst c177
      have H1 : (impl_AddJoin.j2 k a1 false l0_0 true l0_0 l0_1 a0_2 a3_0 a3_1 a3_2 a3_3 t245 t248 t251) = some (r1, r2, r3, r4, r5) := by rw [if_neg (show ¬ (false = true) by decide)] at H; exact H
      clear H
      have H := H1
      clear H1
      have H' := Aside0.mk H
      clear H
      have hnb188 := NB242_243.out
      have hnc188 := NB243_242.out
      have hnb189 := NB242_244.out
      have hnc189 := NB244_242.out
      have hnb190 := NB242_252.out
      have hnc190 := NB252_242.out
      have hcz191_0 : w173.cell? ⟨gb242, 0, none⟩ = some (.slice A0_0 l0_0.length c0_0) := (blk_cell BK242.out 0).trans rfl
      have hcz191_1 : w173.cell? ⟨gb242, 1, none⟩ = some (.slice A0_1 l0_1.length c0_1) := (blk_cell BK242.out 1).trans rfl
      have hcz191_2 : w173.cell? ⟨gb242, 2, none⟩ = some (.int .i64 a0_2) := (blk_cell BK242.out 2).trans rfl
      have hfz191_0 := blk_frozen BK242.out 0
      have hfz191_1 := blk_frozen BK242.out 1
      have hfz191_2 := blk_frozen BK242.out 2
      go_wp2_with (first | ((with_reducible refine gate_callee (f := 50) rfl ?_); refine goesL1 28 Try.func50 #[.agg #[.slice A0_0 l0_0.length c0_0, .slice A0_1 l0_1.length c0_1, .int .i64 a0_2]] ?_; (with_reducible refine (impl_JoinOk.calls k _ _ l0_0 _ _ l0_1 a0_2 true _ ?side1 ?side2 ?side3 ?side4 A174.out).mono ?_); (case side1 => repeat (first | exact (Kd.C_below HR0_0.out HB.out) | (with_reducible refine Kd.C_alloc ?_ _) | (with_reducible refine Kd.C_drewN ?_ _) | (with_reducible refine Kd.C_drew ?_))); (case side2 => exact HC0_0.out); (case side3 => repeat (first | exact (Kd.C_below HR0_1.out HB.out) | (with_reducible refine Kd.C_alloc ?_ _) | (with_reducible refine Kd.C_drewN ?_ _) | (with_reducible refine Kd.C_drew ?_))); (case side4 => exact HC0_1.out); rintro e w192 ⟨rfl, hb⟩; refine ⟨_, rfl, ?_⟩; replace HO247 := am (Kd.R_below (rq HO247.out) hb); replace HO250 := am (Kd.R_below (rq HO250.out) hb); replace BK242 := am (blk_below (blkq BK242.out) hb); replace BK243 := am (blk_below (blkq BK243.out) hb); replace BK244 := am (blk_below (blkq BK244.out) hb); replace BK252 := am (blk_below (blkq BK252.out) hb); replace HB := am (below_step bel hb); (try clear hb); have hnb193 := NB243_244.out; have hnc193 := NB244_243.out; have hnb194 := NB243_252.out; have hnc194 := NB252_243.out; obtain ⟨hcz195_0, hcz195_1, hcz195_2, hcz195_3, hfz195_0, hfz195_1, hfz195_2, hfz195_3⟩ := blkc4 BK243.out) | (go_at_call 51; (with_reducible refine (impl_isEvent.calls a3_0 a3_1 a3_2 a3_3 false _ A176.out).mono ?_); rintro e w196 ⟨rfl, hb⟩; have n0_ := am (Kd.R_below (rq HO247.out) hb); have n1_ := am (Kd.R_below (rq HO250.out) hb); have n2_ := am (blk_below (blkq BK242.out) hb); have n3_ := am (blk_below (blkq BK243.out) hb); have n4_ := am (blk_below (blkq BK244.out) hb); have n5_ := am (blk_below (blkq BK252.out) hb); have n6_ := am (below_step bel hb); clear HO247 HO250 BK242 BK243 BK244 BK252 HB; have HO247 := n0_; have HO250 := n1_; have BK242 := n2_; have BK243 := n3_; have BK244 := n4_; have BK252 := n5_; have HB := n6_; clear n0_ n1_ n2_ n3_ n4_ n5_ n6_; (try clear hb); (try clear hb2); (try clear hk); (try clear hi)))
      go_meet
      case rel => exact ⟨_, (true), (by first | rfl | (simp; done) | (simp [*]; done)), H', ⟨by first | omega | exact Nat.le_refl _⟩, ⟨by (with_reducible repeat (first | apply Kd.R_alloc | apply Kd.R_drewN | apply Kd.R_drew)); exact HO247.out⟩, ⟨by (with_reducible repeat (first | apply Kd.R_alloc | apply Kd.R_drewN | apply Kd.R_drew)); exact HO250.out⟩, ⟨by (with_reducible repeat (first | refine blk_drewN ?_ _ | refine blk_drew ?_ | refine blk_alloc ?_ _)); exact BK242.out⟩, ⟨by (with_reducible repeat (first | refine blk_drewN ?_ _ | refine blk_drew ?_ | refine blk_alloc ?_ _)); exact BK243.out⟩, ⟨by (with_reducible repeat (first | refine blk_drewN ?_ _ | refine blk_drew ?_ | refine blk_alloc ?_ _)); exact BK244.out⟩, ⟨by (with_reducible repeat (first | refine blk_drewN ?_ _ | refine blk_drew ?_ | refine blk_alloc ?_ _)); exact BK252.out⟩, ⟨by repeat (first | (with_reducible first | exact HB.out | apply below_alloc | apply pw_below_drewN | apply below_drew1 | refine below_set ?_ GE242.out | refine below_set ?_ GE243.out | refine below_set ?_ GE244.out | refine below_set ?_ GE252.out) | exact HB.out)⟩⟩
    subst c177
    have H1 : ((impl_isTime.f a1).bind fun t283 => (impl_AddJoin.j2 k a1 false l0_0 (!t283) l0_0 l0_1 a0_2 a3_0 a3_1 a3_2 a3_3 t245 t248 t251)) = some (r1, r2, r3, r4, r5) := by rw [if_pos rfl] at H; exact H
    clear H
    have H := H1
    clear H1
    replace H := Option.bind_eq_some_iff.mp H
    obtain ⟨t283, A1780, H⟩ := H
    (try dsimp only at H)
    have A178 := Aside0.mk A1780
    clear A1780
    have H' := Aside0.mk H
    clear H
    have hnb179 := NB242_243.out
    have hnc179 := NB243_242.out
    have hnb180 := NB242_244.out
    have hnc180 := NB244_242.out
    have hnb181 := NB242_252.out
    have hnc181 := NB252_242.out
    have hcz182_0 : w173.cell? ⟨gb242, 0, none⟩ = some (.slice A0_0 l0_0.length c0_0) := (blk_cell BK242.out 0).trans rfl
    have hcz182_1 : w173.cell? ⟨gb242, 1, none⟩ = some (.slice A0_1 l0_1.length c0_1) := (blk_cell BK242.out 1).trans rfl
    have hcz182_2 : w173.cell? ⟨gb242, 2, none⟩ = some (.int .i64 a0_2) := (blk_cell BK242.out 2).trans rfl
    have hfz182_0 := blk_frozen BK242.out 0
    have hfz182_1 := blk_frozen BK242.out 1
    have hfz182_2 := blk_frozen BK242.out 2
    go_wp2_with (first | ((with_reducible refine gate_callee (f := 50) rfl ?_); refine goesL1 28 Try.func50 #[.agg #[.slice A0_0 l0_0.length c0_0, .slice A0_1 l0_1.length c0_1, .int .i64 a0_2]] ?_; (with_reducible refine (impl_JoinOk.calls k _ _ l0_0 _ _ l0_1 a0_2 true _ ?side1 ?side2 ?side3 ?side4 A174.out).mono ?_); (case side1 => repeat (first | exact (Kd.C_below HR0_0.out HB.out) | (with_reducible refine Kd.C_alloc ?_ _) | (with_reducible refine Kd.C_drewN ?_ _) | (with_reducible refine Kd.C_drew ?_))); (case side2 => exact HC0_0.out); (case side3 => repeat (first | exact (Kd.C_below HR0_1.out HB.out) | (with_reducible refine Kd.C_alloc ?_ _) | (with_reducible refine Kd.C_drewN ?_ _) | (with_reducible refine Kd.C_drew ?_))); (case side4 => exact HC0_1.out); rintro e w183 ⟨rfl, hb⟩; refine ⟨_, rfl, ?_⟩; replace HO247 := am (Kd.R_below (rq HO247.out) hb); replace HO250 := am (Kd.R_below (rq HO250.out) hb); replace BK242 := am (blk_below (blkq BK242.out) hb); replace BK243 := am (blk_below (blkq BK243.out) hb); replace BK244 := am (blk_below (blkq BK244.out) hb); replace BK252 := am (blk_below (blkq BK252.out) hb); replace HB := am (below_step bel hb); (try clear hb); have hnb184 := NB243_244.out; have hnc184 := NB244_243.out; have hnb185 := NB243_252.out; have hnc185 := NB252_243.out; obtain ⟨hcz186_0, hcz186_1, hcz186_2, hcz186_3, hfz186_0, hfz186_1, hfz186_2, hfz186_3⟩ := blkc4 BK243.out) | (go_at_call 51; (with_reducible refine (impl_isEvent.calls a3_0 a3_1 a3_2 a3_3 true _ A176.out).mono ?_); rintro e w187 ⟨rfl, hb⟩; have n0_ := am (Kd.R_below (rq HO247.out) hb); have n1_ := am (Kd.R_below (rq HO250.out) hb); have n2_ := am (blk_below (blkq BK242.out) hb); have n3_ := am (blk_below (blkq BK243.out) hb); have n4_ := am (blk_below (blkq BK244.out) hb); have n5_ := am (blk_below (blkq BK252.out) hb); have n6_ := am (below_step bel hb); clear HO247 HO250 BK242 BK243 BK244 BK252 HB; have HO247 := n0_; have HO250 := n1_; have BK242 := n2_; have BK243 := n3_; have BK244 := n4_; have BK252 := n5_; have HB := n6_; clear n0_ n1_ n2_ n3_ n4_ n5_ n6_; (try clear hb); (try clear hb2); (try clear hk); (try clear hi)) | (go_at_call 52; (with_reducible refine (impl_isTime.calls a1 t283 _ A178.out).mono ?_); rintro e w' ⟨rfl, ⟨nd, rfl⟩⟩))
    go_meet
    case rel => exact ⟨_, (!t283), (by first | rfl | (simp; done) | (simp [*]; done)), H', ⟨by first | omega | exact Nat.le_refl _⟩, ⟨by (with_reducible repeat (first | apply Kd.R_alloc | apply Kd.R_drewN | apply Kd.R_drew)); exact HO247.out⟩, ⟨by (with_reducible repeat (first | apply Kd.R_alloc | apply Kd.R_drewN | apply Kd.R_drew)); exact HO250.out⟩, ⟨by (with_reducible repeat (first | refine blk_drewN ?_ _ | refine blk_drew ?_ | refine blk_alloc ?_ _)); exact BK242.out⟩, ⟨by (with_reducible repeat (first | refine blk_drewN ?_ _ | refine blk_drew ?_ | refine blk_alloc ?_ _)); exact BK243.out⟩, ⟨by (with_reducible repeat (first | refine blk_drewN ?_ _ | refine blk_drew ?_ | refine blk_alloc ?_ _)); exact BK244.out⟩, ⟨by (with_reducible repeat (first | refine blk_drewN ?_ _ | refine blk_drew ?_ | refine blk_alloc ?_ _)); exact BK252.out⟩, ⟨by repeat (first | (with_reducible first | exact HB.out | apply below_alloc | apply pw_below_drewN | apply below_drew1 | refine below_set ?_ GE242.out | refine below_set ?_ GE243.out | refine below_set ?_ GE244.out | refine below_set ?_ GE252.out) | exact HB.out)⟩⟩
  case rest =>
    clear HC157
    try clear c1
    try clear c2
    try clear p2
    try clear q2
    try clear hx2
    try clear c3
    try clear c4
    try clear c5
    try clear c6
    try clear p6
    try clear c7
    try clear c8
    try clear c9
    try clear c10
    try clear c11
    try clear c12
    try clear c13
    try clear c14
    try clear c15
    try clear c16
    try clear c17
    try clear c18
    try clear c19
    try clear c26
    try clear p26
    try clear q26
    try clear hx26
    try clear c28
    try clear c30
    try clear c31
    try clear c32
    try clear c35
    try clear c36
    try clear c39
    try clear c40
    try clear c41
    try clear c44
    try clear c45
    try clear c48
    try clear c49
    try clear c50
    try clear c53
    try clear c54
    try clear c55
    try clear c56
    try clear c58
    try clear c59
    try clear c61
    try clear c61b0
    try clear c62
    try clear c63
    try clear c64
    try clear p64
    try clear c66
    try clear c67
    try clear c69
    try clear c72
    try clear c72b0
    try clear c72b1
    try clear c73
    try clear c74
    try clear c75
    try clear c77
    try clear c78
    try clear c80
    try clear c83
    try clear c84
    try clear c85
    try clear c86
    try clear c88
    try clear c89
    try clear c91
    try clear c99
    try clear c99b0
    try clear c100
    try clear c100b0
    try clear c101
    try clear c101b0
    try clear c103
    try clear c104
    try clear c106
    try clear c108
    try clear c109
    try clear c110
    try clear c111
    try clear c113
    try clear c114
    try clear c115
    try clear c123
    try clear c125
    try clear c126
    try clear c127
    try clear c128
    try clear c130
    try clear c131
    try clear c132
    try clear c140
    try clear c141
    try clear c142
    try clear c143
    try clear c145
    try clear c146
    try clear c147
    try clear c150
    try clear c151
    try clear c152
    try clear c154
    try clear c155
    try clear c161
    try clear c162
    try clear c167
    try clear c168
    try clear c169
    try clear c175
    try clear c177
    try clear c179
    try clear c180
    try clear c181
    try clear c184
    try clear c185
    try clear c188
    try clear c189
    try clear c190
    try clear c193
    try clear c194
    try clear c197
    try clear c198
    try clear c199
    try clear hcz112_0
    try clear hcz112_1
    try clear hcz112_2
    try clear hcz112_3
    try clear hcz116_0
    try clear hcz116_1
    try clear hcz116_2
    try clear hcz116_3
    try clear hcz118_0
    try clear hcz118_1
    try clear hcz118_2
    try clear hcz118_3
    try clear hcz119_0
    try clear hcz119_1
    try clear hcz119_2
    try clear hcz119_3
    try clear hcz129_0
    try clear hcz129_1
    try clear hcz129_2
    try clear hcz129_3
    try clear hcz133_0
    try clear hcz133_1
    try clear hcz133_2
    try clear hcz133_3
    try clear hcz135_0
    try clear hcz135_1
    try clear hcz135_2
    try clear hcz135_3
    try clear hcz136_0
    try clear hcz136_1
    try clear hcz136_2
    try clear hcz136_3
    try clear hcz13_0
    try clear hcz13_1
    try clear hcz13_2
    try clear hcz144_0
    try clear hcz144_1
    try clear hcz144_2
    try clear hcz144_3
    try clear hcz148_0
    try clear hcz148_1
    try clear hcz148_2
    try clear hcz148_3
    try clear hcz153_0
    try clear hcz153_1
    try clear hcz153_2
    try clear hcz156_0
    try clear hcz156_1
    try clear hcz156_2
    try clear hcz163_0
    try clear hcz163_1
    try clear hcz163_2
    try clear hcz170_0
    try clear hcz170_1
    try clear hcz170_2
    try clear hcz182_0
    try clear hcz182_1
    try clear hcz182_2
    try clear hcz186_0
    try clear hcz186_1
    try clear hcz186_2
    try clear hcz186_3
    try clear hcz191_0
    try clear hcz191_1
    try clear hcz191_2
    try clear hcz195_0
    try clear hcz195_1
    try clear hcz195_2
    try clear hcz195_3
    try clear hcz200_0
    try clear hcz200_1
    try clear hcz200_2
    try clear hcz20_0
    try clear hcz20_1
    try clear hcz20_2
    try clear hcz33_0
    try clear hcz33_1
    try clear hcz33_2
    try clear hcz37_0
    try clear hcz37_1
    try clear hcz37_2
    try clear hcz37_3
    try clear hcz42_0
    try clear hcz42_1
    try clear hcz42_2
    try clear hcz46_0
    try clear hcz46_1
    try clear hcz46_2
    try clear hcz46_3
    try clear hcz51_0
    try clear hcz51_1
    try clear hcz51_2
    try clear hcz57_0
    try clear hcz57_1
    try clear hcz57_2
    try clear hcz60_0
    try clear hcz60_1
    try clear hcz60_2
    try clear hcz65_0
    try clear hcz65_1
    try clear hcz65_2
    try clear hcz65_3
    try clear hcz68_0
    try clear hcz68_1
    try clear hcz68_2
    try clear hcz70_0
    try clear hcz70_1
    try clear hcz70_2
    try clear hcz71_0
    try clear hcz71_1
    try clear hcz71_2
    try clear hcz76_0
    try clear hcz76_1
    try clear hcz76_2
    try clear hcz76_3
    try clear hcz79_0
    try clear hcz79_1
    try clear hcz79_2
    try clear hcz81_0
    try clear hcz81_1
    try clear hcz81_2
    try clear hcz82_0
    try clear hcz82_1
    try clear hcz82_2
    try clear hcz87_0
    try clear hcz87_1
    try clear hcz87_2
    try clear hcz87_3
    try clear hcz90_0
    try clear hcz90_1
    try clear hcz90_2
    try clear hcz92_0
    try clear hcz92_1
    try clear hcz92_2
    try clear hfz112_0
    try clear hfz112_1
    try clear hfz112_2
    try clear hfz112_3
    try clear hfz116_0
    try clear hfz116_1
    try clear hfz116_2
    try clear hfz116_3
    try clear hfz118_0
    try clear hfz118_1
    try clear hfz118_2
    try clear hfz118_3
    try clear hfz119_0
    try clear hfz119_1
    try clear hfz119_2
    try clear hfz119_3
    try clear hfz129_0
    try clear hfz129_1
    try clear hfz129_2
    try clear hfz129_3
    try clear hfz133_0
    try clear hfz133_1
    try clear hfz133_2
    try clear hfz133_3
    try clear hfz135_0
    try clear hfz135_1
    try clear hfz135_2
    try clear hfz135_3
    try clear hfz136_0
    try clear hfz136_1
    try clear hfz136_2
    try clear hfz136_3
    try clear hfz13_0
    try clear hfz13_1
    try clear hfz13_2
    try clear hfz144_0
    try clear hfz144_1
    try clear hfz144_2
    try clear hfz144_3
    try clear hfz148_0
    try clear hfz148_1
    try clear hfz148_2
    try clear hfz148_3
    try clear hfz153_0
    try clear hfz153_1
    try clear hfz153_2
    try clear hfz156_0
    try clear hfz156_1
    try clear hfz156_2
    try clear hfz163_0
    try clear hfz163_1
    try clear hfz163_2
    try clear hfz170_0
    try clear hfz170_1
    try clear hfz170_2
    try clear hfz182_0
    try clear hfz182_1
    try clear hfz182_2
    try clear hfz186_0
    try clear hfz186_1
    try clear hfz186_2
    try clear hfz186_3
    try clear hfz191_0
    try clear hfz191_1
    try clear hfz191_2
    try clear hfz195_0
    try clear hfz195_1
    try clear hfz195_2
    try clear hfz195_3
    try clear hfz200_0
    try clear hfz200_1
    try clear hfz200_2
    try clear hfz20_0
    try clear hfz20_1
    try clear hfz20_2
    try clear hfz33_0
    try clear hfz33_1
    try clear hfz33_2
    try clear hfz37_0
    try clear hfz37_1
    try clear hfz37_2
    try clear hfz37_3
    try clear hfz42_0
    try clear hfz42_1
    try clear hfz42_2
    try clear hfz46_0
    try clear hfz46_1
    try clear hfz46_2
    try clear hfz46_3
    try clear hfz51_0
    try clear hfz51_1
    try clear hfz51_2
    try clear hfz57_0
    try clear hfz57_1
    try clear hfz57_2
    try clear hfz60_0
    try clear hfz60_1
    try clear hfz60_2
    try clear hfz65_0
    try clear hfz65_1
    try clear hfz65_2
    try clear hfz65_3
    try clear hfz68_0
    try clear hfz68_1
    try clear hfz68_2
    try clear hfz70_0
    try clear hfz70_1
    try clear hfz70_2
    try clear hfz71_0
    try clear hfz71_1
    try clear hfz71_2
    try clear hfz76_0
    try clear hfz76_1
    try clear hfz76_2
    try clear hfz76_3
    try clear hfz79_0
    try clear hfz79_1
    try clear hfz79_2
    try clear hfz81_0
    try clear hfz81_1
    try clear hfz81_2
    try clear hfz82_0
    try clear hfz82_1
    try clear hfz82_2
    try clear hfz87_0
    try clear hfz87_1
    try clear hfz87_2
    try clear hfz87_3
    try clear hfz90_0
    try clear hfz90_1
    try clear hfz90_2
    try clear hfz92_0
    try clear hfz92_1
    try clear hfz92_2
    try clear hx262_0
    try clear hx262_1
    try clear hx262_2
    try clear hx262_3
    try clear p2
    try clear p262
    try clear q262
    obtain ⟨kq, x26_156, rfl, HA, HJ156, HO_253000, HO_253001, BK242, BK243, BK244, BK252, HB⟩ := hcut
    cases kq with
    | zero => exact absurd HA.out (by simp [impl_AddJoin.j2])
    | succ kj156 =>
      have H := HA.out
      clear HA
      simp only [impl_AddJoin.j2] at H
      by_cases c202 : x26_156 = true
      · subst c202
        have H1 : (some (t245, t248, t251, ([] : List (S75)), 3)) = some (r1, r2, r3, r4, r5) := by rw [if_pos rfl] at H; exact H
        clear H
        have H := H1
        clear H1
        simp only [Option.some.injEq, Prod.mk.injEq] at H
        obtain ⟨rfl, rfl, rfl, rfl, rfl⟩ := H
        have hnb203 := NB252_242.out
        have hnc203 := NB242_252.out
        have hnb204 := NB252_243.out
        have hnc204 := NB243_252.out
        have hnb205 := NB252_244.out
        have hnc205 := NB244_252.out
        have hcz206_0 : wc.cell? ⟨gb252, 0, none⟩ = some (.slice Ao166 t245.length co166) := (blk_cell BK252.out 0).trans rfl
        have hcz206_1 : wc.cell? ⟨gb252, 1, none⟩ = some (.slice Ao171 t248.length co171) := (blk_cell BK252.out 1).trans rfl
        have hcz206_2 : wc.cell? ⟨gb252, 2, none⟩ = some (.int .i64 t251) := (blk_cell BK252.out 2).trans rfl
        have hfz206_0 := blk_frozen BK252.out 0
        have hfz206_1 := blk_frozen BK252.out 1
        have hfz206_2 := blk_frozen BK252.out 2
        have hnb207 := NB244_242.out
        have hnc207 := NB242_244.out
        have hnb208 := NB244_243.out
        have hnc208 := NB243_244.out
        have hcz209_0 : wc.cell? ⟨gb244, 0, none⟩ = some (.slice none 0 0) := (blk_cell BK244.out 0).trans rfl
        have hcz209_1 : wc.cell? ⟨gb244, 1, none⟩ = some (.slice none 0 0) := (blk_cell BK244.out 1).trans rfl
        have hcz209_2 : wc.cell? ⟨gb244, 2, none⟩ = some (.int .i64 0) := (blk_cell BK244.out 2).trans rfl
        have hfz209_0 := blk_frozen BK244.out 0
        have hfz209_1 := blk_frozen BK244.out 1
        have hfz209_2 := blk_frozen BK244.out 2
        go_wp2
        refine bodyPost_ret (results_ctt rfl _ _ gb244 30 #[.slice Ao166 t245.length co166, .slice Ao171 t248.length co171, .int .i64 t251] (0, 0) _ rfl (by (with_reducible repeat (first | refine blk_drewN ?_ _ | refine blk_drew ?_ | refine blk_alloc ?_ _)); refine blk_put (cs := #[.slice Ao166 t245.length co166, .slice Ao171 t248.length co171, .int .i64 0]) ?_ 2 _ rfl; (with_reducible repeat (first | refine blk_drewN ?_ _ | refine blk_drew ?_ | refine blk_alloc ?_ _)); refine blk_put (cs := #[.slice Ao166 t245.length co166, .slice none 0 0, .int .i64 0]) ?_ 1 _ rfl; (with_reducible repeat (first | refine blk_drewN ?_ _ | refine blk_drew ?_ | refine blk_alloc ?_ _)); refine blk_put (cs := #[.slice none 0 0, .slice none 0 0, .int .i64 0]) ?_ 0 _ rfl; (with_reducible repeat (first | refine blk_drewN ?_ _ | refine blk_drew ?_ | refine blk_alloc ?_ _)); exact BK244.out) Try.underlying30 rfl (by kernel_rfl)) rfl ?_
        exact ⟨_, _, _, by first | rfl | (simp [errW_none, errW_some] <;> rfl) | (simp [*, errW_none, errW_some] <;> rfl), by (with_reducible repeat (first | apply Kd.R_alloc | apply Kd.R_drewN | apply Kd.R_drew)); exact Kd.R_mono (Kd.R_far (p := ⟨gb244, 2, none⟩) (Kd.R_far (p := ⟨gb244, 1, none⟩) (Kd.R_far (p := ⟨gb244, 0, none⟩) (Kd.R_types HO_253000.out BK244.out (by decide)) (fun _ hk => hk.2) (.slice Ao166 t245.length co166)) (fun _ hk => hk.2) (.slice Ao171 t248.length co171)) (fun _ hk => hk.2) (.int .i64 t251)) (fun _ hk => hk.1.1), by (with_reducible repeat (first | apply Kd.R_alloc | apply Kd.R_drewN | apply Kd.R_drew)); exact Kd.R_mono (Kd.R_far (p := ⟨gb244, 2, none⟩) (Kd.R_far (p := ⟨gb244, 1, none⟩) (Kd.R_far (p := ⟨gb244, 0, none⟩) (Kd.R_types HO_253001.out BK244.out (by decide)) (fun _ hk => hk.2) (.slice Ao166 t245.length co166)) (fun _ hk => hk.2) (.slice Ao171 t248.length co171)) (fun _ hk => hk.2) (.int .i64 t251)) (fun _ hk => hk.1.1), by first | exact Kd.R_nil _ _ _ _ _ | exact Kd.N_nil _ _ _ _ _ | exact Kd.V_nil _ _ _ _ _ | exact Kd.Q_nil _ _ _ _ _ | exact Kd.S_nil _ _ _ _ _, by repeat (first | (with_reducible first | exact HB.out | apply below_alloc | apply pw_below_drewN | apply below_drew1 | refine below_set ?_ GE242.out | refine below_set ?_ GE243.out | refine below_set ?_ GE244.out | refine below_set ?_ GE252.out) | exact HB.out)⟩
      replace c202 := Bool.eq_false_iff.mpr c202
      subst c202
      have H1 : (if a3_2 ≤ a0_2 then (some (t245, t248, t251, ([] : List (S75)), 1)) else (if (t248.length : Int) = 40 then (some (t245, t248, t251, ([] : List (S75)), 2)) else (if t248.length < 4398046511104 then (impl_AddJoin.l1 kj156 a1 false (([] : List (S75))) l0_0 (l0_0.length : Int) 0 a3_0 a3_1 a3_2 a3_3 t245 (t248 ++ [(⟨a3_0, a3_1, a3_2, a3_3⟩ : S35)]) t251) else (none)))) = some (r1, r2, r3, r4, r5) := by rw [if_neg (show ¬ (false = true) by decide)] at H; exact H
      clear H
      have H := H1
      clear H1
      by_cases c210 : a3_2 ≤ a0_2
      · rw [if_pos c210] at H
        have c210b0 : decide (a3_2 ≤ a0_2) = true := decide_eq_true c210
        clear c210
        simp only [Option.some.injEq, Prod.mk.injEq] at H
        obtain ⟨rfl, rfl, rfl, rfl, rfl⟩ := H
        have hnb211 := NB243_242.out
        have hnc211 := NB242_243.out
        have hnb212 := NB243_244.out
        have hnc212 := NB244_243.out
        have hnb213 := NB243_252.out
        have hnc213 := NB252_243.out
        have hcz214_0 : wc.cell? ⟨gb243, 0, none⟩ = some (.int .i64 a3_0) := (blk_cell BK243.out 0).trans rfl
        have hcz214_1 : wc.cell? ⟨gb243, 1, none⟩ = some (.int .i64 a3_1) := (blk_cell BK243.out 1).trans rfl
        have hcz214_2 : wc.cell? ⟨gb243, 2, none⟩ = some (.int .i64 a3_2) := (blk_cell BK243.out 2).trans rfl
        have hcz214_3 : wc.cell? ⟨gb243, 3, none⟩ = some (.int .i64 a3_3) := (blk_cell BK243.out 3).trans rfl
        have hfz214_0 := blk_frozen BK243.out 0
        have hfz214_1 := blk_frozen BK243.out 1
        have hfz214_2 := blk_frozen BK243.out 2
        have hfz214_3 := blk_frozen BK243.out 3
        have hnb215 := NB242_244.out
        have hnc215 := NB244_242.out
        have hnb216 := NB242_252.out
        have hnc216 := NB252_242.out
        have hcz217_0 : wc.cell? ⟨gb242, 0, none⟩ = some (.slice A0_0 l0_0.length c0_0) := (blk_cell BK242.out 0).trans rfl
        have hcz217_1 : wc.cell? ⟨gb242, 1, none⟩ = some (.slice A0_1 l0_1.length c0_1) := (blk_cell BK242.out 1).trans rfl
        have hcz217_2 : wc.cell? ⟨gb242, 2, none⟩ = some (.int .i64 a0_2) := (blk_cell BK242.out 2).trans rfl
        have hfz217_0 := blk_frozen BK242.out 0
        have hfz217_1 := blk_frozen BK242.out 1
        have hfz217_2 := blk_frozen BK242.out 2
        have hnb218 := NB252_244.out
        have hnc218 := NB244_252.out
        have hcz219_0 : wc.cell? ⟨gb252, 0, none⟩ = some (.slice Ao166 t245.length co166) := (blk_cell BK252.out 0).trans rfl
        have hcz219_1 : wc.cell? ⟨gb252, 1, none⟩ = some (.slice Ao171 t248.length co171) := (blk_cell BK252.out 1).trans rfl
        have hcz219_2 : wc.cell? ⟨gb252, 2, none⟩ = some (.int .i64 t251) := (blk_cell BK252.out 2).trans rfl
        have hfz219_0 := blk_frozen BK252.out 0
        have hfz219_1 := blk_frozen BK252.out 1
        have hfz219_2 := blk_frozen BK252.out 2
        have hcz220_0 : wc.cell? ⟨gb244, 0, none⟩ = some (.slice none 0 0) := (blk_cell BK244.out 0).trans rfl
        have hcz220_1 : wc.cell? ⟨gb244, 1, none⟩ = some (.slice none 0 0) := (blk_cell BK244.out 1).trans rfl
        have hcz220_2 : wc.cell? ⟨gb244, 2, none⟩ = some (.int .i64 0) := (blk_cell BK244.out 2).trans rfl
        have hfz220_0 := blk_frozen BK244.out 0
        have hfz220_1 := blk_frozen BK244.out 1
        have hfz220_2 := blk_frozen BK244.out 2
        go_wp2
        refine bodyPost_ret (results_ctt rfl _ _ gb244 30 #[.slice Ao166 t245.length co166, .slice Ao171 t248.length co171, .int .i64 t251] (0, 0) _ rfl (by (with_reducible repeat (first | refine blk_drewN ?_ _ | refine blk_drew ?_ | refine blk_alloc ?_ _)); refine blk_put (cs := #[.slice Ao166 t245.length co166, .slice Ao171 t248.length co171, .int .i64 0]) ?_ 2 _ rfl; (with_reducible repeat (first | refine blk_drewN ?_ _ | refine blk_drew ?_ | refine blk_alloc ?_ _)); refine blk_put (cs := #[.slice Ao166 t245.length co166, .slice none 0 0, .int .i64 0]) ?_ 1 _ rfl; (with_reducible repeat (first | refine blk_drewN ?_ _ | refine blk_drew ?_ | refine blk_alloc ?_ _)); refine blk_put (cs := #[.slice none 0 0, .slice none 0 0, .int .i64 0]) ?_ 0 _ rfl; (with_reducible repeat (first | refine blk_drewN ?_ _ | refine blk_drew ?_ | refine blk_alloc ?_ _)); exact BK244.out) Try.underlying30 rfl (by kernel_rfl)) rfl ?_
        exact ⟨_, _, _, by first | rfl | (simp [errW_none, errW_some] <;> rfl) | (simp [*, errW_none, errW_some] <;> rfl), by (with_reducible repeat (first | apply Kd.R_alloc | apply Kd.R_drewN | apply Kd.R_drew)); exact Kd.R_mono (Kd.R_far (p := ⟨gb244, 2, none⟩) (Kd.R_far (p := ⟨gb244, 1, none⟩) (Kd.R_far (p := ⟨gb244, 0, none⟩) (Kd.R_types HO_253000.out BK244.out (by decide)) (fun _ hk => hk.2) (.slice Ao166 t245.length co166)) (fun _ hk => hk.2) (.slice Ao171 t248.length co171)) (fun _ hk => hk.2) (.int .i64 t251)) (fun _ hk => hk.1.1), by (with_reducible repeat (first | apply Kd.R_alloc | apply Kd.R_drewN | apply Kd.R_drew)); exact Kd.R_mono (Kd.R_far (p := ⟨gb244, 2, none⟩) (Kd.R_far (p := ⟨gb244, 1, none⟩) (Kd.R_far (p := ⟨gb244, 0, none⟩) (Kd.R_types HO_253001.out BK244.out (by decide)) (fun _ hk => hk.2) (.slice Ao166 t245.length co166)) (fun _ hk => hk.2) (.slice Ao171 t248.length co171)) (fun _ hk => hk.2) (.int .i64 t251)) (fun _ hk => hk.1.1), by first | exact Kd.R_nil _ _ _ _ _ | exact Kd.N_nil _ _ _ _ _ | exact Kd.V_nil _ _ _ _ _ | exact Kd.Q_nil _ _ _ _ _ | exact Kd.S_nil _ _ _ _ _, by repeat (first | (with_reducible first | exact HB.out | apply below_alloc | apply pw_below_drewN | apply below_drew1 | refine below_set ?_ GE242.out | refine below_set ?_ GE243.out | refine below_set ?_ GE244.out | refine below_set ?_ GE252.out) | exact HB.out)⟩
      rw [if_neg c210] at H
      have c210b0 : decide (a3_2 ≤ a0_2) = false := decide_eq_false c210
      clear c210
      by_cases c221 : (t248.length : Int) = 40
      · rw [if_pos c221] at H
        have c221b0 : ((t248.length : Int) == 40) = true := beq_iff_eq.mpr c221
        have c221b1 : ((t248.length : Int) != 40) = false := bne_eq_false_iff_eq.mpr c221
        clear c221
        simp only [Option.some.injEq, Prod.mk.injEq] at H
        obtain ⟨rfl, rfl, rfl, rfl, rfl⟩ := H
        have hnb222 := NB243_242.out
        have hnc222 := NB242_243.out
        have hnb223 := NB243_244.out
        have hnc223 := NB244_243.out
        have hnb224 := NB243_252.out
        have hnc224 := NB252_243.out
        have hcz225_0 : wc.cell? ⟨gb243, 0, none⟩ = some (.int .i64 a3_0) := (blk_cell BK243.out 0).trans rfl
        have hcz225_1 : wc.cell? ⟨gb243, 1, none⟩ = some (.int .i64 a3_1) := (blk_cell BK243.out 1).trans rfl
        have hcz225_2 : wc.cell? ⟨gb243, 2, none⟩ = some (.int .i64 a3_2) := (blk_cell BK243.out 2).trans rfl
        have hcz225_3 : wc.cell? ⟨gb243, 3, none⟩ = some (.int .i64 a3_3) := (blk_cell BK243.out 3).trans rfl
        have hfz225_0 := blk_frozen BK243.out 0
        have hfz225_1 := blk_frozen BK243.out 1
        have hfz225_2 := blk_frozen BK243.out 2
        have hfz225_3 := blk_frozen BK243.out 3
        have hnb226 := NB242_244.out
        have hnc226 := NB244_242.out
        have hnb227 := NB242_252.out
        have hnc227 := NB252_242.out
        have hcz228_0 : wc.cell? ⟨gb242, 0, none⟩ = some (.slice A0_0 l0_0.length c0_0) := (blk_cell BK242.out 0).trans rfl
        have hcz228_1 : wc.cell? ⟨gb242, 1, none⟩ = some (.slice A0_1 l0_1.length c0_1) := (blk_cell BK242.out 1).trans rfl
        have hcz228_2 : wc.cell? ⟨gb242, 2, none⟩ = some (.int .i64 a0_2) := (blk_cell BK242.out 2).trans rfl
        have hfz228_0 := blk_frozen BK242.out 0
        have hfz228_1 := blk_frozen BK242.out 1
        have hfz228_2 := blk_frozen BK242.out 2
        have hnb229 := NB252_244.out
        have hnc229 := NB244_252.out
        have hcz230_0 : wc.cell? ⟨gb252, 0, none⟩ = some (.slice Ao166 t245.length co166) := (blk_cell BK252.out 0).trans rfl
        have hcz230_1 : wc.cell? ⟨gb252, 1, none⟩ = some (.slice Ao171 t248.length co171) := (blk_cell BK252.out 1).trans rfl
        have hcz230_2 : wc.cell? ⟨gb252, 2, none⟩ = some (.int .i64 t251) := (blk_cell BK252.out 2).trans rfl
        have hfz230_0 := blk_frozen BK252.out 0
        have hfz230_1 := blk_frozen BK252.out 1
        have hfz230_2 := blk_frozen BK252.out 2
        have hcz231_0 : wc.cell? ⟨gb244, 0, none⟩ = some (.slice none 0 0) := (blk_cell BK244.out 0).trans rfl
        have hcz231_1 : wc.cell? ⟨gb244, 1, none⟩ = some (.slice none 0 0) := (blk_cell BK244.out 1).trans rfl
        have hcz231_2 : wc.cell? ⟨gb244, 2, none⟩ = some (.int .i64 0) := (blk_cell BK244.out 2).trans rfl
        have hfz231_0 := blk_frozen BK244.out 0
        have hfz231_1 := blk_frozen BK244.out 1
        have hfz231_2 := blk_frozen BK244.out 2
        go_wp2
        refine bodyPost_ret (results_ctt rfl _ _ gb244 30 #[.slice Ao166 t245.length co166, .slice Ao171 t248.length co171, .int .i64 t251] (0, 0) _ rfl (by (with_reducible repeat (first | refine blk_drewN ?_ _ | refine blk_drew ?_ | refine blk_alloc ?_ _)); refine blk_put (cs := #[.slice Ao166 t245.length co166, .slice Ao171 t248.length co171, .int .i64 0]) ?_ 2 _ rfl; (with_reducible repeat (first | refine blk_drewN ?_ _ | refine blk_drew ?_ | refine blk_alloc ?_ _)); refine blk_put (cs := #[.slice Ao166 t245.length co166, .slice none 0 0, .int .i64 0]) ?_ 1 _ rfl; (with_reducible repeat (first | refine blk_drewN ?_ _ | refine blk_drew ?_ | refine blk_alloc ?_ _)); refine blk_put (cs := #[.slice none 0 0, .slice none 0 0, .int .i64 0]) ?_ 0 _ rfl; (with_reducible repeat (first | refine blk_drewN ?_ _ | refine blk_drew ?_ | refine blk_alloc ?_ _)); exact BK244.out) Try.underlying30 rfl (by kernel_rfl)) rfl ?_
        exact ⟨_, _, _, by first | rfl | (simp [errW_none, errW_some] <;> rfl) | (simp [*, errW_none, errW_some] <;> rfl), by (with_reducible repeat (first | apply Kd.R_alloc | apply Kd.R_drewN | apply Kd.R_drew)); exact Kd.R_mono (Kd.R_far (p := ⟨gb244, 2, none⟩) (Kd.R_far (p := ⟨gb244, 1, none⟩) (Kd.R_far (p := ⟨gb244, 0, none⟩) (Kd.R_types HO_253000.out BK244.out (by decide)) (fun _ hk => hk.2) (.slice Ao166 t245.length co166)) (fun _ hk => hk.2) (.slice Ao171 t248.length co171)) (fun _ hk => hk.2) (.int .i64 t251)) (fun _ hk => hk.1.1), by (with_reducible repeat (first | apply Kd.R_alloc | apply Kd.R_drewN | apply Kd.R_drew)); exact Kd.R_mono (Kd.R_far (p := ⟨gb244, 2, none⟩) (Kd.R_far (p := ⟨gb244, 1, none⟩) (Kd.R_far (p := ⟨gb244, 0, none⟩) (Kd.R_types HO_253001.out BK244.out (by decide)) (fun _ hk => hk.2) (.slice Ao166 t245.length co166)) (fun _ hk => hk.2) (.slice Ao171 t248.length co171)) (fun _ hk => hk.2) (.int .i64 t251)) (fun _ hk => hk.1.1), by first | exact Kd.R_nil _ _ _ _ _ | exact Kd.N_nil _ _ _ _ _ | exact Kd.V_nil _ _ _ _ _ | exact Kd.Q_nil _ _ _ _ _ | exact Kd.S_nil _ _ _ _ _, by repeat (first | (with_reducible first | exact HB.out | apply below_alloc | apply pw_below_drewN | apply below_drew1 | refine below_set ?_ GE242.out | refine below_set ?_ GE243.out | refine below_set ?_ GE244.out | refine below_set ?_ GE252.out) | exact HB.out)⟩
      rw [if_neg c221] at H
      have c221b0 : ((t248.length : Int) == 40) = false := beq_eq_false_iff_ne.mpr c221
      have c221b1 : ((t248.length : Int) != 40) = true := bne_iff_ne.mpr c221
      by_cases c232 : t248.length < 4398046511104
      rotate_left
      · rw [if_neg c232] at H
        exact absurd H (by simp)
      rw [if_pos c232] at H
      have LMc232 := Aside0.mk c232
      clear c232
      obtain ⟨y284, hy284⟩ : ∃ y_ : List (S35), y_ = (t248 ++ [(⟨a3_0, a3_1, a3_2, a3_3⟩ : S35)]) := ⟨_, rfl⟩
      replace H : (impl_AddJoin.l1 kj156 a1 false (([] : List (S75))) l0_0 (l0_0.length : Int) 0 a3_0 a3_1 a3_2 a3_3 t245 y284 t251) = some (r1, r2, r3, r4, r5) := by first | (rw [hy284]; with_reducible exact H) | (have H2_ := (Option.bind_some _ _).symm.trans H; rw [hy284]; with_reducible exact H2_) | (have H2_ := (Option.bind_some _ _).symm.trans H; with_reducible exact H2_) | with_reducible exact H | (rw [hy284]; exact H) | exact H
      have Ny284 := Aside0.mk hy284
      clear hy284
      obtain ⟨y287, hy287⟩ : ∃ y_ : List (S75), y_ = (([] : List (S75))) := ⟨_, rfl⟩
      replace H : (impl_AddJoin.l1 kj156 a1 false y287 l0_0 (l0_0.length : Int) 0 a3_0 a3_1 a3_2 a3_3 t245 y284 t251) = some (r1, r2, r3, r4, r5) := by first | (rw [hy287]; with_reducible exact H) | (have H2_ := (Option.bind_some _ _).symm.trans H; rw [hy287]; with_reducible exact H2_) | (have H2_ := (Option.bind_some _ _).symm.trans H; with_reducible exact H2_) | with_reducible exact H | (rw [hy287]; exact H) | exact H
      have Ny287 := Aside0.mk hy287
      clear hy287
      have H' := Aside0.mk H
      clear H
      have hnb233 := NB243_242.out
      have hnc233 := NB242_243.out
      have hnb234 := NB243_244.out
      have hnc234 := NB244_243.out
      have hnb235 := NB243_252.out
      have hnc235 := NB252_243.out
      have hcz236_0 : wc.cell? ⟨gb243, 0, none⟩ = some (.int .i64 a3_0) := (blk_cell BK243.out 0).trans rfl
      have hcz236_1 : wc.cell? ⟨gb243, 1, none⟩ = some (.int .i64 a3_1) := (blk_cell BK243.out 1).trans rfl
      have hcz236_2 : wc.cell? ⟨gb243, 2, none⟩ = some (.int .i64 a3_2) := (blk_cell BK243.out 2).trans rfl
      have hcz236_3 : wc.cell? ⟨gb243, 3, none⟩ = some (.int .i64 a3_3) := (blk_cell BK243.out 3).trans rfl
      have hfz236_0 := blk_frozen BK243.out 0
      have hfz236_1 := blk_frozen BK243.out 1
      have hfz236_2 := blk_frozen BK243.out 2
      have hfz236_3 := blk_frozen BK243.out 3
      have hnb237 := NB242_244.out
      have hnc237 := NB244_242.out
      have hnb238 := NB242_252.out
      have hnc238 := NB252_242.out
      have hcz239_0 : wc.cell? ⟨gb242, 0, none⟩ = some (.slice A0_0 l0_0.length c0_0) := (blk_cell BK242.out 0).trans rfl
      have hcz239_1 : wc.cell? ⟨gb242, 1, none⟩ = some (.slice A0_1 l0_1.length c0_1) := (blk_cell BK242.out 1).trans rfl
      have hcz239_2 : wc.cell? ⟨gb242, 2, none⟩ = some (.int .i64 a0_2) := (blk_cell BK242.out 2).trans rfl
      have hfz239_0 := blk_frozen BK242.out 0
      have hfz239_1 := blk_frozen BK242.out 1
      have hfz239_2 := blk_frozen BK242.out 2
      have hnb240 := NB252_244.out
      have hnc240 := NB244_252.out
      have hcz241_0 : wc.cell? ⟨gb252, 0, none⟩ = some (.slice Ao166 t245.length co166) := (blk_cell BK252.out 0).trans rfl
      have hcz241_1 : wc.cell? ⟨gb252, 1, none⟩ = some (.slice Ao171 t248.length co171) := (blk_cell BK252.out 1).trans rfl
      have hcz241_2 : wc.cell? ⟨gb252, 2, none⟩ = some (.int .i64 t251) := (blk_cell BK252.out 2).trans rfl
      have hfz241_0 := blk_frozen BK252.out 0
      have hfz241_1 := blk_frozen BK252.out 1
      have hfz241_2 := blk_frozen BK252.out 2
      try go_wp2
      replace HO_253000 := am (Kd.R_drew HO_253000.out)
      replace HO_253001 := am (Kd.R_drew HO_253001.out)
      replace BK242 := am (blk_drew BK242.out)
      replace BK243 := am (blk_drew BK243.out)
      replace BK244 := am (blk_drew BK244.out)
      replace BK252 := am (blk_drew BK252.out)
      replace HB := am (below_drew1 HB.out)
      refine start_ (n := 9) (S := fun w' => w'.cell? ⟨gb252, 0, none⟩ = some (.slice Ao166 t245.length co166) ∧ w'.cell? ⟨gb252, 1, none⟩ = some (.slice Ao171 t248.length co171) ∧ w'.cell? ⟨gb252, 2, none⟩ = some (.int .i64 t251) ∧ w'.cell? ⟨gb243, 0, none⟩ = some (.int .i64 a3_0) ∧ w'.cell? ⟨gb243, 1, none⟩ = some (.int .i64 a3_1) ∧ w'.cell? ⟨gb243, 2, none⟩ = some (.int .i64 a3_2) ∧ w'.cell? ⟨gb243, 3, none⟩ = some (.int .i64 a3_3)) (ds := [8]) #[false, false, false, false, false, false, false, false, false] (by kernel_rfl) rfl rfl ⟨(blk_cell BK252.out 0).trans rfl, (blk_cell BK252.out 1).trans rfl, (blk_cell BK252.out 2).trans rfl, (blk_cell BK243.out 0).trans rfl, (blk_cell BK243.out 1).trans rfl, (blk_cell BK243.out 2).trans rfl, (blk_cell BK243.out 3).trans rfl⟩ (fun hHeld => ?_); refine with_tabW impl_AddJoin.tab11 impl_AddJoin.bits11 (fun HT_ HW_ => ?_)
      generalize wc.drew = w242 at HO_253000 HO_253001 BK242 BK243 BK244 BK252 HB hHeld ⊢
      refine pure_ (i := 0) (N := some 55) (v := ?_) (a' := ?_) #[true, false, false, false, false, false, false, false, false] rfl rfl (any_of HT_.out (by kernel_rfl)) (fun _ _ _ h => h) (Or.inl ⟨by rfl, ?_⟩) ?_ ?_
      rotate_left
      · intro w'
        go_simp
        with_reducible rfl
      rotate_left
      · simp only [Act.put, List.setIfInBounds_toArray, List.set_cons_zero, List.set_cons_succ, i64_w, i32_w]
        rfl
      refine pure_ (i := 1) (N := some 56) (v := ?_) (a' := ?_) #[true, true, false, false, false, false, false, false, false] rfl rfl (any_of HT_.out (by kernel_rfl)) (fun _ _ _ h => h) (Or.inl ⟨by rfl, ?_⟩) ?_ ?_
      rotate_left
      · intro w'
        go_simp
        with_reducible rfl
      rotate_left
      · simp only [Act.put, List.setIfInBounds_toArray, List.set_cons_zero, List.set_cons_succ, i64_w, i32_w]
        rfl
      refine pure_ (i := 2) (N := some 57) (v := ?_) (a' := ?_) #[true, true, true, false, false, false, false, false, false] rfl rfl (any_of HT_.out (by kernel_rfl)) (fun _ _ _ h => h) (Or.inl ⟨by rfl, ?_⟩) ?_ ?_
      rotate_left
      · intro w'
        go_simp
        with_reducible rfl
      rotate_left
      · simp only [Act.put, List.setIfInBounds_toArray, List.set_cons_zero, List.set_cons_succ, i64_w, i32_w]
        rfl
      refine take_ (i := 3) (N := some 58) (v := ?_) (a' := ?_) #[true, true, true, true, false, false, false, false, false] rfl rfl (take_ofW HT_.out HW_.out (by kernel_rfl)) (fun _ _ _ h => h) (Or.inl ⟨by rfl, ?_⟩) hHeld ?_ ?_
      rotate_left
      · rintro w' ⟨s0, s1, s2, s3, s4, s5, s6⟩
        go_simp
        with_reducible rfl
      rotate_left
      · simp only [Act.put, List.setIfInBounds_toArray, List.set_cons_zero, List.set_cons_succ, i64_w, i32_w]
        rfl
      refine take_ (i := 4) (N := some 59) (v := ?_) (a' := ?_) #[true, true, true, true, true, false, false, false, false] rfl rfl (take_ofW HT_.out HW_.out (by kernel_rfl)) (fun _ _ _ h => h) (Or.inl ⟨by rfl, ?_⟩) hHeld ?_ ?_
      rotate_left
      · rintro w' ⟨s0, s1, s2, s3, s4, s5, s6⟩
        go_simp
        with_reducible rfl
      rotate_left
      · simp only [Act.put, List.setIfInBounds_toArray, List.set_cons_zero, List.set_cons_succ, i64_w, i32_w]
        rfl
      refine one_ (i := 5) (N := some 60) #[true, true, true, true, true, true, false, false, false] rfl rfl (one_of HT_.out (by kernel_rfl)) (by decide) (fun K hK => ?_)
      refine value_ (w1 := ?_) (v := ?_) (by rfl) rfl ?_ ?_
      rotate_left 2
      · go_simp
        constructor
        · rfl
        · rfl
      refine hK.out _ _ ⟨(blk_cell (blk_alloc BK252.out _) 0).trans rfl, (blk_cell (blk_alloc BK252.out _) 1).trans rfl, (blk_cell (blk_alloc BK252.out _) 2).trans rfl, (blk_cell (blk_alloc BK243.out _) 0).trans rfl, (blk_cell (blk_alloc BK243.out _) 1).trans rfl, (blk_cell (blk_alloc BK243.out _) 2).trans rfl, (blk_cell (blk_alloc BK243.out _) 3).trans rfl⟩ (fun hHeld => ?_)
      clear hK K
      refine norm_ (a' := ?_) ?_ ?_
      rotate_left
      · show Act.put _ (some 60) _ = _
        simp only [Act.put, List.setIfInBounds_toArray, List.set_cons_zero, List.set_cons_succ, i64_w, i32_w]
        rfl
      refine one_ (i := 6) (N := some 61) #[true, true, true, true, true, true, true, false, false] rfl rfl (one_of HT_.out (by kernel_rfl)) (by decide) (fun K hK => ?_)
      refine Kd.R_append_step k35 (w0 := w) w.heap.size (by rfl) (.tmp 58) (.tmp 60) 28 35 (.agg #[(.int .i64 0), (.int .i64 0), (.int .i64 0), (.int .i64 0)]) 32 rfl Try.underlying28 info35 rfl (by decide) (by omega) (.slice Ao171 t248.length co171) t248 (⟨a3_0, a3_1, a3_2, a3_3⟩ : S35) [.int .i64 a3_0, .int .i64 a3_1, .int .i64 a3_2, .int .i64 a3_3] (fun k_ => nb k_ (sv Ao166 t245 co166) ∧ k_ ≠ gb243) (fun _ => False) rfl rfl ?aP (fun _ hk => hk.elim) ?aF ?aO ?aB ?aS ?aL ?_
      (case aP => exact k35_mkM _ _ _ (⟨a3_0, a3_1, a3_2, a3_3⟩ : S35))
      (case aB => exact bel)
      (case aF => exact (fun k_ hk => ⟨Kd.fresh' (Kd.R_lt (rq HO_253000.out)) k_ hk, Kd.freshB (blkq BK243.out) k_ hk⟩))
      (case aO => exact (rq HO_253001.out))
      (case aS => exact (below_size bel))
      (case aL => have := LMc232.out; omega)
      intro v285 w243 ho hb hg hat
      rw [← Ny284.out] at ho
      replace HO_253000 := am (Kd.R_after (ok := (fun k_ => k_ ≠ gb243)) (by (with_reducible repeat (first | apply Kd.R_alloc | apply Kd.R_drewN | apply Kd.R_drew)); exact Kd.R_mono HO_253000.out (fun _ hk => ⟨hk.2, hk.1⟩)) hg hat)
      replace BK242 := am (blk_grown (blkq BK242.out) hg (Kd.R_ne HO_253001.out BK242.out (by decide)))
      replace BK243 := am (blk_grown (blkq BK243.out) hg (Kd.R_away HO_253001.out (fun _ hk => hk.2)))
      replace BK244 := am (blk_grown (blkq BK244.out) hg (Kd.R_ne HO_253001.out BK244.out (by decide)))
      replace BK252 := am (blk_grown (blkq BK252.out) hg (Kd.R_ne HO_253001.out BK252.out (by decide)))
      replace HB := am (hb)
      have HO286 := am (ho)
      clear HO_253001 ho hb hg hat
      obtain ⟨Ao244, co244, eo244⟩ := Kd.R_slice HO286.out
      (first | subst eo244 | (injection eo244 with f1_ f2_ f3_; have f4_ := f1_.symm; have f5_ := f3_.symm; clear f1_ f2_ f3_; subst f4_; subst f5_))
      refine hK.out _ _ ⟨(blk_cell BK252.out 0).trans rfl, (blk_cell BK252.out 1).trans rfl, (blk_cell BK252.out 2).trans rfl, (blk_cell BK243.out 0).trans rfl, (blk_cell BK243.out 1).trans rfl, (blk_cell BK243.out 2).trans rfl, (blk_cell BK243.out 3).trans rfl⟩ (fun hHeld => ?_)
      clear hK K
      refine norm_ (a' := ?_) ?_ ?_
      rotate_left
      · show Act.put _ (some 61) _ = _
        simp only [Act.put, List.setIfInBounds_toArray, List.set_cons_zero, List.set_cons_succ, i64_w, i32_w]
        rfl
      refine pure_ (i := 7) (N := some 62) (v := ?_) (a' := ?_) #[true, true, true, true, true, true, true, true, false] rfl rfl (any_of HT_.out (by kernel_rfl)) (fun _ _ _ h => h) (Or.inl ⟨by rfl, ?_⟩) ?_ ?_
      rotate_left
      · intro w'
        go_simp
        with_reducible rfl
      rotate_left
      · simp only [Act.put, List.setIfInBounds_toArray, List.set_cons_zero, List.set_cons_succ, i64_w, i32_w]
        rfl
      refine last_ (i := 8) (N := none) #[true, true, true, true, true, true, true, true, true] rfl rfl (one_of HT_.out (by kernel_rfl)) (by decide) (fun K hK => ?_)
      have hs245 : w243.cell? ⟨gb252, 1, none⟩ = some (.slice Ao171 t248.length co171) := (blk_cell BK252.out 1).trans rfl
      have hfs245 := blk_frozen BK252.out 1
      have hns245_0 := NB242_252.out
      have hns245_1 := NB243_252.out
      have hns245_2 := NB244_252.out
      have hms245_0 := NB252_242.out
      have hms245_1 := NB252_243.out
      have hms245_2 := NB252_244.out
      refine skip_ (w1 := ?_) (by rfl) rfl ?_ ?_
      rotate_left
      · go_simp
        rfl
      refine hK.out _ _ ?_
      clear hK K
      refine done_ (done_of HT_.out (by kernel_rfl)) ?_
      try go_wp2_with (first | ((with_reducible refine gate_dst (N := 63) rfl ?_); refine Kd.R_lit k75 _ 75 ?hg (N := 63) ?hd (xs := ([] : List (S75))) (inner := []) (ok := fun _ => True) (okp := fun _ => True) ?hr ?hp (fun _ hk => hk) trivial (Below.refl _ _) (Nat.le_refl _) (by simp) ?_; (case hd => rfl); (case hg => rfl); (case hr => first | (go_simp; done) | (go_simp; rfl)); (case hp => exact (Reps.none _ _)); intro v288 w246 ho247 hb hg_ hnew_; clear hg_ hnew_; (first | rw [← Ny287.out] at ho247 | (simp only [Int.reduceToNat] at ho247; rw [← Ny287.out] at ho247)); replace HO_253000 := am (Kd.R_below (by (with_reducible repeat (first | apply Kd.R_alloc | apply Kd.R_drewN | apply Kd.R_drew)); exact (Kd.R_mono (Kd.R_far (p := ⟨gb252, 1, none⟩) (Kd.R_types HO_253000.out BK252.out (by decide)) (fun _ hk => hk.2) (.slice Ao244 y284.length co244)) (fun _ h_ => h_.1))) hb); replace HO286 := am (Kd.R_below (by (with_reducible repeat (first | apply Kd.R_alloc | apply Kd.R_drewN | apply Kd.R_drew)); exact (Kd.R_mono (Kd.R_far (p := ⟨gb252, 1, none⟩) (Kd.R_types HO286.out BK252.out (by decide)) (fun _ hk => hk.2) (.slice Ao244 y284.length co244)) (fun _ h_ => h_.1))) hb); have HO289 := am (Kd.R_lower ho247 (below_size bel)); replace BK242 := am (blk_below (g := gb242) (o := .cells #[.slice A0_0 l0_0.length c0_0, .slice A0_1 l0_1.length c0_1, .int .i64 a0_2] 30 (0, 0)) (by (with_reducible repeat (first | refine blk_drewN ?_ _ | refine blk_drew ?_ | refine blk_alloc ?_ _)); refine blk_far ?_ NB242_252.out _; (with_reducible repeat (first | refine blk_drewN ?_ _ | refine blk_drew ?_ | refine blk_alloc ?_ _)); exact BK242.out) hb); replace BK243 := am (blk_below (g := gb243) (o := .cells #[.int .i64 a3_0, .int .i64 a3_1, .int .i64 a3_2, .int .i64 a3_3] 35 (0, 0)) (by (with_reducible repeat (first | refine blk_drewN ?_ _ | refine blk_drew ?_ | refine blk_alloc ?_ _)); refine blk_far ?_ NB243_252.out _; (with_reducible repeat (first | refine blk_drewN ?_ _ | refine blk_drew ?_ | refine blk_alloc ?_ _)); exact BK243.out) hb); replace BK244 := am (blk_below (g := gb244) (o := .cells #[.slice none 0 0, .slice none 0 0, .int .i64 0] 30 (0, 0)) (by (with_reducible repeat (first | refine blk_drewN ?_ _ | refine blk_drew ?_ | refine blk_alloc ?_ _)); refine blk_far ?_ NB244_252.out _; (with_reducible repeat (first | refine blk_drewN ?_ _ | refine blk_drew ?_ | refine blk_alloc ?_ _)); exact BK244.out) hb); replace BK252 := am (blk_below (g := gb252) (o := .cells #[.slice Ao166 t245.length co166, .slice Ao244 y284.length co244, .int .i64 t251] 30 (0, 0)) (by (with_reducible repeat (first | refine blk_drewN ?_ _ | refine blk_drew ?_ | refine blk_alloc ?_ _)); refine blk_put (cs := #[.slice Ao166 t245.length co166, .slice Ao171 t248.length co171, .int .i64 t251]) ?_ 1 _ rfl; (with_reducible repeat (first | refine blk_drewN ?_ _ | refine blk_drew ?_ | refine blk_alloc ?_ _)); exact BK252.out) hb); replace HB := am (below_step bel hb); clear hb ho247))
      go_loopg [14, 66] kj156 (fun kq v14 v66 w' => ∃ (x14_2 : List (S75)) (x66_2 : Int), v66 = .int .i64 x66_2 ∧ Aside0 (impl_AddJoin.l1 kq a1 false x14_2 l0_0 (l0_0.length : Int) x66_2 a3_0 a3_1 a3_2 a3_3 t245 y284 t251 = some (r1, r2, r3, r4, r5)) ∧ Aside0 (kq ≤ kj156) ∧ Aside0 (Kd.R k75 75 w' w.heap.size (fun _ => True) v14 x14_2) ∧ Aside0 (Kd.R k35 35 w' w.heap.size (fun k_ => some k_ ≠ ((.slice Ao244 y284.length co244) : Value).ownBlock ∧ k_ ≠ gb243) (.slice Ao166 t245.length co166) t245) ∧ Aside0 (Kd.R k35 35 w' w.heap.size (fun k_ => some k_ ≠ ((.slice Ao166 t245.length co166) : Value).ownBlock ∧ k_ ≠ gb243) (.slice Ao244 y284.length co244) y284) ∧ Aside0 (w'.heap[gb242]? = some (.cells #[(.slice A0_0 l0_0.length c0_0), (.slice A0_1 l0_1.length c0_1), .int .i64 a0_2] 30 (0, 0))) ∧ Aside0 (w'.heap[gb243]? = some (.cells #[.int .i64 a3_0, .int .i64 a3_1, .int .i64 a3_2, .int .i64 a3_3] 35 (0, 0))) ∧ Aside0 (w'.heap[gb244]? = some (.cells #[(.slice none 0 0), (.slice none 0 0), .int .i64 0] 30 (0, 0))) ∧ Aside0 (w'.heap[gb252]? = some (.cells #[(.slice Ao166 t245.length co166), (.slice Ao244 y284.length co244), .int .i64 t251] 30 (0, 0))) ∧ Aside0 (Below w.heap.size w w'))
      case atStart => exact ⟨(y287), (0), (by first | rfl | (simp; done) | (simp [*]; done)), H', ⟨Nat.le_refl _⟩, ⟨by (with_reducible repeat (first | apply Kd.R_alloc | apply Kd.R_drewN | apply Kd.R_drew)); exact HO289.out⟩, ⟨by (with_reducible repeat (first | apply Kd.R_alloc | apply Kd.R_drewN | apply Kd.R_drew)); exact Kd.R_mono HO_253000.out (fun _ hk => ⟨hk.2, hk.1⟩)⟩, ⟨by (with_reducible repeat (first | apply Kd.R_alloc | apply Kd.R_drewN | apply Kd.R_drew)); exact HO286.out⟩, ⟨by (with_reducible repeat (first | refine blk_drewN ?_ _ | refine blk_drew ?_ | refine blk_alloc ?_ _)); exact BK242.out⟩, ⟨by (with_reducible repeat (first | refine blk_drewN ?_ _ | refine blk_drew ?_ | refine blk_alloc ?_ _)); exact BK243.out⟩, ⟨by (with_reducible repeat (first | refine blk_drewN ?_ _ | refine blk_drew ?_ | refine blk_alloc ?_ _)); exact BK244.out⟩, ⟨by (with_reducible repeat (first | refine blk_drewN ?_ _ | refine blk_drew ?_ | refine blk_alloc ?_ _)); exact BK252.out⟩, ⟨by repeat (first | (with_reducible first | exact HB.out | apply below_alloc | apply pw_below_drewN | apply below_drew1 | refine below_set ?_ GE242.out | refine below_set ?_ GE243.out | refine below_set ?_ GE244.out | refine below_set ?_ GE252.out) | exact HB.out)⟩⟩
      case round =>
        clear H'
        try clear c2
        try clear p2
        try clear q2
        try clear hx2
        try clear c20
        try clear c21
        try clear c22
        try clear c23
        try clear c24
        try clear p26
        try clear q26
        try clear hx26
        try clear c202
        try clear c203
        try clear c204
        try clear c205
        try clear c207
        try clear c208
        try clear c210
        try clear c210b0
        try clear c211
        try clear c212
        try clear c213
        try clear c215
        try clear c216
        try clear c218
        try clear c221
        try clear c221b0
        try clear c221b1
        try clear c222
        try clear c223
        try clear c224
        try clear c226
        try clear c227
        try clear c229
        try clear c232
        try clear c233
        try clear c234
        try clear c235
        try clear c237
        try clear c238
        try clear c240
        try clear hcz129_2
        try clear hcz129_3
        try clear hcz133_0
        try clear hcz133_1
        try clear hcz133_2
        try clear hcz133_3
        try clear hcz135_0
        try clear hcz135_1
        try clear hcz135_2
        try clear hcz135_3
        try clear hcz136_0
        try clear hcz136_1
        try clear hcz136_2
        try clear hcz136_3
        try clear hcz13_0
        try clear hcz13_1
        try clear hcz13_2
        try clear hcz144_0
        try clear hcz144_1
        try clear hcz144_2
        try clear hcz144_3
        try clear hcz148_0
        try clear hcz148_1
        try clear hcz148_2
        try clear hcz148_3
        try clear hcz153_0
        try clear hcz153_1
        try clear hcz153_2
        try clear hcz156_0
        try clear hcz156_1
        try clear hcz156_2
        try clear hcz163_0
        try clear hcz163_1
        try clear hcz163_2
        try clear hcz170_0
        try clear hcz170_1
        try clear hcz170_2
        try clear hcz182_0
        try clear hcz182_1
        try clear hcz182_2
        try clear hcz186_0
        try clear hcz186_1
        try clear hcz186_2
        try clear hcz186_3
        try clear hcz191_0
        try clear hcz191_1
        try clear hcz191_2
        try clear hcz195_0
        try clear hcz195_1
        try clear hcz195_2
        try clear hcz195_3
        try clear hcz200_0
        try clear hcz200_1
        try clear hcz200_2
        try clear hcz206_0
        try clear hcz206_1
        try clear hcz206_2
        try clear hcz209_0
        try clear hcz209_1
        try clear hcz209_2
        try clear hcz20_0
        try clear hcz20_1
        try clear hcz20_2
        try clear hcz214_0
        try clear hcz214_1
        try clear hcz214_2
        try clear hcz214_3
        try clear hcz217_0
        try clear hcz217_1
        try clear hcz217_2
        try clear hcz219_0
        try clear hcz219_1
        try clear hcz219_2
        try clear hcz220_0
        try clear hcz220_1
        try clear hcz220_2
        try clear hcz225_0
        try clear hcz225_1
        try clear hcz225_2
        try clear hcz225_3
        try clear hcz228_0
        try clear hcz228_1
        try clear hcz228_2
        try clear hcz230_0
        try clear hcz230_1
        try clear hcz230_2
        try clear hcz231_0
        try clear hcz231_1
        try clear hcz231_2
        try clear hcz236_0
        try clear hcz236_1
        try clear hcz236_2
        try clear hcz236_3
        try clear hcz239_0
        try clear hcz239_1
        try clear hcz239_2
        try clear hcz241_0
        try clear hcz241_1
        try clear hcz241_2
        try clear hcz33_0
        try clear hcz33_1
        try clear hcz33_2
        try clear hcz37_0
        try clear hcz37_1
        try clear hcz37_2
        try clear hcz37_3
        try clear hcz42_0
        try clear hcz42_1
        try clear hcz42_2
        try clear hcz46_0
        try clear hcz46_1
        try clear hcz46_2
        try clear hcz46_3
        try clear hcz51_0
        try clear hcz51_1
        try clear hcz51_2
        try clear hcz57_0
        try clear hcz57_1
        try clear hcz57_2
        try clear hcz60_0
        try clear hcz60_1
        try clear hcz60_2
        try clear hcz65_0
        try clear hcz65_1
        try clear hcz65_2
        try clear hcz65_3
        try clear hcz68_0
        try clear hcz68_1
        try clear hcz68_2
        try clear hcz70_0
        try clear hcz70_1
        try clear hcz70_2
        try clear hcz71_0
        try clear hcz71_1
        try clear hcz71_2
        try clear hcz76_0
        try clear hcz76_1
        try clear hcz76_2
        try clear hcz76_3
        try clear hcz79_0
        try clear hcz79_1
        try clear hcz79_2
        try clear hcz81_0
        try clear hcz81_1
        try clear hcz81_2
        try clear hcz82_0
        try clear hcz82_1
        try clear hcz82_2
        try clear hcz87_0
        try clear hcz87_1
        try clear hcz87_2
        try clear hcz87_3
        try clear hcz90_0
        try clear hcz90_1
        try clear hcz90_2
        try clear hcz92_0
        try clear hcz92_1
        try clear hcz92_2
        try clear hfz112_0
        try clear hfz112_1
        try clear hfz112_2
        try clear hfz112_3
        try clear hfz116_0
        try clear hfz116_1
        try clear hfz116_2
        try clear hfz116_3
        try clear hfz118_0
        try clear hfz118_1
        try clear hfz118_2
        try clear hfz118_3
        try clear hfz119_0
        try clear hfz119_1
        try clear hfz119_2
        try clear hfz119_3
        try clear hfz129_0
        try clear hfz129_1
        try clear hfz129_2
        try clear hfz129_3
        try clear hfz133_0
        try clear hfz133_1
        try clear hfz133_2
        try clear hfz133_3
        try clear hfz135_0
        try clear hfz135_1
        try clear hfz135_2
        try clear hfz135_3
        try clear hfz136_0
        try clear hfz136_1
        try clear hfz136_2
        try clear hfz136_3
        try clear hfz13_0
        try clear hfz13_1
        try clear hfz13_2
        try clear hfz144_0
        try clear hfz144_1
        try clear hfz144_2
        try clear hfz144_3
        try clear hfz148_0
        try clear hfz148_1
        try clear hfz148_2
        try clear hfz148_3
        try clear hfz153_0
        try clear hfz153_1
        try clear hfz153_2
        try clear hfz156_0
        try clear hfz156_1
        try clear hfz156_2
        try clear hfz163_0
        try clear hfz163_1
        try clear hfz163_2
        try clear hfz170_0
        try clear hfz170_1
        try clear hfz170_2
        try clear hfz182_0
        try clear hfz182_1
        try clear hfz182_2
        try clear hfz186_0
        try clear hfz186_1
        try clear hfz186_2
        try clear hfz186_3
        try clear hfz191_0
        try clear hfz191_1
        try clear hfz191_2
        try clear hfz195_0
        try clear hfz195_1
        try clear hfz195_2
        try clear hfz195_3
        try clear hfz200_0
        try clear hfz200_1
        try clear hfz200_2
        try clear hfz206_0
        try clear hfz206_1
        try clear hfz206_2
        try clear hfz209_0
        try clear hfz209_1
        try clear hfz209_2
        try clear hfz20_0
        try clear hfz20_1
        try clear hfz20_2
        try clear hfz214_0
        try clear hfz214_1
        try clear hfz214_2
        try clear hfz214_3
        try clear hfz217_0
        try clear hfz217_1
        try clear hfz217_2
        try clear hfz219_0
        try clear hfz219_1
        try clear hfz219_2
        try clear hfz220_0
        try clear hfz220_1
        try clear hfz220_2
        try clear hfz225_0
        try clear hfz225_1
        try clear hfz225_2
        try clear hfz225_3
        try clear hfz228_0
        try clear hfz228_1
        try clear hfz228_2
        try clear hfz230_0
        try clear hfz230_1
        try clear hfz230_2
        try clear hfz231_0
        try clear hfz231_1
        try clear hfz231_2
        try clear hfz236_0
        try clear hfz236_1
        try clear hfz236_2
        try clear hfz236_3
        try clear hfz239_0
        try clear hfz239_1
        try clear hfz239_2
        try clear hfz241_0
        try clear hfz241_1
        try clear hfz241_2
        try clear hfz33_0
        try clear hfz33_1
        try clear hfz33_2
        try clear hfz37_0
        try clear hfz37_1
        try clear hfz37_2
        try clear hfz37_3
        try clear hfz42_0
        try clear hfz42_1
        try clear hfz42_2
        try clear hfz46_0
        try clear hfz46_1
        try clear hfz46_2
        try clear hfz46_3
        try clear hfz51_0
        try clear hfz51_1
        try clear hfz51_2
        try clear hfz57_0
        try clear hfz57_1
        try clear hfz57_2
        try clear hfz60_0
        try clear hfz60_1
        try clear hfz60_2
        try clear hfz65_0
        try clear hfz65_1
        try clear hfz65_2
        try clear hfz65_3
        try clear hfz68_0
        try clear hfz68_1
        try clear hfz68_2
        try clear hfz70_0
        try clear hfz70_1
        try clear hfz70_2
        try clear hfz71_0
        try clear hfz71_1
        try clear hfz71_2
        try clear hfz76_0
        try clear hfz76_1
        try clear hfz76_2
        try clear hfz76_3
        try clear hfz79_0
        try clear hfz79_1
        try clear hfz79_2
        try clear hfz81_0
        try clear hfz81_1
        try clear hfz81_2
        try clear hfz82_0
        try clear hfz82_1
        try clear hfz82_2
        try clear hfz87_0
        try clear hfz87_1
        try clear hfz87_2
        try clear hfz87_3
        try clear hfz90_0
        try clear hfz90_1
        try clear hfz90_2
        try clear hfz92_0
        try clear hfz92_1
        try clear hfz92_2
        try clear hx262_0
        try clear hx262_1
        try clear hx262_2
        try clear hx262_3
        try clear p2
        try clear p262
        try clear q262
        obtain ⟨x14_2, x66_2, rfl, HA, HK2, HO_14, HO_253000, HO_253001, BK242, BK243, BK244, BK252, HB⟩ := hrel
        cases gk with
        | zero => exact absurd HA.out (by simp [impl_AddJoin.l1])
        | succ k2 =>
          have H := HA.out
          clear HA
          simp only [impl_AddJoin.l1] at H
          by_cases c248 : x66_2 < (l0_0.length : Int)
          rotate_left
          · rw [if_neg c248] at H
            have c248b0 : decide (x66_2 < (l0_0.length : Int)) = false := decide_eq_false c248
            clear c248
            simp only [Option.some.injEq, Prod.mk.injEq] at H
            obtain ⟨rfl, rfl, rfl, rfl, rfl⟩ := H
            have hnb299 := NB252_242.out
            have hnc299 := NB242_252.out
            have hnb300 := NB252_243.out
            have hnc300 := NB243_252.out
            have hnb301 := NB252_244.out
            have hnc301 := NB244_252.out
            have hcz302_0 : wr.cell? ⟨gb252, 0, none⟩ = some (.slice Ao166 t245.length co166) := (blk_cell BK252.out 0).trans rfl
            have hcz302_1 : wr.cell? ⟨gb252, 1, none⟩ = some (.slice Ao244 y284.length co244) := (blk_cell BK252.out 1).trans rfl
            have hcz302_2 : wr.cell? ⟨gb252, 2, none⟩ = some (.int .i64 t251) := (blk_cell BK252.out 2).trans rfl
            have hfz302_0 := blk_frozen BK252.out 0
            have hfz302_1 := blk_frozen BK252.out 1
            have hfz302_2 := blk_frozen BK252.out 2
            have hnb303 := NB244_242.out
            have hnc303 := NB242_244.out
            have hnb304 := NB244_243.out
            have hnc304 := NB243_244.out
            have hcz305_0 : wr.cell? ⟨gb244, 0, none⟩ = some (.slice none 0 0) := (blk_cell BK244.out 0).trans rfl
            have hcz305_1 : wr.cell? ⟨gb244, 1, none⟩ = some (.slice none 0 0) := (blk_cell BK244.out 1).trans rfl
            have hcz305_2 : wr.cell? ⟨gb244, 2, none⟩ = some (.int .i64 0) := (blk_cell BK244.out 2).trans rfl
            have hfz305_0 := blk_frozen BK244.out 0
            have hfz305_1 := blk_frozen BK244.out 1
            have hfz305_2 := blk_frozen BK244.out 2
            go_wp2
            refine bodyPost_ret (results_ctt rfl _ _ gb244 30 #[.slice Ao166 t245.length co166, .slice Ao244 y284.length co244, .int .i64 t251] (0, 0) _ rfl (by (with_reducible repeat (first | refine blk_drewN ?_ _ | refine blk_drew ?_ | refine blk_alloc ?_ _)); refine blk_put (cs := #[.slice Ao166 t245.length co166, .slice Ao244 y284.length co244, .int .i64 0]) ?_ 2 _ rfl; (with_reducible repeat (first | refine blk_drewN ?_ _ | refine blk_drew ?_ | refine blk_alloc ?_ _)); refine blk_put (cs := #[.slice Ao166 t245.length co166, .slice none 0 0, .int .i64 0]) ?_ 1 _ rfl; (with_reducible repeat (first | refine blk_drewN ?_ _ | refine blk_drew ?_ | refine blk_alloc ?_ _)); refine blk_put (cs := #[.slice none 0 0, .slice none 0 0, .int .i64 0]) ?_ 0 _ rfl; (with_reducible repeat (first | refine blk_drewN ?_ _ | refine blk_drew ?_ | refine blk_alloc ?_ _)); exact BK244.out) Try.underlying30 rfl (by kernel_rfl)) rfl ?_
            exact ⟨_, _, _, by first | rfl | (simp [errW_none, errW_some] <;> rfl) | (simp [*, errW_none, errW_some] <;> rfl), by (with_reducible repeat (first | apply Kd.R_alloc | apply Kd.R_drewN | apply Kd.R_drew)); exact Kd.R_mono (Kd.R_far (p := ⟨gb244, 2, none⟩) (Kd.R_far (p := ⟨gb244, 1, none⟩) (Kd.R_far (p := ⟨gb244, 0, none⟩) (Kd.R_types HO_253000.out BK244.out (by decide)) (fun _ hk => hk.2) (.slice Ao166 t245.length co166)) (fun _ hk => hk.2) (.slice Ao244 y284.length co244)) (fun _ hk => hk.2) (.int .i64 t251)) (fun _ hk => hk.1.1), by (with_reducible repeat (first | apply Kd.R_alloc | apply Kd.R_drewN | apply Kd.R_drew)); exact Kd.R_mono (Kd.R_far (p := ⟨gb244, 2, none⟩) (Kd.R_far (p := ⟨gb244, 1, none⟩) (Kd.R_far (p := ⟨gb244, 0, none⟩) (Kd.R_types HO_253001.out BK244.out (by decide)) (fun _ hk => hk.2) (.slice Ao166 t245.length co166)) (fun _ hk => hk.2) (.slice Ao244 y284.length co244)) (fun _ hk => hk.2) (.int .i64 t251)) (fun _ hk => hk.1.1), by (with_reducible repeat (first | apply Kd.R_alloc | apply Kd.R_drewN | apply Kd.R_drew)); exact Kd.R_mono (Kd.R_far (p := ⟨gb244, 2, none⟩) (Kd.R_far (p := ⟨gb244, 1, none⟩) (Kd.R_far (p := ⟨gb244, 0, none⟩) (Kd.R_types HO_14.out BK244.out (by decide)) (fun _ hk => hk.2) (.slice Ao166 t245.length co166)) (fun _ hk => hk.2) (.slice Ao244 y284.length co244)) (fun _ hk => hk.2) (.int .i64 t251)) (fun _ hk => trivial), by repeat (first | (with_reducible first | exact HB.out | apply below_alloc | apply pw_below_drewN | apply below_drew1 | refine below_set ?_ GE242.out | refine below_set ?_ GE243.out | refine below_set ?_ GE244.out | refine below_set ?_ GE252.out) | exact HB.out)⟩
          rw [if_pos c248] at H
          have c248b0 : decide (x66_2 < (l0_0.length : Int)) = true := decide_eq_true c248
          clear c248
          by_cases c249 : 0 ≤ x66_2
          rotate_left
          · rw [if_neg c249] at H
            exact absurd H (by simp)
          rw [if_pos c249] at H
          have c249b0 : decide (0 ≤ x66_2) = true := decide_eq_true c249
          clear c249
          by_cases c250 : x66_2 < (l0_0.length : Int)
          rotate_left
          · rw [if_neg c250] at H
            exact absurd H (by simp)
          rw [if_pos c250] at H
          have c250b0 : decide (x66_2 < (l0_0.length : Int)) = true := decide_eq_true c250
          clear c250
          replace H := Option.bind_eq_some_iff.mp H
          obtain ⟨t292, A2510, H⟩ := H
          (try dsimp only at H)
          have A251 := Aside0.mk A2510
          clear A2510
          by_cases c252 : t292 = true
          rotate_left
          · replace c252 := Bool.eq_false_iff.mpr c252
            subst c252
            have H1 : (impl_AddJoin.l1 k2 a1 false x14_2 l0_0 (l0_0.length : Int) (wrap64 (x66_2 + 1)) a3_0 a3_1 a3_2 a3_3 t245 y284 t251) = some (r1, r2, r3, r4, r5) := by rw [if_neg (show ¬ (false = true) by decide)] at H; exact H
            clear H
            have H := H1
            clear H1
            have H' := Aside0.mk H
            clear H
            have p290 : 0 ≤ (x66_2 : Int) := of_decide_eq_true (by first | (with_reducible assumption) | assumption)
            have q290 : x66_2 < (l0_0.length : Int) := of_decide_eq_true (by first | (with_reducible assumption) | assumption)
            obtain ⟨ad290, e290, hx290_0, hx290_1, hx290_2, hx290_3⟩ := at_T35 HR0_0.out x66_2 p290 q290
            cases e290
            replace hx290_0 := (HB.out.cell (World.block_lt_of_cell? w _ hx290_0)).trans hx290_0
            replace hx290_1 := (HB.out.cell (World.block_lt_of_cell? w _ hx290_1)).trans hx290_1
            replace hx290_2 := (HB.out.cell (World.block_lt_of_cell? w _ hx290_2)).trans hx290_2
            replace hx290_3 := (HB.out.cell (World.block_lt_of_cell? w _ hx290_3)).trans hx290_3
            replace p290 := eq_true p290
            replace q290 := eq_true q290
            go_wp2_with (first | ((with_reducible refine gate_dst (N := 16) rfl ?_); refine box_event ?hg (N := 16) ?hd (cs := #[.int .i64 0, .int .i64 0, .int .i64 0, .int .i64 0]) (t := 35) ?hr ?_; (case hd => rfl); (case hg => rfl); (case hr => first | (go_simp; done) | (go_simp; rfl)); intro gb291 hg w288 hbox hb; replace HO_14 := am (Kd.R_below (rq HO_14.out) hb); replace HO_253000 := am (Kd.R_below (Kd.R_elderB (rq HO_253000.out) gb291 (Nat.le_of_eq hg.symm)) hb); replace HO_253001 := am (Kd.R_below (Kd.R_elderB (rq HO_253001.out) gb291 (Nat.le_of_eq hg.symm)) hb); have BK291 := am (hbox); have GW291 := am ((by rw [hg]; exact (below_size bel) : w.heap.size ≤ gb291)); have GE291 := am ((by rw [hg]; exact (below_size bel) : w.heap.size ≤ gb291)); replace HB := am (below_step bel hb); have NB242_291 := am ((by rw [hg]; exact Nat.ne_of_lt (blk_lt (blkq BK242.out)) : gb242 ≠ gb291)); have NB291_242 := am ((by rw [hg]; exact Nat.ne_of_gt (blk_lt (blkq BK242.out)) : gb291 ≠ gb242)); replace BK242 := am (blk_below (blkq BK242.out) hb); have NB243_291 := am ((by rw [hg]; exact Nat.ne_of_lt (blk_lt (blkq BK243.out)) : gb243 ≠ gb291)); have NB291_243 := am ((by rw [hg]; exact Nat.ne_of_gt (blk_lt (blkq BK243.out)) : gb291 ≠ gb243)); replace BK243 := am (blk_below (blkq BK243.out) hb); have NB244_291 := am ((by rw [hg]; exact Nat.ne_of_lt (blk_lt (blkq BK244.out)) : gb244 ≠ gb291)); have NB291_244 := am ((by rw [hg]; exact Nat.ne_of_gt (blk_lt (blkq BK244.out)) : gb291 ≠ gb244)); replace BK244 := am (blk_below (blkq BK244.out) hb); have NB252_291 := am ((by rw [hg]; exact Nat.ne_of_lt (blk_lt (blkq BK252.out)) : gb252 ≠ gb291)); have NB291_252 := am ((by rw [hg]; exact Nat.ne_of_gt (blk_lt (blkq BK252.out)) : gb291 ≠ gb252)); replace BK252 := am (blk_below (blkq BK252.out) hb); clear hb hbox hg; have hnb289 := NB291_242.out; have hnc289 := NB242_291.out; have hnb290 := NB291_243.out; have hnc290 := NB243_291.out; have hnb291 := NB291_244.out; have hnc291 := NB244_291.out; have hnb292 := NB291_252.out; have hnc292 := NB252_291.out; obtain ⟨hcz293_0, hcz293_1, hcz293_2, hcz293_3, hfz293_0, hfz293_1, hfz293_2, hfz293_3⟩ := blkc4 BK291.out; have hnb294 := NB243_242.out; have hnc294 := NB242_243.out; have hnb295 := NB243_244.out; have hnc295 := NB244_243.out; have hnb296 := NB243_252.out; have hnc296 := NB252_243.out; obtain ⟨hcz297_0, hcz297_1, hcz297_2, hcz297_3, hfz297_0, hfz297_1, hfz297_2, hfz297_3⟩ := blkc4 BK243.out) | ((with_reducible refine gate_callee (f := 53) rfl ?_); refine goesL1 80 Try.func53 #[.agg #[.int .i64 a3_0, .int .i64 a3_1, .int .i64 a3_2, .int .i64 a3_3], .agg #[.int .i64 ((rd_T35 l0_0 x66_2).f0), .int .i64 ((rd_T35 l0_0 x66_2).f1), .int .i64 ((rd_T35 l0_0 x66_2).f2), .int .i64 ((rd_T35 l0_0 x66_2).f3)], .int .i64 a1] ?_; (with_reducible refine (impl_meet.calls a3_0 a3_1 a3_2 a3_3 ((rd_T35 l0_0 x66_2).f0) ((rd_T35 l0_0 x66_2).f1) ((rd_T35 l0_0 x66_2).f2) ((rd_T35 l0_0 x66_2).f3) a1 false _ A251.out).mono ?_); rintro e w298 ⟨rfl, hb⟩; refine ⟨_, rfl, ?_⟩; replace HO_14 := am (Kd.R_below (by (with_reducible repeat (first | apply Kd.R_alloc | apply Kd.R_drewN | apply Kd.R_drew)); exact (Kd.R_mono (Kd.R_far (p := ⟨gb291, 3, none⟩) (Kd.R_far (p := ⟨gb291, 2, none⟩) (Kd.R_far (p := ⟨gb291, 1, none⟩) (Kd.R_far (p := ⟨gb291, 0, none⟩) (Kd.R_types HO_14.out BK291.out (by decide)) (fun _ hk => hk.2) (.int .i64 ((rd_T35 l0_0 x66_2).f0))) (fun _ hk => hk.2) (.int .i64 ((rd_T35 l0_0 x66_2).f1))) (fun _ hk => hk.2) (.int .i64 ((rd_T35 l0_0 x66_2).f2))) (fun _ hk => hk.2) (.int .i64 ((rd_T35 l0_0 x66_2).f3))) (fun _ h_ => h_.1))) hb); replace HO_253000 := am (Kd.R_below (by (with_reducible repeat (first | apply Kd.R_alloc | apply Kd.R_drewN | apply Kd.R_drew)); exact (Kd.R_mono (Kd.R_far (p := ⟨gb291, 3, none⟩) (Kd.R_far (p := ⟨gb291, 2, none⟩) (Kd.R_far (p := ⟨gb291, 1, none⟩) (Kd.R_far (p := ⟨gb291, 0, none⟩) (Kd.R_mono HO_253000.out (fun k_ hk => (⟨hk, hk.2⟩ : _ ∧ k_ ≠ gb291))) (fun _ hk => hk.2) (.int .i64 ((rd_T35 l0_0 x66_2).f0))) (fun _ hk => hk.2) (.int .i64 ((rd_T35 l0_0 x66_2).f1))) (fun _ hk => hk.2) (.int .i64 ((rd_T35 l0_0 x66_2).f2))) (fun _ hk => hk.2) (.int .i64 ((rd_T35 l0_0 x66_2).f3))) (fun _ h_ => h_.1))) hb); replace HO_253001 := am (Kd.R_below (by (with_reducible repeat (first | apply Kd.R_alloc | apply Kd.R_drewN | apply Kd.R_drew)); exact (Kd.R_mono (Kd.R_far (p := ⟨gb291, 3, none⟩) (Kd.R_far (p := ⟨gb291, 2, none⟩) (Kd.R_far (p := ⟨gb291, 1, none⟩) (Kd.R_far (p := ⟨gb291, 0, none⟩) (Kd.R_mono HO_253001.out (fun k_ hk => (⟨hk, hk.2⟩ : _ ∧ k_ ≠ gb291))) (fun _ hk => hk.2) (.int .i64 ((rd_T35 l0_0 x66_2).f0))) (fun _ hk => hk.2) (.int .i64 ((rd_T35 l0_0 x66_2).f1))) (fun _ hk => hk.2) (.int .i64 ((rd_T35 l0_0 x66_2).f2))) (fun _ hk => hk.2) (.int .i64 ((rd_T35 l0_0 x66_2).f3))) (fun _ h_ => h_.1))) hb); replace BK242 := am (blk_below (g := gb242) (o := .cells #[.slice (some ad290) l0_0.length c0_0, .slice A0_1 l0_1.length c0_1, .int .i64 a0_2] 30 (0, 0)) (by (with_reducible repeat (first | refine blk_drewN ?_ _ | refine blk_drew ?_ | refine blk_alloc ?_ _)); refine blk_far ?_ NB242_291.out _; (with_reducible repeat (first | refine blk_drewN ?_ _ | refine blk_drew ?_ | refine blk_alloc ?_ _)); refine blk_far ?_ NB242_291.out _; (with_reducible repeat (first | refine blk_drewN ?_ _ | refine blk_drew ?_ | refine blk_alloc ?_ _)); refine blk_far ?_ NB242_291.out _; (with_reducible repeat (first | refine blk_drewN ?_ _ | refine blk_drew ?_ | refine blk_alloc ?_ _)); refine blk_far ?_ NB242_291.out _; (with_reducible repeat (first | refine blk_drewN ?_ _ | refine blk_drew ?_ | refine blk_alloc ?_ _)); exact BK242.out) hb); replace BK243 := am (blk_below (g := gb243) (o := .cells #[.int .i64 a3_0, .int .i64 a3_1, .int .i64 a3_2, .int .i64 a3_3] 35 (0, 0)) (by (with_reducible repeat (first | refine blk_drewN ?_ _ | refine blk_drew ?_ | refine blk_alloc ?_ _)); refine blk_far ?_ NB243_291.out _; (with_reducible repeat (first | refine blk_drewN ?_ _ | refine blk_drew ?_ | refine blk_alloc ?_ _)); refine blk_far ?_ NB243_291.out _; (with_reducible repeat (first | refine blk_drewN ?_ _ | refine blk_drew ?_ | refine blk_alloc ?_ _)); refine blk_far ?_ NB243_291.out _; (with_reducible repeat (first | refine blk_drewN ?_ _ | refine blk_drew ?_ | refine blk_alloc ?_ _)); refine blk_far ?_ NB243_291.out _; (with_reducible repeat (first | refine blk_drewN ?_ _ | refine blk_drew ?_ | refine blk_alloc ?_ _)); exact BK243.out) hb); replace BK244 := am (blk_below (g := gb244) (o := .cells #[.slice none 0 0, .slice none 0 0, .int .i64 0] 30 (0, 0)) (by (with_reducible repeat (first | refine blk_drewN ?_ _ | refine blk_drew ?_ | refine blk_alloc ?_ _)); refine blk_far ?_ NB244_291.out _; (with_reducible repeat (first | refine blk_drewN ?_ _ | refine blk_drew ?_ | refine blk_alloc ?_ _)); refine blk_far ?_ NB244_291.out _; (with_reducible repeat (first | refine blk_drewN ?_ _ | refine blk_drew ?_ | refine blk_alloc ?_ _)); refine blk_far ?_ NB244_291.out _; (with_reducible repeat (first | refine blk_drewN ?_ _ | refine blk_drew ?_ | refine blk_alloc ?_ _)); refine blk_far ?_ NB244_291.out _; (with_reducible repeat (first | refine blk_drewN ?_ _ | refine blk_drew ?_ | refine blk_alloc ?_ _)); exact BK244.out) hb); replace BK252 := am (blk_below (g := gb252) (o := .cells #[.slice Ao166 t245.length co166, .slice Ao244 y284.length co244, .int .i64 t251] 30 (0, 0)) (by (with_reducible repeat (first | refine blk_drewN ?_ _ | refine blk_drew ?_ | refine blk_alloc ?_ _)); refine blk_far ?_ NB252_291.out _; (with_reducible repeat (first | refine blk_drewN ?_ _ | refine blk_drew ?_ | refine blk_alloc ?_ _)); refine blk_far ?_ NB252_291.out _; (with_reducible repeat (first | refine blk_drewN ?_ _ | refine blk_drew ?_ | refine blk_alloc ?_ _)); refine blk_far ?_ NB252_291.out _; (with_reducible repeat (first | refine blk_drewN ?_ _ | refine blk_drew ?_ | refine blk_alloc ?_ _)); refine blk_far ?_ NB252_291.out _; (with_reducible repeat (first | refine blk_drewN ?_ _ | refine blk_drew ?_ | refine blk_alloc ?_ _)); exact BK252.out) hb); replace BK291 := am (blk_below (g := gb291) (o := .cells #[.int .i64 ((rd_T35 l0_0 x66_2).f0), .int .i64 ((rd_T35 l0_0 x66_2).f1), .int .i64 ((rd_T35 l0_0 x66_2).f2), .int .i64 ((rd_T35 l0_0 x66_2).f3)] 35 (0, 0)) (by (with_reducible repeat (first | refine blk_drewN ?_ _ | refine blk_drew ?_ | refine blk_alloc ?_ _)); refine blk_put (cs := #[.int .i64 ((rd_T35 l0_0 x66_2).f0), .int .i64 ((rd_T35 l0_0 x66_2).f1), .int .i64 ((rd_T35 l0_0 x66_2).f2), .int .i64 0]) ?_ 3 _ rfl; (with_reducible repeat (first | refine blk_drewN ?_ _ | refine blk_drew ?_ | refine blk_alloc ?_ _)); refine blk_put (cs := #[.int .i64 ((rd_T35 l0_0 x66_2).f0), .int .i64 ((rd_T35 l0_0 x66_2).f1), .int .i64 0, .int .i64 0]) ?_ 2 _ rfl; (with_reducible repeat (first | refine blk_drewN ?_ _ | refine blk_drew ?_ | refine blk_alloc ?_ _)); refine blk_put (cs := #[.int .i64 ((rd_T35 l0_0 x66_2).f0), .int .i64 0, .int .i64 0, .int .i64 0]) ?_ 1 _ rfl; (with_reducible repeat (first | refine blk_drewN ?_ _ | refine blk_drew ?_ | refine blk_alloc ?_ _)); refine blk_put (cs := #[.int .i64 0, .int .i64 0, .int .i64 0, .int .i64 0]) ?_ 0 _ rfl; (with_reducible repeat (first | refine blk_drewN ?_ _ | refine blk_drew ?_ | refine blk_alloc ?_ _)); exact BK291.out) hb); replace HB := am (below_step bel hb); (try clear hb)))
            go_roundg k2
            case measure => have := HJ156.out; have := HK2.out; omega
            case rel => exact ⟨(x14_2), (wrap64 (x66_2 + 1)), (by first | rfl | (simp; done) | (simp [*]; done)), H', ⟨by have := HJ156.out; have := HK2.out; omega⟩, ⟨by (with_reducible repeat (first | apply Kd.R_alloc | apply Kd.R_drewN | apply Kd.R_drew)); exact HO_14.out⟩, ⟨by (with_reducible repeat (first | apply Kd.R_alloc | apply Kd.R_drewN | apply Kd.R_drew)); exact Kd.R_mono HO_253000.out (fun _ hk => ⟨hk.1.1, hk.1.2⟩)⟩, ⟨by (with_reducible repeat (first | apply Kd.R_alloc | apply Kd.R_drewN | apply Kd.R_drew)); exact Kd.R_mono HO_253001.out (fun _ hk => ⟨hk.1.1, hk.1.2⟩)⟩, ⟨by (with_reducible repeat (first | refine blk_drewN ?_ _ | refine blk_drew ?_ | refine blk_alloc ?_ _)); exact BK242.out⟩, ⟨by (with_reducible repeat (first | refine blk_drewN ?_ _ | refine blk_drew ?_ | refine blk_alloc ?_ _)); exact BK243.out⟩, ⟨by (with_reducible repeat (first | refine blk_drewN ?_ _ | refine blk_drew ?_ | refine blk_alloc ?_ _)); exact BK244.out⟩, ⟨by (with_reducible repeat (first | refine blk_drewN ?_ _ | refine blk_drew ?_ | refine blk_alloc ?_ _)); exact BK252.out⟩, ⟨by repeat (first | (with_reducible first | exact HB.out | apply below_alloc | apply pw_below_drewN | apply below_drew1 | refine below_set ?_ GE242.out | refine below_set ?_ GE243.out | refine below_set ?_ GE244.out | refine below_set ?_ GE252.out | refine below_set ?_ GE291.out) | exact HB.out)⟩⟩
          subst c252
          have H1 : (if false = true then ((impl_pairOf.f a3_0 a3_1 a3_2 a3_3 ((rd_T35 l0_0 x66_2).f0) ((rd_T35 l0_0 x66_2).f1) ((rd_T35 l0_0 x66_2).f2) ((rd_T35 l0_0 x66_2).f3)).bind fun bt293 => (if x14_2.length < 3518437208883 then (impl_AddJoin.l1 k2 a1 false (x14_2 ++ [(⟨bt293.1, bt293.2.1, bt293.2.2.1, bt293.2.2.2.1, bt293.2.2.2.2⟩ : S75)]) l0_0 (l0_0.length : Int) (wrap64 (x66_2 + 1)) a3_0 a3_1 a3_2 a3_3 t245 y284 t251) else (none))) else ((impl_pairOf.f ((rd_T35 l0_0 x66_2).f0) ((rd_T35 l0_0 x66_2).f1) ((rd_T35 l0_0 x66_2).f2) ((rd_T35 l0_0 x66_2).f3) a3_0 a3_1 a3_2 a3_3).bind fun bt301 => (if x14_2.length < 3518437208883 then (impl_AddJoin.l1 k2 a1 false (x14_2 ++ [(⟨bt301.1, bt301.2.1, bt301.2.2.1, bt301.2.2.2.1, bt301.2.2.2.2⟩ : S75)]) l0_0 (l0_0.length : Int) (wrap64 (x66_2 + 1)) a3_0 a3_1 a3_2 a3_3 t245 y284 t251) else (none)))) = some (r1, r2, r3, r4, r5) := by rw [if_pos rfl] at H; exact H
          clear H
          have H := H1
          clear H1
          by_cases c253 : false = true
          · exact absurd c253 Bool.false_ne_true
          clear c253
          have H1 : ((impl_pairOf.f ((rd_T35 l0_0 x66_2).f0) ((rd_T35 l0_0 x66_2).f1) ((rd_T35 l0_0 x66_2).f2) ((rd_T35 l0_0 x66_2).f3) a3_0 a3_1 a3_2 a3_3).bind fun bt301 => (if x14_2.length < 3518437208883 then (impl_AddJoin.l1 k2 a1 false (x14_2 ++ [(⟨bt301.1, bt301.2.1, bt301.2.2.1, bt301.2.2.2.1, bt301.2.2.2.2⟩ : S75)]) l0_0 (l0_0.length : Int) (wrap64 (x66_2 + 1)) a3_0 a3_1 a3_2 a3_3 t245 y284 t251) else (none))) = some (r1, r2, r3, r4, r5) := by rw [if_neg (show ¬ (false = true) by decide)] at H; exact H
          clear H
          have H := H1
          clear H1
          replace H := Option.bind_eq_some_iff.mp H
          obtain ⟨⟨t301, t302, t303, t304, t305⟩, A2710, H⟩ := H
          (try dsimp only at H)
          have A271 := Aside0.mk A2710
          clear A2710
          by_cases c272 : x14_2.length < 3518437208883
          rotate_left
          · rw [if_neg c272] at H
            exact absurd H (by simp)
          rw [if_pos c272] at H
          have LMc272 := Aside0.mk c272
          clear c272
          obtain ⟨y306, hy306⟩ : ∃ y_ : List (S75), y_ = (x14_2 ++ [(⟨t301, t302, t303, t304, t305⟩ : S75)]) := ⟨_, rfl⟩
          replace H : (impl_AddJoin.l1 k2 a1 false y306 l0_0 (l0_0.length : Int) (wrap64 (x66_2 + 1)) a3_0 a3_1 a3_2 a3_3 t245 y284 t251) = some (r1, r2, r3, r4, r5) := by first | (rw [hy306]; with_reducible exact H) | (have H2_ := (Option.bind_some _ _).symm.trans H; rw [hy306]; with_reducible exact H2_) | (have H2_ := (Option.bind_some _ _).symm.trans H; with_reducible exact H2_) | with_reducible exact H | (rw [hy306]; exact H) | exact H
          have Ny306 := Aside0.mk hy306
          clear hy306
          have H' := Aside0.mk H
          clear H
          have p290 : 0 ≤ (x66_2 : Int) := of_decide_eq_true (by first | (with_reducible assumption) | assumption)
          have q290 : x66_2 < (l0_0.length : Int) := of_decide_eq_true (by first | (with_reducible assumption) | assumption)
          obtain ⟨ad290, e290, hx290_0, hx290_1, hx290_2, hx290_3⟩ := at_T35 HR0_0.out x66_2 p290 q290
          cases e290
          replace hx290_0 := (HB.out.cell (World.block_lt_of_cell? w _ hx290_0)).trans hx290_0
          replace hx290_1 := (HB.out.cell (World.block_lt_of_cell? w _ hx290_1)).trans hx290_1
          replace hx290_2 := (HB.out.cell (World.block_lt_of_cell? w _ hx290_2)).trans hx290_2
          replace hx290_3 := (HB.out.cell (World.block_lt_of_cell? w _ hx290_3)).trans hx290_3
          replace p290 := eq_true p290
          replace q290 := eq_true q290
          go_wp2_with (first | ((with_reducible refine gate_dst (N := 16) rfl ?_); refine box_event ?hg (N := 16) ?hd (cs := #[.int .i64 0, .int .i64 0, .int .i64 0, .int .i64 0]) (t := 35) ?hr ?_; (case hd => rfl); (case hg => rfl); (case hr => first | (go_simp; done) | (go_simp; rfl)); intro gb291 hg w273 hbox hb; replace HO_14 := am (Kd.R_below (rq HO_14.out) hb); replace HO_253000 := am (Kd.R_below (Kd.R_elderB (rq HO_253000.out) gb291 (Nat.le_of_eq hg.symm)) hb); replace HO_253001 := am (Kd.R_below (Kd.R_elderB (rq HO_253001.out) gb291 (Nat.le_of_eq hg.symm)) hb); have BK291 := am (hbox); have GW291 := am ((by rw [hg]; exact (below_size bel) : w.heap.size ≤ gb291)); have GE291 := am ((by rw [hg]; exact (below_size bel) : w.heap.size ≤ gb291)); replace HB := am (below_step bel hb); have NB242_291 := am ((by rw [hg]; exact Nat.ne_of_lt (blk_lt (blkq BK242.out)) : gb242 ≠ gb291)); have NB291_242 := am ((by rw [hg]; exact Nat.ne_of_gt (blk_lt (blkq BK242.out)) : gb291 ≠ gb242)); replace BK242 := am (blk_below (blkq BK242.out) hb); have NB243_291 := am ((by rw [hg]; exact Nat.ne_of_lt (blk_lt (blkq BK243.out)) : gb243 ≠ gb291)); have NB291_243 := am ((by rw [hg]; exact Nat.ne_of_gt (blk_lt (blkq BK243.out)) : gb291 ≠ gb243)); replace BK243 := am (blk_below (blkq BK243.out) hb); have NB244_291 := am ((by rw [hg]; exact Nat.ne_of_lt (blk_lt (blkq BK244.out)) : gb244 ≠ gb291)); have NB291_244 := am ((by rw [hg]; exact Nat.ne_of_gt (blk_lt (blkq BK244.out)) : gb291 ≠ gb244)); replace BK244 := am (blk_below (blkq BK244.out) hb); have NB252_291 := am ((by rw [hg]; exact Nat.ne_of_lt (blk_lt (blkq BK252.out)) : gb252 ≠ gb291)); have NB291_252 := am ((by rw [hg]; exact Nat.ne_of_gt (blk_lt (blkq BK252.out)) : gb291 ≠ gb252)); replace BK252 := am (blk_below (blkq BK252.out) hb); clear hb hbox hg; have hnb274 := NB291_242.out; have hnc274 := NB242_291.out; have hnb275 := NB291_243.out; have hnc275 := NB243_291.out; have hnb276 := NB291_244.out; have hnc276 := NB244_291.out; have hnb277 := NB291_252.out; have hnc277 := NB252_291.out; obtain ⟨hcz278_0, hcz278_1, hcz278_2, hcz278_3, hfz278_0, hfz278_1, hfz278_2, hfz278_3⟩ := blkc4 BK291.out; have hnb279 := NB243_242.out; have hnc279 := NB242_243.out; have hnb280 := NB243_244.out; have hnc280 := NB244_243.out; have hnb281 := NB243_252.out; have hnc281 := NB252_243.out; obtain ⟨hcz282_0, hcz282_1, hcz282_2, hcz282_3, hfz282_0, hfz282_1, hfz282_2, hfz282_3⟩ := blkc4 BK243.out) | ((with_reducible refine gate_callee (f := 53) rfl ?_); refine goesL1 80 Try.func53 #[.agg #[.int .i64 a3_0, .int .i64 a3_1, .int .i64 a3_2, .int .i64 a3_3], .agg #[.int .i64 ((rd_T35 l0_0 x66_2).f0), .int .i64 ((rd_T35 l0_0 x66_2).f1), .int .i64 ((rd_T35 l0_0 x66_2).f2), .int .i64 ((rd_T35 l0_0 x66_2).f3)], .int .i64 a1] ?_; (with_reducible refine (impl_meet.calls a3_0 a3_1 a3_2 a3_3 ((rd_T35 l0_0 x66_2).f0) ((rd_T35 l0_0 x66_2).f1) ((rd_T35 l0_0 x66_2).f2) ((rd_T35 l0_0 x66_2).f3) a1 true _ A251.out).mono ?_); rintro e w283 ⟨rfl, hb⟩; refine ⟨_, rfl, ?_⟩; replace HO_14 := am (Kd.R_below (by (with_reducible repeat (first | apply Kd.R_alloc | apply Kd.R_drewN | apply Kd.R_drew)); exact (Kd.R_mono (Kd.R_far (p := ⟨gb291, 3, none⟩) (Kd.R_far (p := ⟨gb291, 2, none⟩) (Kd.R_far (p := ⟨gb291, 1, none⟩) (Kd.R_far (p := ⟨gb291, 0, none⟩) (Kd.R_types HO_14.out BK291.out (by decide)) (fun _ hk => hk.2) (.int .i64 ((rd_T35 l0_0 x66_2).f0))) (fun _ hk => hk.2) (.int .i64 ((rd_T35 l0_0 x66_2).f1))) (fun _ hk => hk.2) (.int .i64 ((rd_T35 l0_0 x66_2).f2))) (fun _ hk => hk.2) (.int .i64 ((rd_T35 l0_0 x66_2).f3))) (fun _ h_ => h_.1))) hb); replace HO_253000 := am (Kd.R_below (by (with_reducible repeat (first | apply Kd.R_alloc | apply Kd.R_drewN | apply Kd.R_drew)); exact (Kd.R_mono (Kd.R_far (p := ⟨gb291, 3, none⟩) (Kd.R_far (p := ⟨gb291, 2, none⟩) (Kd.R_far (p := ⟨gb291, 1, none⟩) (Kd.R_far (p := ⟨gb291, 0, none⟩) (Kd.R_mono HO_253000.out (fun k_ hk => (⟨hk, hk.2⟩ : _ ∧ k_ ≠ gb291))) (fun _ hk => hk.2) (.int .i64 ((rd_T35 l0_0 x66_2).f0))) (fun _ hk => hk.2) (.int .i64 ((rd_T35 l0_0 x66_2).f1))) (fun _ hk => hk.2) (.int .i64 ((rd_T35 l0_0 x66_2).f2))) (fun _ hk => hk.2) (.int .i64 ((rd_T35 l0_0 x66_2).f3))) (fun _ h_ => h_.1))) hb); replace HO_253001 := am (Kd.R_below (by (with_reducible repeat (first | apply Kd.R_alloc | apply Kd.R_drewN | apply Kd.R_drew)); exact (Kd.R_mono (Kd.R_far (p := ⟨gb291, 3, none⟩) (Kd.R_far (p := ⟨gb291, 2, none⟩) (Kd.R_far (p := ⟨gb291, 1, none⟩) (Kd.R_far (p := ⟨gb291, 0, none⟩) (Kd.R_mono HO_253001.out (fun k_ hk => (⟨hk, hk.2⟩ : _ ∧ k_ ≠ gb291))) (fun _ hk => hk.2) (.int .i64 ((rd_T35 l0_0 x66_2).f0))) (fun _ hk => hk.2) (.int .i64 ((rd_T35 l0_0 x66_2).f1))) (fun _ hk => hk.2) (.int .i64 ((rd_T35 l0_0 x66_2).f2))) (fun _ hk => hk.2) (.int .i64 ((rd_T35 l0_0 x66_2).f3))) (fun _ h_ => h_.1))) hb); replace BK242 := am (blk_below (g := gb242) (o := .cells #[.slice (some ad290) l0_0.length c0_0, .slice A0_1 l0_1.length c0_1, .int .i64 a0_2] 30 (0, 0)) (by (with_reducible repeat (first | refine blk_drewN ?_ _ | refine blk_drew ?_ | refine blk_alloc ?_ _)); refine blk_far ?_ NB242_291.out _; (with_reducible repeat (first | refine blk_drewN ?_ _ | refine blk_drew ?_ | refine blk_alloc ?_ _)); refine blk_far ?_ NB242_291.out _; (with_reducible repeat (first | refine blk_drewN ?_ _ | refine blk_drew ?_ | refine blk_alloc ?_ _)); refine blk_far ?_ NB242_291.out _; (with_reducible repeat (first | refine blk_drewN ?_ _ | refine blk_drew ?_ | refine blk_alloc ?_ _)); refine blk_far ?_ NB242_291.out _; (with_reducible repeat (first | refine blk_drewN ?_ _ | refine blk_drew ?_ | refine blk_alloc ?_ _)); exact BK242.out) hb); replace BK243 := am (blk_below (g := gb243) (o := .cells #[.int .i64 a3_0, .int .i64 a3_1, .int .i64 a3_2, .int .i64 a3_3] 35 (0, 0)) (by (with_reducible repeat (first | refine blk_drewN ?_ _ | refine blk_drew ?_ | refine blk_alloc ?_ _)); refine blk_far ?_ NB243_291.out _; (with_reducible repeat (first | refine blk_drewN ?_ _ | refine blk_drew ?_ | refine blk_alloc ?_ _)); refine blk_far ?_ NB243_291.out _; (with_reducible repeat (first | refine blk_drewN ?_ _ | refine blk_drew ?_ | refine blk_alloc ?_ _)); refine blk_far ?_ NB243_291.out _; (with_reducible repeat (first | refine blk_drewN ?_ _ | refine blk_drew ?_ | refine blk_alloc ?_ _)); refine blk_far ?_ NB243_291.out _; (with_reducible repeat (first | refine blk_drewN ?_ _ | refine blk_drew ?_ | refine blk_alloc ?_ _)); exact BK243.out) hb); replace BK244 := am (blk_below (g := gb244) (o := .cells #[.slice none 0 0, .slice none 0 0, .int .i64 0] 30 (0, 0)) (by (with_reducible repeat (first | refine blk_drewN ?_ _ | refine blk_drew ?_ | refine blk_alloc ?_ _)); refine blk_far ?_ NB244_291.out _; (with_reducible repeat (first | refine blk_drewN ?_ _ | refine blk_drew ?_ | refine blk_alloc ?_ _)); refine blk_far ?_ NB244_291.out _; (with_reducible repeat (first | refine blk_drewN ?_ _ | refine blk_drew ?_ | refine blk_alloc ?_ _)); refine blk_far ?_ NB244_291.out _; (with_reducible repeat (first | refine blk_drewN ?_ _ | refine blk_drew ?_ | refine blk_alloc ?_ _)); refine blk_far ?_ NB244_291.out _; (with_reducible repeat (first | refine blk_drewN ?_ _ | refine blk_drew ?_ | refine blk_alloc ?_ _)); exact BK244.out) hb); replace BK252 := am (blk_below (g := gb252) (o := .cells #[.slice Ao166 t245.length co166, .slice Ao244 y284.length co244, .int .i64 t251] 30 (0, 0)) (by (with_reducible repeat (first | refine blk_drewN ?_ _ | refine blk_drew ?_ | refine blk_alloc ?_ _)); refine blk_far ?_ NB252_291.out _; (with_reducible repeat (first | refine blk_drewN ?_ _ | refine blk_drew ?_ | refine blk_alloc ?_ _)); refine blk_far ?_ NB252_291.out _; (with_reducible repeat (first | refine blk_drewN ?_ _ | refine blk_drew ?_ | refine blk_alloc ?_ _)); refine blk_far ?_ NB252_291.out _; (with_reducible repeat (first | refine blk_drewN ?_ _ | refine blk_drew ?_ | refine blk_alloc ?_ _)); refine blk_far ?_ NB252_291.out _; (with_reducible repeat (first | refine blk_drewN ?_ _ | refine blk_drew ?_ | refine blk_alloc ?_ _)); exact BK252.out) hb); replace BK291 := am (blk_below (g := gb291) (o := .cells #[.int .i64 ((rd_T35 l0_0 x66_2).f0), .int .i64 ((rd_T35 l0_0 x66_2).f1), .int .i64 ((rd_T35 l0_0 x66_2).f2), .int .i64 ((rd_T35 l0_0 x66_2).f3)] 35 (0, 0)) (by (with_reducible repeat (first | refine blk_drewN ?_ _ | refine blk_drew ?_ | refine blk_alloc ?_ _)); refine blk_put (cs := #[.int .i64 ((rd_T35 l0_0 x66_2).f0), .int .i64 ((rd_T35 l0_0 x66_2).f1), .int .i64 ((rd_T35 l0_0 x66_2).f2), .int .i64 0]) ?_ 3 _ rfl; (with_reducible repeat (first | refine blk_drewN ?_ _ | refine blk_drew ?_ | refine blk_alloc ?_ _)); refine blk_put (cs := #[.int .i64 ((rd_T35 l0_0 x66_2).f0), .int .i64 ((rd_T35 l0_0 x66_2).f1), .int .i64 0, .int .i64 0]) ?_ 2 _ rfl; (with_reducible repeat (first | refine blk_drewN ?_ _ | refine blk_drew ?_ | refine blk_alloc ?_ _)); refine blk_put (cs := #[.int .i64 ((rd_T35 l0_0 x66_2).f0), .int .i64 0, .int .i64 0, .int .i64 0]) ?_ 1 _ rfl; (with_reducible repeat (first | refine blk_drewN ?_ _ | refine blk_drew ?_ | refine blk_alloc ?_ _)); refine blk_put (cs := #[.int .i64 0, .int .i64 0, .int .i64 0, .int .i64 0]) ?_ 0 _ rfl; (with_reducible repeat (first | refine blk_drewN ?_ _ | refine blk_drew ?_ | refine blk_alloc ?_ _)); exact BK291.out) hb); replace HB := am (below_step bel hb); (try clear hb); obtain ⟨hcz284_0, hcz284_1, hcz284_2, hcz284_3, hfz284_0, hfz284_1, hfz284_2, hfz284_3⟩ := blkc4 BK291.out; obtain ⟨hcz285_0, hcz285_1, hcz285_2, hcz285_3, hfz285_0, hfz285_1, hfz285_2, hfz285_3⟩ := blkc4 BK243.out) | ((with_reducible refine gate_callee (f := 54) rfl ?_); refine goesL1 73 Try.func54 #[.agg #[.int .i64 ((rd_T35 l0_0 x66_2).f0), .int .i64 ((rd_T35 l0_0 x66_2).f1), .int .i64 ((rd_T35 l0_0 x66_2).f2), .int .i64 ((rd_T35 l0_0 x66_2).f3)], .agg #[.int .i64 a3_0, .int .i64 a3_1, .int .i64 a3_2, .int .i64 a3_3]] ?_; (with_reducible refine (impl_pairOf.calls ((rd_T35 l0_0 x66_2).f0) ((rd_T35 l0_0 x66_2).f1) ((rd_T35 l0_0 x66_2).f2) ((rd_T35 l0_0 x66_2).f3) a3_0 a3_1 a3_2 a3_3 t301 t302 t303 t304 t305 _ A271.out).mono ?_); rintro e w286 ⟨rfl, hb⟩; refine ⟨_, rfl, ?_⟩; replace HO_14 := am (Kd.R_below (rq HO_14.out) hb); replace HO_253000 := am (Kd.R_below (rq HO_253000.out) hb); replace HO_253001 := am (Kd.R_below (rq HO_253001.out) hb); replace BK242 := am (blk_below (blkq BK242.out) hb); replace BK243 := am (blk_below (blkq BK243.out) hb); replace BK244 := am (blk_below (blkq BK244.out) hb); replace BK252 := am (blk_below (blkq BK252.out) hb); replace BK291 := am (blk_below (blkq BK291.out) hb); replace HB := am (below_step bel hb); (try clear hb)) | ((with_reducible refine gate_builtin (b := .append) (xs := #[.tmp 70, .tmp 74]) rfl ?_); at_builtin; refine Kd.R_append k75 (w0 := w) w.heap.size rfl (.tmp 70) (.tmp 74) 31 75 (.agg #[(.int .i64 0), (.int .i64 0), (.int .i64 0), (.int .i64 0), (.int .i64 0)]) 40 rfl Try.underlying31 info75 rfl (by decide) (by omega) u14 x14_2 (⟨t301, t302, t303, t304, t305⟩ : S75) [.int .i64 t301, .int .i64 t302, .int .i64 t303, .int .i64 t304, .int .i64 t305] (fun _ => True) (fun _ => False) rfl rfl ?aP (fun _ hk => hk.elim) ?aF ?aO ?aB ?aS ?aL ?_; (case aP => exact k75_mkM _ _ _ (⟨t301, t302, t303, t304, t305⟩ : S75)); (case aB => exact bel); (case aF => exact (fun _ _ => trivial)); (case aO => exact (rq HO_14.out)); (case aS => exact (below_size bel)); (case aL => have := LMc272.out; omega); intro v307 w287 ho hb hg hat; rw [← Ny306.out] at ho; replace HO_253000 := am (Kd.R_over' (rq HO_253000.out) (Kd.R_typed (rq HO_14.out)) (by decide) hg); replace HO_253001 := am (Kd.R_over' (rq HO_253001.out) (Kd.R_typed (rq HO_14.out)) (by decide) hg); replace BK242 := am (blk_grown (blkq BK242.out) hg (Kd.R_ne HO_14.out BK242.out (by decide))); replace BK243 := am (blk_grown (blkq BK243.out) hg (Kd.R_ne HO_14.out BK243.out (by decide))); replace BK244 := am (blk_grown (blkq BK244.out) hg (Kd.R_ne HO_14.out BK244.out (by decide))); replace BK252 := am (blk_grown (blkq BK252.out) hg (Kd.R_ne HO_14.out BK252.out (by decide))); replace BK291 := am (blk_grown (blkq BK291.out) hg (Kd.R_ne HO_14.out BK291.out (by decide))); replace HB := am (hb); have HO308 := am (ho); clear HO_14; clear ho hb hg hat))
          go_roundg k2
          case measure => have := HJ156.out; have := HK2.out; omega
          case rel => exact ⟨(y306), (wrap64 (x66_2 + 1)), (by first | rfl | (simp; done) | (simp [*]; done)), H', ⟨by have := HJ156.out; have := HK2.out; omega⟩, ⟨by (with_reducible repeat (first | apply Kd.R_alloc | apply Kd.R_drewN | apply Kd.R_drew)); exact HO308.out⟩, ⟨by (with_reducible repeat (first | apply Kd.R_alloc | apply Kd.R_drewN | apply Kd.R_drew)); exact Kd.R_mono HO_253000.out (fun _ hk => ⟨hk.1.1, hk.1.2⟩)⟩, ⟨by (with_reducible repeat (first | apply Kd.R_alloc | apply Kd.R_drewN | apply Kd.R_drew)); exact Kd.R_mono HO_253001.out (fun _ hk => ⟨hk.1.1, hk.1.2⟩)⟩, ⟨by (with_reducible repeat (first | refine blk_drewN ?_ _ | refine blk_drew ?_ | refine blk_alloc ?_ _)); exact BK242.out⟩, ⟨by (with_reducible repeat (first | refine blk_drewN ?_ _ | refine blk_drew ?_ | refine blk_alloc ?_ _)); exact BK243.out⟩, ⟨by (with_reducible repeat (first | refine blk_drewN ?_ _ | refine blk_drew ?_ | refine blk_alloc ?_ _)); exact BK244.out⟩, ⟨by (with_reducible repeat (first | refine blk_drewN ?_ _ | refine blk_drew ?_ | refine blk_alloc ?_ _)); exact BK252.out⟩, ⟨by repeat (first | (with_reducible first | exact HB.out | apply below_alloc | apply pw_below_drewN | apply below_drew1 | refine below_set ?_ GE242.out | refine below_set ?_ GE243.out | refine below_set ?_ GE244.out | refine below_set ?_ GE252.out | refine below_set ?_ GE291.out) | exact HB.out)⟩⟩
end Go.Proofs.Ythjdjknlcknkdaa.K
