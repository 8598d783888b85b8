/- Part 2 of a proof: walks of the given functions and laws over lists. -/
import Derived.Test.YthjdjknlcknkdaaCa1
namespace Go.Proofs.Ythjdjknlcknkdaa.K
open Go.RowKit Go.Proofs.YthjdjknlcknkdaaW.PrintWords Go.Proofs.YthjdjknlcknkdaaW.PrintLast Go.Proofs.YthjdjknlcknkdaaW.PrintMore Go.Proofs.YthjdjknlcknkdaaV
attribute [local go_sem] isSome_setCell max2_int min2_int max_two min_two max_three min_three max_four min_four   
set_option linter.unusedVariables false
set_option linter.unusedSimpArgs false
mutual
def spec_AddJoin.j0 : Nat → Int → Bool → Bool → List (S35) → List (S35) → Int → Int → Int → Int → Int → List (S35) → List (S35) → Int → Option ((List (S35)) × (List (S35)) × Int × (List (S75)) × Int)
  | 0, _, _, _, _, _, _, _, _, _, _, _, _, _ => none
  | k + 1, x1, x2, x30, x139000, x139001, x139002, x140000, x140001, x140002, x140003, x149000, x149001, x149002 => if x30 = true then (some (x149000, x149001, x149002, ([] : List (S75)), 3)) else (if x140002 ≤ x139002 then (some (x149000, x149001, x149002, ([] : List (S75)), 1)) else (if x2 = true then (spec_AddJoin.j1 k x1 x2 x139000 x139001 x140000 x140001 x140002 x140003 x149000 x149001 x149002) else (spec_AddJoin.j1 k x1 x2 x139001 x139000 x140000 x140001 x140002 x140003 x149000 x149001 x149002)))
def spec_AddJoin.j1 : Nat → Int → Bool → List (S35) → List (S35) → Int → Int → Int → Int → List (S35) → List (S35) → Int → Option ((List (S35)) × (List (S35)) × Int × (List (S75)) × Int)
  | 0, _, _, _, _, _, _, _, _, _, _, _ => none
  | k + 1, x1, x2, x12, x13, x140000, x140001, x140002, x140003, x149000, x149001, x149002 => if (x12.length : Int) = 40 then (some (x149000, x149001, x149002, ([] : List (S75)), 2)) else (spec_AddJoin.l0 k x1 x2 x13 (([] : List (S75))) 0 x140000 x140001 x140002 x140003 x149000 x149001 x149002)
def spec_AddJoin.l0 : Nat → Int → Bool → List (S35) → List (S75) → Int → Int → Int → Int → Int → List (S35) → List (S35) → Int → Option ((List (S35)) × (List (S35)) × Int × (List (S75)) × Int)
  | 0, _, _, _, _, _, _, _, _, _, _, _, _ => none
  | k + 1, x1, x2, x13, x14, x15, x140000, x140001, x140002, x140003, x149000, x149001, x149002 => if x15 < (x13.length : Int) then (if 0 ≤ x15 then ((spec_l12Meet.f x140000 x140001 x140002 x140003 ((rd_T35 x13 x15).f0) ((rd_T35 x13 x15).f1) ((rd_T35 x13 x15).f2) ((rd_T35 x13 x15).f3) x1).bind fun t162 => (if t162 = true then (if x2 = true then ((spec_l12Pair.f x140000 x140001 x140002 x140003 ((rd_T35 x13 x15).f0) ((rd_T35 x13 x15).f1) ((rd_T35 x13 x15).f2) ((rd_T35 x13 x15).f3)).bind fun bt164 => (if x14.length < 3518437208883 then (spec_AddJoin.l0 k x1 x2 x13 (x14 ++ [(⟨bt164.1, bt164.2.1, bt164.2.2.1, bt164.2.2.2.1, bt164.2.2.2.2⟩ : S75)]) (wrap64 (x15 + 1)) x140000 x140001 x140002 x140003 x149000 x149001 x149002) else (none))) else ((spec_l12Pair.f ((rd_T35 x13 x15).f0) ((rd_T35 x13 x15).f1) ((rd_T35 x13 x15).f2) ((rd_T35 x13 x15).f3) x140000 x140001 x140002 x140003).bind fun bt173 => (if x14.length < 3518437208883 then (spec_AddJoin.l0 k x1 x2 x13 (x14 ++ [(⟨bt173.1, bt173.2.1, bt173.2.2.1, bt173.2.2.2.1, bt173.2.2.2.2⟩ : S75)]) (wrap64 (x15 + 1)) x140000 x140001 x140002 x140003 x149000 x149001 x149002) else (none)))) else (spec_AddJoin.l0 k x1 x2 x13 x14 (wrap64 (x15 + 1)) x140000 x140001 x140002 x140003 x149000 x149001 x149002))) else (none)) else (if x2 = true then (if x149000.length < 4398046511104 then (some ((x149000 ++ [(⟨x140000, x140001, x140002, x140003⟩ : S35)]), x149001, x149002, x14, 0)) else (none)) else (if x149001.length < 4398046511104 then (some (x149000, (x149001 ++ [(⟨x140000, x140001, x140002, x140003⟩ : S35)]), x149002, x14, 0)) else (none)))
end
def spec_AddJoin.f (k : Nat) (l0_0 : List (S35)) (l0_1 : List (S35)) (a0_2 : Int) (a1 : Int) (a2 : Bool) (a3_0 : Int) (a3_1 : Int) (a3_2 : Int) (a3_3 : Int) : Option ((List (S35)) × (List (S35)) × Int × (List (S75)) × Int) := (spec_l12Copy.f k l0_0 l0_1 a0_2).bind fun bt141 => ((spec_JoinOk.f k l0_0 l0_1 a0_2).bind fun t149 => (if t149 = true then ((spec_l12Event.f a3_0 a3_1 a3_2 a3_3).bind fun t150 => (if t150 = true then ((spec_l01In.f a1 0 1000000).bind fun t151 => (spec_AddJoin.j0 k a1 a2 (!t151) l0_0 l0_1 a0_2 a3_0 a3_1 a3_2 a3_3 bt141.1 bt141.2.1 bt141.2.2)) else (spec_AddJoin.j0 k a1 a2 true l0_0 l0_1 a0_2 a3_0 a3_1 a3_2 a3_3 bt141.1 bt141.2.1 bt141.2.2))) else (spec_AddJoin.j0 k a1 a2 true l0_0 l0_1 a0_2 a3_0 a3_1 a3_2 a3_3 bt141.1 bt141.2.1 bt141.2.2)))
theorem spec_AddJoin.mono_l : ∀ k, (∀ y0 y1 y2 y3 y4 y5 y6 y7 y8 y9 y10 y11 y12, LeO (spec_AddJoin.j0 k y0 y1 y2 y3 y4 y5 y6 y7 y8 y9 y10 y11 y12) (spec_AddJoin.j0 (k + 1) y0 y1 y2 y3 y4 y5 y6 y7 y8 y9 y10 y11 y12)) ∧ (∀ y0 y1 y2 y3 y4 y5 y6 y7 y8 y9 y10, LeO (spec_AddJoin.j1 k y0 y1 y2 y3 y4 y5 y6 y7 y8 y9 y10) (spec_AddJoin.j1 (k + 1) y0 y1 y2 y3 y4 y5 y6 y7 y8 y9 y10)) ∧ (∀ y0 y1 y2 y3 y4 y5 y6 y7 y8 y9 y10 y11, LeO (spec_AddJoin.l0 k y0 y1 y2 y3 y4 y5 y6 y7 y8 y9 y10 y11) (spec_AddJoin.l0 (k + 1) y0 y1 y2 y3 y4 y5 y6 y7 y8 y9 y10 y11))
  | 0 => ⟨fun _ _ _ _ _ _ _ _ _ _ _ _ _ r h => by simp [spec_AddJoin.j0] at h, fun _ _ _ _ _ _ _ _ _ _ _ r h => by simp [spec_AddJoin.j1] at h, fun _ _ _ _ _ _ _ _ _ _ _ _ r h => by simp [spec_AddJoin.l0] at h⟩
  | k + 1 => by
    obtain ⟨ih0, ih1, ih2⟩ := spec_AddJoin.mono_l k
    refine ⟨?_, ?_, ?_⟩
    · intro y0 y1 y2 y3 y4 y5 y6 y7 y8 y9 y10 y11 y12
      unfold spec_AddJoin.j0
      repeat' first
      | (with_reducible exact ih0 _ _ _ _ _ _ _ _ _ _ _ _ _)
      | (with_reducible exact ih1 _ _ _ _ _ _ _ _ _ _ _)
      | (with_reducible exact ih2 _ _ _ _ _ _ _ _ _ _ _ _)
      | (with_reducible exact spec_JoinOk.mono _ _ _ _)
      | (with_reducible exact spec_l12Copy.mono _ _ _ _)
      | (with_reducible exact LeO.refl _)
      | (with_reducible exact LeO.none _)
      | (with_reducible refine LeO.ite ?_ ?_)
      | (with_reducible refine LeO.bind ?_ (fun _ => ?_))
      | exact ih0 _ _ _ _ _ _ _ _ _ _ _ _ _
      | exact ih1 _ _ _ _ _ _ _ _ _ _ _
      | exact ih2 _ _ _ _ _ _ _ _ _ _ _ _
      | exact spec_JoinOk.mono _ _ _ _
      | exact spec_l12Copy.mono _ _ _ _
      | exact LeO.none _
      | refine LeO.ite ?_ ?_
      | refine LeO.bind ?_ (fun _ => ?_)
    · intro y0 y1 y2 y3 y4 y5 y6 y7 y8 y9 y10
      unfold spec_AddJoin.j1
      repeat' first
      | (with_reducible exact ih0 _ _ _ _ _ _ _ _ _ _ _ _ _)
      | (with_reducible exact ih1 _ _ _ _ _ _ _ _ _ _ _)
      | (with_reducible exact ih2 _ _ _ _ _ _ _ _ _ _ _ _)
      | (with_reducible exact spec_JoinOk.mono _ _ _ _)
      | (with_reducible exact spec_l12Copy.mono _ _ _ _)
      | (with_reducible exact LeO.refl _)
      | (with_reducible exact LeO.none _)
      | (with_reducible refine LeO.ite ?_ ?_)
      | (with_reducible refine LeO.bind ?_ (fun _ => ?_))
      | exact ih0 _ _ _ _ _ _ _ _ _ _ _ _ _
      | exact ih1 _ _ _ _ _ _ _ _ _ _ _
      | exact ih2 _ _ _ _ _ _ _ _ _ _ _ _
      | exact spec_JoinOk.mono _ _ _ _
      | exact spec_l12Copy.mono _ _ _ _
      | exact LeO.none _
      | refine LeO.ite ?_ ?_
      | refine LeO.bind ?_ (fun _ => ?_)
    · intro y0 y1 y2 y3 y4 y5 y6 y7 y8 y9 y10 y11
      unfold spec_AddJoin.l0
      repeat' first
      | (with_reducible exact ih0 _ _ _ _ _ _ _ _ _ _ _ _ _)
      | (with_reducible exact ih1 _ _ _ _ _ _ _ _ _ _ _)
      | (with_reducible exact ih2 _ _ _ _ _ _ _ _ _ _ _ _)
      | (with_reducible exact spec_JoinOk.mono _ _ _ _)
      | (with_reducible exact spec_l12Copy.mono _ _ _ _)
      | (with_reducible exact LeO.refl _)
      | (with_reducible exact LeO.none _)
      | (with_reducible refine LeO.ite ?_ ?_)
      | (with_reducible refine LeO.bind ?_ (fun _ => ?_))
      | exact ih0 _ _ _ _ _ _ _ _ _ _ _ _ _
      | exact ih1 _ _ _ _ _ _ _ _ _ _ _
      | exact ih2 _ _ _ _ _ _ _ _ _ _ _ _
      | exact spec_JoinOk.mono _ _ _ _
      | exact spec_l12Copy.mono _ _ _ _
      | exact LeO.none _
      | refine LeO.ite ?_ ?_
      | refine LeO.bind ?_ (fun _ => ?_)
theorem spec_AddJoin.mono : ∀ a0 a1 a2 a3 a4 a5 a6 a7 a8 k, LeO (spec_AddJoin.f k a0 a1 a2 a3 a4 a5 a6 a7 a8) (spec_AddJoin.f (k + 1) a0 a1 a2 a3 a4 a5 a6 a7 a8) := by
  intro a0 a1 a2 a3 a4 a5 a6 a7 a8 k
  obtain ⟨ih0, ih1, ih2⟩ := spec_AddJoin.mono_l k
  unfold spec_AddJoin.f
  repeat' first
      | (with_reducible exact ih0 _ _ _ _ _ _ _ _ _ _ _ _ _)
      | (with_reducible exact ih1 _ _ _ _ _ _ _ _ _ _ _)
      | (with_reducible exact ih2 _ _ _ _ _ _ _ _ _ _ _ _)
      | (with_reducible exact spec_JoinOk.mono _ _ _ _)
      | (with_reducible exact spec_l12Copy.mono _ _ _ _)
      | (with_reducible exact LeO.refl _)
      | (with_reducible exact LeO.none _)
      | (with_reducible refine LeO.ite ?_ ?_)
      | (with_reducible refine LeO.bind ?_ (fun _ => ?_))
      | exact ih0 _ _ _ _ _ _ _ _ _ _ _ _ _
      | exact ih1 _ _ _ _ _ _ _ _ _ _ _
      | exact ih2 _ _ _ _ _ _ _ _ _ _ _ _
      | exact spec_JoinOk.mono _ _ _ _
      | exact spec_l12Copy.mono _ _ _ _
      | exact LeO.none _
      | refine LeO.ite ?_ ?_
      | refine LeO.bind ?_ (fun _ => ?_)
def spec_AddJoin.T17 : Bool × List (List Nat × List Nat) := (true, [([], []), ([], []), ([], []), ([1, 2], [1, 2]), ([3], [3]), ([], []), ([0, 4, 5], [0, 4, 5]), ([6], [6])])
def spec_AddJoin.B17 : List Nat := [0, 0, 0, 6, 14, 0, 63, 127]
theorem spec_AddJoin.tab17 : rtab .any (opsOf Try.f9 17) = spec_AddJoin.T17 := by kernel_rfl
theorem spec_AddJoin.bits17 : waitsOk spec_AddJoin.T17.2 spec_AddJoin.B17 = true := by kernel_rfl
def spec_AddJoin.T19 : Bool × List (List Nat × List Nat) := (true, [([], []), ([], []), ([], []), ([], []), ([2, 3], [2, 3]), ([4], [4]), ([1, 5], [1, 5]), ([6], [6]), ([0, 7, 6], [0, 7]), ([8, 8, 0, 1, 2, 3, 4, 5, 6, 7, 8], [0, 8])])
def spec_AddJoin.B19 : List Nat := [0, 0, 0, 0, 12, 28, 62, 126, 255, 511]
theorem spec_AddJoin.tab19 : rtab .any (opsOf Try.f9 19) = spec_AddJoin.T19 := by kernel_rfl
theorem spec_AddJoin.bits19 : waitsOk spec_AddJoin.T19.2 spec_AddJoin.B19 = true := by kernel_rfl
def spec_AddJoin.T20 : Bool × List (List Nat × List Nat) := (true, [([], []), ([], []), ([], []), ([1, 2], [1, 2]), ([3], [3]), ([], []), ([4, 5], [4, 5]), ([6], [6]), ([0, 7, 6], [0, 7]), ([8, 8, 0, 1, 2, 3, 4, 5, 6, 7, 8], [0, 8])])
def spec_AddJoin.B20 : List Nat := [0, 0, 0, 6, 14, 0, 62, 126, 255, 511]
theorem spec_AddJoin.tab20 : rtab .any (opsOf Try.f9 20) = spec_AddJoin.T20 := by kernel_rfl
theorem spec_AddJoin.bits20 : waitsOk spec_AddJoin.T20.2 spec_AddJoin.B20 = true := by kernel_rfl
set_option maxHeartbeats 8000000 in
set_option maxRecDepth 100000 in
theorem spec_AddJoin.calls (k : Nat) (P0_0_ : Nat → Prop) (A0_0 : Option Addr) (c0_0 : Nat) (l0_0 : List (S35)) (P0_1_ : Nat → Prop) (A0_1 : Option Addr) (c0_1 : Nat) (l0_1 : List (S35)) (a0_2 : Int) (a1 : Int) (a2 : Bool) (a3_0 : Int) (a3_1 : Int) (a3_2 : Int) (a3_3 : Int) (r1 : List (S35)) (r2 : List (S35)) (r3 : Int) (r4 : List (S75)) (r5 : Int) (w : World) (hs0_0 : Kd.V k35 35 w w.heap.size (fun k_ => P0_0_ k_) (.slice A0_0 l0_0.length c0_0) l0_0) (hs0_1 : Kd.V k35 35 w w.heap.size (fun k_ => P0_1_ k_) (.slice A0_1 l0_1.length c0_1) l0_1) (h : spec_AddJoin.f k l0_0 l0_1 a0_2 a1 a2 a3_0 a3_1 a3_2 a3_3 = some (r1, r2, r3, r4, r5)) :
    Calls Try.prog 9 #[.agg #[.slice A0_0 l0_0.length c0_0, .slice A0_1 l0_1.length c0_1, .int .i64 a0_2], .int .i64 a1, .bool a2, .agg #[.int .i64 a3_0, .int .i64 a3_1, .int .i64 a3_2, .int .i64 a3_3]] w fun e w' => ∃ v0_ v1_ v3_ : Value, e = .returned (.tuple #[.agg #[v0_, v1_, .int .i64 r3], v3_, .int .i64 r5]) ∧ Kd.R k35 35 w' w.heap.size (fun k_ => (w.heap.size ≤ k_) ∧ nb k_ v1_) v0_ r1 ∧ Kd.R k35 35 w' w.heap.size (fun k_ => (w.heap.size ≤ k_) ∧ nb k_ v0_) v1_ r2 ∧ Kd.R k75 75 w' w.heap.size (fun k_ => (w.heap.size ≤ k_)) v3_ r4 ∧ Below w.heap.size w w' := by
  have hu30 := Try.underlying30
  have hu35 := Try.underlying35
  have HO0_0 := am (show Kd.V k35 35 w w.heap.size (fun k_ => ((P0_0_ k_ ∨ P0_1_ k_) ∨ w.heap.size ≤ k_)) (.slice A0_0 l0_0.length c0_0) l0_0 from Kd.V_mono hs0_0 (fun k_ hk => .inl (.inl hk)))
  have HO0_1 := am (show Kd.V k35 35 w w.heap.size (fun k_ => ((P0_0_ k_ ∨ P0_1_ k_) ∨ w.heap.size ≤ k_)) (.slice A0_1 l0_1.length c0_1) l0_1 from Kd.V_mono hs0_1 (fun k_ hk => .inl (.inr hk)))
  have HB := am (Below.refl w.heap.size w)
  have H : ((spec_l12Copy.f k l0_0 l0_1 a0_2).bind fun bt141 => ((spec_JoinOk.f k l0_0 l0_1 a0_2).bind fun t149 => (if t149 = true then ((spec_l12Event.f a3_0 a3_1 a3_2 a3_3).bind fun t150 => (if t150 = true then ((spec_l01In.f a1 0 1000000).bind fun t151 => (spec_AddJoin.j0 k a1 a2 (!t151) l0_0 l0_1 a0_2 a3_0 a3_1 a3_2 a3_3 bt141.1 bt141.2.1 bt141.2.2)) else (spec_AddJoin.j0 k a1 a2 true l0_0 l0_1 a0_2 a3_0 a3_1 a3_2 a3_3 bt141.1 bt141.2.1 bt141.2.2))) else (spec_AddJoin.j0 k a1 a2 true l0_0 l0_1 a0_2 a3_0 a3_1 a3_2 a3_3 bt141.1 bt141.2.1 bt141.2.2)))) = some (r1, r2, r3, r4, r5) := h
  clear h
  replace H := Option.bind_eq_some_iff.mp H
  obtain ⟨⟨t141, t144, t147⟩, A50, H⟩ := H
  (try dsimp only at H)
  have A5 := Aside0.mk A50
  clear A50
  have HC6 := Aside0.mk H
  clear H
  go_enter Try.func9, Try.ntmps9
  go_upto_region 2 with (first | ((with_reducible refine gate_dst (N := 4) rfl ?_); refine box_event ?hg (N := 4) ?hd (cs := #[.slice A0_0 l0_0.length c0_0, .slice A0_1 l0_1.length c0_1, .int .i64 a0_2]) (t := 30) ?hr ?_; (case hd => rfl); (case hg => rfl); (case hr => first | (go_simp; done) | (go_simp; rfl)); intro gb138 hg w7 hbox hb; replace HO0_0 := am (Kd.V_below (Kd.V_elderB (by (with_reducible repeat (first | apply Kd.V_alloc | apply Kd.V_drewN | apply Kd.V_drew)); exact HO0_0.out) gb138 (Nat.le_of_eq hg.symm)) hb); replace HO0_1 := am (Kd.V_below (Kd.V_elderB (by (with_reducible repeat (first | apply Kd.V_alloc | apply Kd.V_drewN | apply Kd.V_drew)); exact HO0_1.out) gb138 (Nat.le_of_eq hg.symm)) hb); have BK138 := am (hbox); have GW138 := am ((by rw [hg]; exact (below_size bel) : w.heap.size ≤ gb138)); have GE138 := am ((by rw [hg]; exact (below_size bel) : w.heap.size ≤ gb138)); replace HB := am (below_step bel hb); clear hb hbox hg) | ((with_reducible refine gate_dst (N := 7) rfl ?_); refine box_event ?hg (N := 7) ?hd (cs := #[.int .i64 a3_0, .int .i64 a3_1, .int .i64 a3_2, .int .i64 a3_3]) (t := 35) ?hr ?_; (case hd => rfl); (case hg => rfl); (case hr => first | (go_simp; done) | (go_simp; rfl)); intro gb139 hg w8 hbox hb; replace HO0_0 := am (Kd.V_below (Kd.V_elderB (by (with_reducible repeat (first | apply Kd.V_alloc | apply Kd.V_drewN | apply Kd.V_drew)); exact HO0_0.out) gb139 (Nat.le_of_eq hg.symm)) hb); replace HO0_1 := am (Kd.V_below (Kd.V_elderB (by (with_reducible repeat (first | apply Kd.V_alloc | apply Kd.V_drewN | apply Kd.V_drew)); exact HO0_1.out) gb139 (Nat.le_of_eq hg.symm)) hb); have BK139 := am (hbox); have GW139 := am ((by rw [hg]; exact (below_size bel) : w.heap.size ≤ gb139)); have GE139 := am ((by rw [hg]; exact (below_size bel) : w.heap.size ≤ gb139)); replace HB := am (below_step bel hb); have NB138_139 := am ((by rw [hg]; exact Nat.ne_of_lt (blk_lt (blkq BK138.out)) : gb138 ≠ gb139)); have NB139_138 := am ((by rw [hg]; exact Nat.ne_of_gt (blk_lt (blkq BK138.out)) : gb139 ≠ gb138)); replace BK138 := am (blk_below (blkq BK138.out) hb); clear hb hbox hg) | ((with_reducible refine gate_dst (N := 8) rfl ?_); refine box_event ?hg (N := 8) ?hd (cs := #[.slice none 0 0, .slice none 0 0, .int .i64 0]) (t := 30) ?hr ?_; (case hd => rfl); (case hg => rfl); (case hr => first | (go_simp; done) | (go_simp; rfl)); intro gb140 hg w9 hbox hb; replace HO0_0 := am (Kd.V_below (Kd.V_elderB (by (with_reducible repeat (first | apply Kd.V_alloc | apply Kd.V_drewN | apply Kd.V_drew)); exact HO0_0.out) gb140 (Nat.le_of_eq hg.symm)) hb); replace HO0_1 := am (Kd.V_below (Kd.V_elderB (by (with_reducible repeat (first | apply Kd.V_alloc | apply Kd.V_drewN | apply Kd.V_drew)); exact HO0_1.out) gb140 (Nat.le_of_eq hg.symm)) hb); have BK140 := am (hbox); have GW140 := am ((by rw [hg]; exact (below_size bel) : w.heap.size ≤ gb140)); have GE140 := am ((by rw [hg]; exact (below_size bel) : w.heap.size ≤ gb140)); replace HB := am (below_step bel hb); have NB138_140 := am ((by rw [hg]; exact Nat.ne_of_lt (blk_lt (blkq BK138.out)) : gb138 ≠ gb140)); have NB140_138 := am ((by rw [hg]; exact Nat.ne_of_gt (blk_lt (blkq BK138.out)) : gb140 ≠ gb138)); replace BK138 := am (blk_below (blkq BK138.out) hb); have NB139_140 := am ((by rw [hg]; exact Nat.ne_of_lt (blk_lt (blkq BK139.out)) : gb139 ≠ gb140)); have NB140_139 := am ((by rw [hg]; exact Nat.ne_of_gt (blk_lt (blkq BK139.out)) : gb140 ≠ gb139)); replace BK139 := am (blk_below (blkq BK139.out) hb); clear hb hbox hg; have hnb10 := NB138_139.out; have hnc10 := NB139_138.out; have hnb11 := NB138_140.out; have hnc11 := NB140_138.out; obtain ⟨hcz12_0, hcz12_1, hcz12_2, hfz12_0, hfz12_1, hfz12_2⟩ := blkc3 BK138.out) | ((with_reducible refine gate_callee (f := 43) rfl ?_); refine goesL1 17 Try.func43 #[.agg #[.slice A0_0 l0_0.length c0_0, .slice A0_1 l0_1.length c0_1, .int .i64 a0_2]] ?_; (with_reducible refine (spec_l12Copy.calls k _ _ l0_0 _ _ l0_1 a0_2 t141 t144 t147 _ ?side1 ?side2 ?side3 ?side4 A5.out).mono ?_); (case side1 => repeat (first | exact (Kd.V_reads' HO0_0.out).2.2 | (with_reducible refine Kd.C_alloc ?_ _) | (with_reducible refine Kd.C_drewN ?_ _) | (with_reducible refine Kd.C_drew ?_))); (case side2 => exact (Kd.V_reads' HO0_0.out).2.1); (case side3 => repeat (first | exact (Kd.V_reads' HO0_1.out).2.2 | (with_reducible refine Kd.C_alloc ?_ _) | (with_reducible refine Kd.C_drewN ?_ _) | (with_reducible refine Kd.C_drew ?_))); (case side4 => exact (Kd.V_reads' HO0_1.out).2.1); rintro e w13 ⟨v142, v145, rfl, ho0, ho1, hb⟩; refine ⟨_, rfl, ?_⟩; replace HO0_0 := am (Kd.V_mono (Kd.V_told (Kd.V_told (Kd.V_old (by (with_reducible repeat (first | apply Kd.V_alloc | apply Kd.V_drewN | apply Kd.V_drew)); exact HO0_0.out) hb) (Kd.R_base ho0)) (Kd.R_base ho1)) (fun _ h_ => h_.1)); replace HO0_1 := am (Kd.V_mono (Kd.V_told (Kd.V_told (Kd.V_old (by (with_reducible repeat (first | apply Kd.V_alloc | apply Kd.V_drewN | apply Kd.V_drew)); exact HO0_1.out) hb) (Kd.R_base ho0)) (Kd.R_base ho1)) (fun _ h_ => h_.1)); have HO143 := am (Kd.R_lower (Kd.R_newB (Kd.R_newM (M := fun k_ => (w.heap.size ≤ k_)) ho0 (below_size bel) (fun k_ h_ => h_)) (blkq BK139.out)) (below_size bel)); have HO146 := am (Kd.R_lower (Kd.R_newB (Kd.R_newM (M := fun k_ => (w.heap.size ≤ k_)) ho1 (below_size bel) (fun k_ h_ => h_)) (blkq BK139.out)) (below_size bel)); replace BK138 := am (blk_below (blkq BK138.out) hb); replace BK139 := am (blk_below (blkq BK139.out) hb); replace BK140 := am (blk_below (blkq BK140.out) hb); replace HB := am (below_step bel hb); (try clear hb); (try clear ho0); (try clear ho1)) | ((with_reducible refine gate_dst (N := 11) rfl ?_); refine box_event ?hg (N := 11) ?hd (cs := #[.slice none 0 0, .slice none 0 0, .int .i64 0]) (t := 30) ?hr ?_; (case hd => rfl); (case hg => rfl); (case hr => first | (go_simp; done) | (go_simp; rfl)); intro gb148 hg w14 hbox hb; replace HO0_0 := am (Kd.V_below (Kd.V_elderB (by (with_reducible repeat (first | apply Kd.V_alloc | apply Kd.V_drewN | apply Kd.V_drew)); exact HO0_0.out) gb148 (Nat.le_of_eq hg.symm)) hb); replace HO0_1 := am (Kd.V_below (Kd.V_elderB (by (with_reducible repeat (first | apply Kd.V_alloc | apply Kd.V_drewN | apply Kd.V_drew)); exact HO0_1.out) gb148 (Nat.le_of_eq hg.symm)) hb); replace HO143 := am (Kd.R_below (rq HO143.out) hb); replace HO146 := am (Kd.R_below (rq HO146.out) hb); have BK148 := am (hbox); have GW148 := am ((by rw [hg]; exact (below_size bel) : w.heap.size ≤ gb148)); have GE148 := am ((by rw [hg]; exact (below_size bel) : w.heap.size ≤ gb148)); replace HB := am (below_step bel hb); have NB138_148 := am ((by rw [hg]; exact Nat.ne_of_lt (blk_lt (blkq BK138.out)) : gb138 ≠ gb148)); have NB148_138 := am ((by rw [hg]; exact Nat.ne_of_gt (blk_lt (blkq BK138.out)) : gb148 ≠ gb138)); replace BK138 := am (blk_below (blkq BK138.out) hb); have NB139_148 := am ((by rw [hg]; exact Nat.ne_of_lt (blk_lt (blkq BK139.out)) : gb139 ≠ gb148)); have NB148_139 := am ((by rw [hg]; exact Nat.ne_of_gt (blk_lt (blkq BK139.out)) : gb148 ≠ gb139)); replace BK139 := am (blk_below (blkq BK139.out) hb); have NB140_148 := am ((by rw [hg]; exact Nat.ne_of_lt (blk_lt (blkq BK140.out)) : gb140 ≠ gb148)); have NB148_140 := am ((by rw [hg]; exact Nat.ne_of_gt (blk_lt (blkq BK140.out)) : gb148 ≠ gb140)); replace BK140 := am (blk_below (blkq BK140.out) hb); clear hb hbox hg; obtain ⟨Ao15, co15, eo15⟩ := Kd.R_slice HO143.out; subst eo15; have hnb16 := NB148_138.out; have hnc16 := NB138_148.out; have hnb17 := NB148_139.out; have hnc17 := NB139_148.out; have hnb18 := NB148_140.out; have hnc18 := NB140_148.out; obtain ⟨hcz19_0, hcz19_1, hcz19_2, hfz19_0, hfz19_1, hfz19_2⟩ := blkc3 BK148.out; obtain ⟨Ao20, co20, eo20⟩ := Kd.R_slice HO146.out; subst eo20))
  (try simp only [Act.put, List.setIfInBounds_toArray, List.set_cons_zero, List.set_cons_succ])
  go_cut [30] (fun v30 wc => ∃ (kq : Nat) (x30_5 : Bool), v30 = .bool x30_5 ∧ Aside0 (spec_AddJoin.j0 kq a1 a2 x30_5 l0_0 l0_1 a0_2 a3_0 a3_1 a3_2 a3_3 t141 t144 t147 = some (r1, r2, r3, r4, r5)) ∧ Aside0 (kq ≤ k) ∧ Aside0 (Kd.V k35 35 wc w.heap.size (fun k_ => ((P0_0_ k_ ∨ P0_1_ k_) ∨ w.heap.size ≤ k_) ∧ some k_ ≠ ((.slice Ao15 t141.length co15) : Value).ownBlock ∧ some k_ ≠ ((.slice Ao20 t144.length co20) : Value).ownBlock ∧ k_ ≠ gb138 ∧ k_ ≠ gb139 ∧ k_ ≠ gb140 ∧ k_ ≠ gb148) (.slice A0_0 l0_0.length c0_0) l0_0) ∧ Aside0 (Kd.V k35 35 wc w.heap.size (fun k_ => ((P0_0_ k_ ∨ P0_1_ k_) ∨ w.heap.size ≤ k_) ∧ some k_ ≠ ((.slice Ao15 t141.length co15) : Value).ownBlock ∧ some k_ ≠ ((.slice Ao20 t144.length co20) : Value).ownBlock ∧ k_ ≠ gb138 ∧ k_ ≠ gb139 ∧ k_ ≠ gb140 ∧ k_ ≠ gb148) (.slice A0_1 l0_1.length c0_1) l0_1) ∧ Aside0 (Kd.R k35 35 wc w.heap.size (fun k_ => (w.heap.size ≤ k_) ∧ some k_ ≠ ((.slice Ao20 t144.length co20) : Value).ownBlock ∧ k_ ≠ gb139) (.slice Ao15 t141.length co15) t141) ∧ Aside0 (Kd.R k35 35 wc w.heap.size (fun k_ => (w.heap.size ≤ k_) ∧ some k_ ≠ ((.slice Ao15 t141.length co15) : Value).ownBlock ∧ k_ ≠ gb139) (.slice Ao20 t144.length co20) t144) ∧ Aside0 (wc.heap[gb138]? = some (.cells #[(.slice A0_0 l0_0.length c0_0), (.slice A0_1 l0_1.length c0_1), .int .i64 a0_2] 30 (0, 0))) ∧ Aside0 (wc.heap[gb139]? = some (.cells #[.int .i64 a3_0, .int .i64 a3_1, .int .i64 a3_2, .int .i64 a3_3] 35 (0, 0))) ∧ Aside0 (wc.heap[gb140]? = some (.cells #[(.slice none 0 0), (.slice none 0 0), .int .i64 0] 30 (0, 0))) ∧ Aside0 (wc.heap[gb148]? = some (.cells #[(.slice Ao15 t141.length co15), (.slice Ao20 t144.length co20), .int .i64 t147] 30 (0, 0))) ∧ Aside0 (Below w.heap.size w wc))
  case first =>
    have H := HC6.out
    clear HC6
    replace H := Option.bind_eq_some_iff.mp H
    obtain ⟨t149, A210, H⟩ := H
    (try dsimp only at H)
    have A21 := Aside0.mk A210
    clear A210
    by_cases c22 : t149 = true
    rotate_left
    · replace c22 := Bool.eq_false_iff.mpr c22
      subst c22
      have H1 : (spec_AddJoin.j0 k a1 a2 true l0_0 l0_1 a0_2 a3_0 a3_1 a3_2 a3_3 t141 t144 t147) = some (r1, r2, r3, r4, r5) := by rw [if_neg (show ¬ (false = true) by decide)] at H; exact H
      clear H
      have H := H1
      clear H1
      have H' := Aside0.mk H
      clear H
      have hnb44 := NB138_139.out
      have hnc44 := NB139_138.out
      have hnb45 := NB138_140.out
      have hnc45 := NB140_138.out
      have hnb46 := NB138_148.out
      have hnc46 := NB148_138.out
      have hcz47_0 : w14.cell? ⟨gb138, 0, none⟩ = some (.slice A0_0 l0_0.length c0_0) := (blk_cell BK138.out 0).trans rfl
      have hcz47_1 : w14.cell? ⟨gb138, 1, none⟩ = some (.slice A0_1 l0_1.length c0_1) := (blk_cell BK138.out 1).trans rfl
      have hcz47_2 : w14.cell? ⟨gb138, 2, none⟩ = some (.int .i64 a0_2) := (blk_cell BK138.out 2).trans rfl
      have hfz47_0 := blk_frozen BK138.out 0
      have hfz47_1 := blk_frozen BK138.out 1
      have hfz47_2 := blk_frozen BK138.out 2
      go_wp2_with (first | ((with_reducible refine gate_callee (f := 44) rfl ?_); refine goesL1 19 Try.func44 #[.agg #[.slice A0_0 l0_0.length c0_0, .slice A0_1 l0_1.length c0_1, .int .i64 a0_2]] ?_; (with_reducible refine (spec_JoinOk.calls k _ _ l0_0 _ _ l0_1 a0_2 false _ ?side1 ?side2 ?side3 ?side4 A21.out).mono ?_); (case side1 => refine (Kd.V_reads' (e := 35) (base := w.heap.size) (ok := fun k_ => ((((((((P0_0_ k_ ∨ P0_1_ k_) ∨ w.heap.size ≤ k_) ∧ k_ ≠ gb138) ∧ k_ ≠ gb139) ∧ k_ ≠ gb140) ∧ nb k_ (sv Ao15 t141 co15)) ∧ nb k_ (sv Ao20 t144 co20)) ∧ k_ ≠ gb148)) (n := l0_0.length) (c := c0_0) ?_).2.2; exact (by (with_reducible repeat (first | apply Kd.V_alloc | apply Kd.V_drewN | apply Kd.V_drew)); exact (Kd.V_mono (Kd.V_far (p := ⟨gb148, 2, none⟩) (Kd.V_far (p := ⟨gb148, 1, none⟩) (Kd.V_far (p := ⟨gb148, 0, none⟩) (Kd.V_mono HO0_0.out (fun k_ hk => (⟨hk, hk.2⟩ : _ ∧ k_ ≠ gb148))) (fun _ hk => hk.2) (.slice Ao15 t141.length co15)) (fun _ hk => hk.2) (.slice Ao20 t144.length co20)) (fun _ hk => hk.2) (.int .i64 t147)) (fun _ h_ => h_.1)))); (case side2 => exact (Kd.V_reads' HO0_0.out).2.1); (case side3 => refine (Kd.V_reads' (e := 35) (base := w.heap.size) (ok := fun k_ => ((((((((P0_0_ k_ ∨ P0_1_ k_) ∨ w.heap.size ≤ k_) ∧ k_ ≠ gb138) ∧ k_ ≠ gb139) ∧ k_ ≠ gb140) ∧ nb k_ (sv Ao15 t141 co15)) ∧ nb k_ (sv Ao20 t144 co20)) ∧ k_ ≠ gb148)) (n := l0_1.length) (c := c0_1) ?_).2.2; exact (by (with_reducible repeat (first | apply Kd.V_alloc | apply Kd.V_drewN | apply Kd.V_drew)); exact (Kd.V_mono (Kd.V_far (p := ⟨gb148, 2, none⟩) (Kd.V_far (p := ⟨gb148, 1, none⟩) (Kd.V_far (p := ⟨gb148, 0, none⟩) (Kd.V_mono HO0_1.out (fun k_ hk => (⟨hk, hk.2⟩ : _ ∧ k_ ≠ gb148))) (fun _ hk => hk.2) (.slice Ao15 t141.length co15)) (fun _ hk => hk.2) (.slice Ao20 t144.length co20)) (fun _ hk => hk.2) (.int .i64 t147)) (fun _ h_ => h_.1)))); (case side4 => exact (Kd.V_reads' HO0_1.out).2.1); rintro e w48 ⟨rfl, hb⟩; refine ⟨_, rfl, ?_⟩; replace HO0_0 := am (Kd.V_below (by (with_reducible repeat (first | apply Kd.V_alloc | apply Kd.V_drewN | apply Kd.V_drew)); exact (Kd.V_mono (Kd.V_far (p := ⟨gb148, 2, none⟩) (Kd.V_far (p := ⟨gb148, 1, none⟩) (Kd.V_far (p := ⟨gb148, 0, none⟩) (Kd.V_mono HO0_0.out (fun k_ hk => (⟨hk, hk.2⟩ : _ ∧ k_ ≠ gb148))) (fun _ hk => hk.2) (.slice Ao15 t141.length co15)) (fun _ hk => hk.2) (.slice Ao20 t144.length co20)) (fun _ hk => hk.2) (.int .i64 t147)) (fun _ h_ => h_.1))) hb); replace HO0_1 := am (Kd.V_below (by (with_reducible repeat (first | apply Kd.V_alloc | apply Kd.V_drewN | apply Kd.V_drew)); exact (Kd.V_mono (Kd.V_far (p := ⟨gb148, 2, none⟩) (Kd.V_far (p := ⟨gb148, 1, none⟩) (Kd.V_far (p := ⟨gb148, 0, none⟩) (Kd.V_mono HO0_1.out (fun k_ hk => (⟨hk, hk.2⟩ : _ ∧ k_ ≠ gb148))) (fun _ hk => hk.2) (.slice Ao15 t141.length co15)) (fun _ hk => hk.2) (.slice Ao20 t144.length co20)) (fun _ hk => hk.2) (.int .i64 t147)) (fun _ h_ => h_.1))) hb); replace HO143 := am (Kd.R_below (by (with_reducible repeat (first | apply Kd.R_alloc | apply Kd.R_drewN | apply Kd.R_drew)); exact (Kd.R_mono (Kd.R_far (p := ⟨gb148, 2, none⟩) (Kd.R_far (p := ⟨gb148, 1, none⟩) (Kd.R_far (p := ⟨gb148, 0, none⟩) (Kd.R_types HO143.out BK148.out (by decide)) (fun _ hk => hk.2) (.slice Ao15 t141.length co15)) (fun _ hk => hk.2) (.slice Ao20 t144.length co20)) (fun _ hk => hk.2) (.int .i64 t147)) (fun _ h_ => h_.1))) hb); replace HO146 := am (Kd.R_below (by (with_reducible repeat (first | apply Kd.R_alloc | apply Kd.R_drewN | apply Kd.R_drew)); exact (Kd.R_mono (Kd.R_far (p := ⟨gb148, 2, none⟩) (Kd.R_far (p := ⟨gb148, 1, none⟩) (Kd.R_far (p := ⟨gb148, 0, none⟩) (Kd.R_types HO146.out BK148.out (by decide)) (fun _ hk => hk.2) (.slice Ao15 t141.length co15)) (fun _ hk => hk.2) (.slice Ao20 t144.length co20)) (fun _ hk => hk.2) (.int .i64 t147)) (fun _ h_ => h_.1))) hb); replace BK138 := am (blk_below (g := gb138) (o := .cells #[.slice A0_0 l0_0.length c0_0, .slice A0_1 l0_1.length c0_1, .int .i64 a0_2] 30 (0, 0)) (by (with_reducible repeat (first | refine blk_drewN ?_ _ | refine blk_drew ?_ | refine blk_alloc ?_ _)); refine blk_far ?_ NB138_148.out _; (with_reducible repeat (first | refine blk_drewN ?_ _ | refine blk_drew ?_ | refine blk_alloc ?_ _)); refine blk_far ?_ NB138_148.out _; (with_reducible repeat (first | refine blk_drewN ?_ _ | refine blk_drew ?_ | refine blk_alloc ?_ _)); refine blk_far ?_ NB138_148.out _; (with_reducible repeat (first | refine blk_drewN ?_ _ | refine blk_drew ?_ | refine blk_alloc ?_ _)); exact BK138.out) hb); replace BK139 := am (blk_below (g := gb139) (o := .cells #[.int .i64 a3_0, .int .i64 a3_1, .int .i64 a3_2, .int .i64 a3_3] 35 (0, 0)) (by (with_reducible repeat (first | refine blk_drewN ?_ _ | refine blk_drew ?_ | refine blk_alloc ?_ _)); refine blk_far ?_ NB139_148.out _; (with_reducible repeat (first | refine blk_drewN ?_ _ | refine blk_drew ?_ | refine blk_alloc ?_ _)); refine blk_far ?_ NB139_148.out _; (with_reducible repeat (first | refine blk_drewN ?_ _ | refine blk_drew ?_ | refine blk_alloc ?_ _)); refine blk_far ?_ NB139_148.out _; (with_reducible repeat (first | refine blk_drewN ?_ _ | refine blk_drew ?_ | refine blk_alloc ?_ _)); exact BK139.out) hb); replace BK140 := am (blk_below (g := gb140) (o := .cells #[.slice none 0 0, .slice none 0 0, .int .i64 0] 30 (0, 0)) (by (with_reducible repeat (first | refine blk_drewN ?_ _ | refine blk_drew ?_ | refine blk_alloc ?_ _)); refine blk_far ?_ NB140_148.out _; (with_reducible repeat (first | refine blk_drewN ?_ _ | refine blk_drew ?_ | refine blk_alloc ?_ _)); refine blk_far ?_ NB140_148.out _; (with_reducible repeat (first | refine blk_drewN ?_ _ | refine blk_drew ?_ | refine blk_alloc ?_ _)); refine blk_far ?_ NB140_148.out _; (with_reducible repeat (first | refine blk_drewN ?_ _ | refine blk_drew ?_ | refine blk_alloc ?_ _)); exact BK140.out) hb); replace BK148 := am (blk_below (g := gb148) (o := .cells #[.slice Ao15 t141.length co15, .slice Ao20 t144.length co20, .int .i64 t147] 30 (0, 0)) (by (with_reducible repeat (first | refine blk_drewN ?_ _ | refine blk_drew ?_ | refine blk_alloc ?_ _)); refine blk_put (cs := #[.slice Ao15 t141.length co15, .slice Ao20 t144.length co20, .int .i64 0]) ?_ 2 _ rfl; (with_reducible repeat (first | refine blk_drewN ?_ _ | refine blk_drew ?_ | refine blk_alloc ?_ _)); refine blk_put (cs := #[.slice Ao15 t141.length co15, .slice none 0 0, .int .i64 0]) ?_ 1 _ rfl; (with_reducible repeat (first | refine blk_drewN ?_ _ | refine blk_drew ?_ | refine blk_alloc ?_ _)); refine blk_put (cs := #[.slice none 0 0, .slice none 0 0, .int .i64 0]) ?_ 0 _ rfl; (with_reducible repeat (first | refine blk_drewN ?_ _ | refine blk_drew ?_ | refine blk_alloc ?_ _)); exact BK148.out) hb); replace HB := am (below_step bel hb); (try clear hb)))
      go_meet
      case rel => exact ⟨_, (true), (by first | rfl | (simp; done) | (simp [*]; done)), H', ⟨by first | omega | exact Nat.le_refl _⟩, ⟨by (with_reducible repeat (first | apply Kd.V_alloc | apply Kd.V_drewN | apply Kd.V_drew)); exact Kd.V_mono HO0_0.out (fun _ hk => ⟨hk.1.1.1.1.1.1, ⟨hk.1.1.2, ⟨hk.1.2, ⟨hk.1.1.1.1.1.2, ⟨hk.1.1.1.1.2, ⟨hk.1.1.1.2, hk.2⟩⟩⟩⟩⟩⟩)⟩, ⟨by (with_reducible repeat (first | apply Kd.V_alloc | apply Kd.V_drewN | apply Kd.V_drew)); exact Kd.V_mono HO0_1.out (fun _ hk => ⟨hk.1.1.1.1.1.1, ⟨hk.1.1.2, ⟨hk.1.2, ⟨hk.1.1.1.1.1.2, ⟨hk.1.1.1.1.2, ⟨hk.1.1.1.2, hk.2⟩⟩⟩⟩⟩⟩)⟩, ⟨by (with_reducible repeat (first | apply Kd.R_alloc | apply Kd.R_drewN | apply Kd.R_drew)); exact Kd.R_mono HO143.out (fun _ hk => ⟨hk.1.1, ⟨hk.1.2, hk.2⟩⟩)⟩, ⟨by (with_reducible repeat (first | apply Kd.R_alloc | apply Kd.R_drewN | apply Kd.R_drew)); exact Kd.R_mono HO146.out (fun _ hk => ⟨hk.1.1, ⟨hk.1.2, hk.2⟩⟩)⟩, ⟨by (with_reducible repeat (first | refine blk_drewN ?_ _ | refine blk_drew ?_ | refine blk_alloc ?_ _)); exact BK138.out⟩, ⟨by (with_reducible repeat (first | refine blk_drewN ?_ _ | refine blk_drew ?_ | refine blk_alloc ?_ _)); exact BK139.out⟩, ⟨by (with_reducible repeat (first | refine blk_drewN ?_ _ | refine blk_drew ?_ | refine blk_alloc ?_ _)); exact BK140.out⟩, ⟨by (with_reducible repeat (first | refine blk_drewN ?_ _ | refine blk_drew ?_ | refine blk_alloc ?_ _)); exact BK148.out⟩, ⟨by repeat (first | (with_reducible first | exact HB.out | apply below_alloc | apply pw_below_drewN | apply below_drew1 | refine below_set ?_ GE138.out | refine below_set ?_ GE139.out | refine below_set ?_ GE140.out | refine below_set ?_ GE148.out) | exact HB.out)⟩⟩
    subst c22
    have H1 : ((spec_l12Event.f a3_0 a3_1 a3_2 a3_3).bind fun t150 => (if t150 = true then ((spec_l01In.f a1 0 1000000).bind fun t151 => (spec_AddJoin.j0 k a1 a2 (!t151) l0_0 l0_1 a0_2 a3_0 a3_1 a3_2 a3_3 t141 t144 t147)) else (spec_AddJoin.j0 k a1 a2 true l0_0 l0_1 a0_2 a3_0 a3_1 a3_2 a3_3 t141 t144 t147))) = some (r1, r2, r3, r4, r5) := by rw [if_pos rfl] at H; exact H
    clear H
    have H := H1
    clear H1
    replace H := Option.bind_eq_some_iff.mp H
    obtain ⟨t150, A230, H⟩ := H
    (try dsimp only at H)
    have A23 := Aside0.mk A230
    clear A230
    by_cases c24 : t150 = true
    rotate_left
    · replace c24 := Bool.eq_false_iff.mpr c24
      subst c24
      have H1 : (spec_AddJoin.j0 k a1 a2 true l0_0 l0_1 a0_2 a3_0 a3_1 a3_2 a3_3 t141 t144 t147) = some (r1, r2, r3, r4, r5) := by rw [if_neg (show ¬ (false = true) by decide)] at H; exact H
      clear H
      have H := H1
      clear H1
      have H' := Aside0.mk H
      clear H
      have hnb35 := NB138_139.out
      have hnc35 := NB139_138.out
      have hnb36 := NB138_140.out
      have hnc36 := NB140_138.out
      have hnb37 := NB138_148.out
      have hnc37 := NB148_138.out
      have hcz38_0 : w14.cell? ⟨gb138, 0, none⟩ = some (.slice A0_0 l0_0.length c0_0) := (blk_cell BK138.out 0).trans rfl
      have hcz38_1 : w14.cell? ⟨gb138, 1, none⟩ = some (.slice A0_1 l0_1.length c0_1) := (blk_cell BK138.out 1).trans rfl
      have hcz38_2 : w14.cell? ⟨gb138, 2, none⟩ = some (.int .i64 a0_2) := (blk_cell BK138.out 2).trans rfl
      have hfz38_0 := blk_frozen BK138.out 0
      have hfz38_1 := blk_frozen BK138.out 1
      have hfz38_2 := blk_frozen BK138.out 2
      go_wp2_with (first | ((with_reducible refine gate_callee (f := 44) rfl ?_); refine goesL1 19 Try.func44 #[.agg #[.slice A0_0 l0_0.length c0_0, .slice A0_1 l0_1.length c0_1, .int .i64 a0_2]] ?_; (with_reducible refine (spec_JoinOk.calls k _ _ l0_0 _ _ l0_1 a0_2 true _ ?side1 ?side2 ?side3 ?side4 A21.out).mono ?_); (case side1 => refine (Kd.V_reads' (e := 35) (base := w.heap.size) (ok := fun k_ => ((((((((P0_0_ k_ ∨ P0_1_ k_) ∨ w.heap.size ≤ k_) ∧ k_ ≠ gb138) ∧ k_ ≠ gb139) ∧ k_ ≠ gb140) ∧ nb k_ (sv Ao15 t141 co15)) ∧ nb k_ (sv Ao20 t144 co20)) ∧ k_ ≠ gb148)) (n := l0_0.length) (c := c0_0) ?_).2.2; exact (by (with_reducible repeat (first | apply Kd.V_alloc | apply Kd.V_drewN | apply Kd.V_drew)); exact (Kd.V_mono (Kd.V_far (p := ⟨gb148, 2, none⟩) (Kd.V_far (p := ⟨gb148, 1, none⟩) (Kd.V_far (p := ⟨gb148, 0, none⟩) (Kd.V_mono HO0_0.out (fun k_ hk => (⟨hk, hk.2⟩ : _ ∧ k_ ≠ gb148))) (fun _ hk => hk.2) (.slice Ao15 t141.length co15)) (fun _ hk => hk.2) (.slice Ao20 t144.length co20)) (fun _ hk => hk.2) (.int .i64 t147)) (fun _ h_ => h_.1)))); (case side2 => exact (Kd.V_reads' HO0_0.out).2.1); (case side3 => refine (Kd.V_reads' (e := 35) (base := w.heap.size) (ok := fun k_ => ((((((((P0_0_ k_ ∨ P0_1_ k_) ∨ w.heap.size ≤ k_) ∧ k_ ≠ gb138) ∧ k_ ≠ gb139) ∧ k_ ≠ gb140) ∧ nb k_ (sv Ao15 t141 co15)) ∧ nb k_ (sv Ao20 t144 co20)) ∧ k_ ≠ gb148)) (n := l0_1.length) (c := c0_1) ?_).2.2; exact (by (with_reducible repeat (first | apply Kd.V_alloc | apply Kd.V_drewN | apply Kd.V_drew)); exact (Kd.V_mono (Kd.V_far (p := ⟨gb148, 2, none⟩) (Kd.V_far (p := ⟨gb148, 1, none⟩) (Kd.V_far (p := ⟨gb148, 0, none⟩) (Kd.V_mono HO0_1.out (fun k_ hk => (⟨hk, hk.2⟩ : _ ∧ k_ ≠ gb148))) (fun _ hk => hk.2) (.slice Ao15 t141.length co15)) (fun _ hk => hk.2) (.slice Ao20 t144.length co20)) (fun _ hk => hk.2) (.int .i64 t147)) (fun _ h_ => h_.1)))); (case side4 => exact (Kd.V_reads' HO0_1.out).2.1); rintro e w39 ⟨rfl, hb⟩; refine ⟨_, rfl, ?_⟩; replace HO0_0 := am (Kd.V_below (by (with_reducible repeat (first | apply Kd.V_alloc | apply Kd.V_drewN | apply Kd.V_drew)); exact (Kd.V_mono (Kd.V_far (p := ⟨gb148, 2, none⟩) (Kd.V_far (p := ⟨gb148, 1, none⟩) (Kd.V_far (p := ⟨gb148, 0, none⟩) (Kd.V_mono HO0_0.out (fun k_ hk => (⟨hk, hk.2⟩ : _ ∧ k_ ≠ gb148))) (fun _ hk => hk.2) (.slice Ao15 t141.length co15)) (fun _ hk => hk.2) (.slice Ao20 t144.length co20)) (fun _ hk => hk.2) (.int .i64 t147)) (fun _ h_ => h_.1))) hb); replace HO0_1 := am (Kd.V_below (by (with_reducible repeat (first | apply Kd.V_alloc | apply Kd.V_drewN | apply Kd.V_drew)); exact (Kd.V_mono (Kd.V_far (p := ⟨gb148, 2, none⟩) (Kd.V_far (p := ⟨gb148, 1, none⟩) (Kd.V_far (p := ⟨gb148, 0, none⟩) (Kd.V_mono HO0_1.out (fun k_ hk => (⟨hk, hk.2⟩ : _ ∧ k_ ≠ gb148))) (fun _ hk => hk.2) (.slice Ao15 t141.length co15)) (fun _ hk => hk.2) (.slice Ao20 t144.length co20)) (fun _ hk => hk.2) (.int .i64 t147)) (fun _ h_ => h_.1))) hb); replace HO143 := am (Kd.R_below (by (with_reducible repeat (first | apply Kd.R_alloc | apply Kd.R_drewN | apply Kd.R_drew)); exact (Kd.R_mono (Kd.R_far (p := ⟨gb148, 2, none⟩) (Kd.R_far (p := ⟨gb148, 1, none⟩) (Kd.R_far (p := ⟨gb148, 0, none⟩) (Kd.R_types HO143.out BK148.out (by decide)) (fun _ hk => hk.2) (.slice Ao15 t141.length co15)) (fun _ hk => hk.2) (.slice Ao20 t144.length co20)) (fun _ hk => hk.2) (.int .i64 t147)) (fun _ h_ => h_.1))) hb); replace HO146 := am (Kd.R_below (by (with_reducible repeat (first | apply Kd.R_alloc | apply Kd.R_drewN | apply Kd.R_drew)); exact (Kd.R_mono (Kd.R_far (p := ⟨gb148, 2, none⟩) (Kd.R_far (p := ⟨gb148, 1, none⟩) (Kd.R_far (p := ⟨gb148, 0, none⟩) (Kd.R_types HO146.out BK148.out (by decide)) (fun _ hk => hk.2) (.slice Ao15 t141.length co15)) (fun _ hk => hk.2) (.slice Ao20 t144.length co20)) (fun _ hk => hk.2) (.int .i64 t147)) (fun _ h_ => h_.1))) hb); replace BK138 := am (blk_below (g := gb138) (o := .cells #[.slice A0_0 l0_0.length c0_0, .slice A0_1 l0_1.length c0_1, .int .i64 a0_2] 30 (0, 0)) (by (with_reducible repeat (first | refine blk_drewN ?_ _ | refine blk_drew ?_ | refine blk_alloc ?_ _)); refine blk_far ?_ NB138_148.out _; (with_reducible repeat (first | refine blk_drewN ?_ _ | refine blk_drew ?_ | refine blk_alloc ?_ _)); refine blk_far ?_ NB138_148.out _; (with_reducible repeat (first | refine blk_drewN ?_ _ | refine blk_drew ?_ | refine blk_alloc ?_ _)); refine blk_far ?_ NB138_148.out _; (with_reducible repeat (first | refine blk_drewN ?_ _ | refine blk_drew ?_ | refine blk_alloc ?_ _)); exact BK138.out) hb); replace BK139 := am (blk_below (g := gb139) (o := .cells #[.int .i64 a3_0, .int .i64 a3_1, .int .i64 a3_2, .int .i64 a3_3] 35 (0, 0)) (by (with_reducible repeat (first | refine blk_drewN ?_ _ | refine blk_drew ?_ | refine blk_alloc ?_ _)); refine blk_far ?_ NB139_148.out _; (with_reducible repeat (first | refine blk_drewN ?_ _ | refine blk_drew ?_ | refine blk_alloc ?_ _)); refine blk_far ?_ NB139_148.out _; (with_reducible repeat (first | refine blk_drewN ?_ _ | refine blk_drew ?_ | refine blk_alloc ?_ _)); refine blk_far ?_ NB139_148.out _; (with_reducible repeat (first | refine blk_drewN ?_ _ | refine blk_drew ?_ | refine blk_alloc ?_ _)); exact BK139.out) hb); replace BK140 := am (blk_below (g := gb140) (o := .cells #[.slice none 0 0, .slice none 0 0, .int .i64 0] 30 (0, 0)) (by (with_reducible repeat (first | refine blk_drewN ?_ _ | refine blk_drew ?_ | refine blk_alloc ?_ _)); refine blk_far ?_ NB140_148.out _; (with_reducible repeat (first | refine blk_drewN ?_ _ | refine blk_drew ?_ | refine blk_alloc ?_ _)); refine blk_far ?_ NB140_148.out _; (with_reducible repeat (first | refine blk_drewN ?_ _ | refine blk_drew ?_ | refine blk_alloc ?_ _)); refine blk_far ?_ NB140_148.out _; (with_reducible repeat (first | refine blk_drewN ?_ _ | refine blk_drew ?_ | refine blk_alloc ?_ _)); exact BK140.out) hb); replace BK148 := am (blk_below (g := gb148) (o := .cells #[.slice Ao15 t141.length co15, .slice Ao20 t144.length co20, .int .i64 t147] 30 (0, 0)) (by (with_reducible repeat (first | refine blk_drewN ?_ _ | refine blk_drew ?_ | refine blk_alloc ?_ _)); refine blk_put (cs := #[.slice Ao15 t141.length co15, .slice Ao20 t144.length co20, .int .i64 0]) ?_ 2 _ rfl; (with_reducible repeat (first | refine blk_drewN ?_ _ | refine blk_drew ?_ | refine blk_alloc ?_ _)); refine blk_put (cs := #[.slice Ao15 t141.length co15, .slice none 0 0, .int .i64 0]) ?_ 1 _ rfl; (with_reducible repeat (first | refine blk_drewN ?_ _ | refine blk_drew ?_ | refine blk_alloc ?_ _)); refine blk_put (cs := #[.slice none 0 0, .slice none 0 0, .int .i64 0]) ?_ 0 _ rfl; (with_reducible repeat (first | refine blk_drewN ?_ _ | refine blk_drew ?_ | refine blk_alloc ?_ _)); exact BK148.out) hb); replace HB := am (below_step bel hb); (try clear hb); have hnb40 := NB139_140.out; have hnc40 := NB140_139.out; have hnb41 := NB139_148.out; have hnc41 := NB148_139.out; obtain ⟨hcz42_0, hcz42_1, hcz42_2, hcz42_3, hfz42_0, hfz42_1, hfz42_2, hfz42_3⟩ := blkc4 BK139.out) | (go_at_call 45; (with_reducible refine (spec_l12Event.calls a3_0 a3_1 a3_2 a3_3 false _ A23.out).mono ?_); rintro e w43 ⟨rfl, hb⟩; have n0_ := am (Kd.V_below (by (with_reducible repeat (first | apply Kd.V_alloc | apply Kd.V_drewN | apply Kd.V_drew)); exact HO0_0.out) hb); have n1_ := am (Kd.V_below (by (with_reducible repeat (first | apply Kd.V_alloc | apply Kd.V_drewN | apply Kd.V_drew)); exact HO0_1.out) hb); have n2_ := am (Kd.R_below (rq HO143.out) hb); have n3_ := am (Kd.R_below (rq HO146.out) hb); have n4_ := am (blk_below (blkq BK138.out) hb); have n5_ := am (blk_below (blkq BK139.out) hb); have n6_ := am (blk_below (blkq BK140.out) hb); have n7_ := am (blk_below (blkq BK148.out) hb); have n8_ := am (below_step bel hb); clear HO0_0 HO0_1 HO143 HO146 BK138 BK139 BK140 BK148 HB; have HO0_0 := n0_; have HO0_1 := n1_; have HO143 := n2_; have HO146 := n3_; have BK138 := n4_; have BK139 := n5_; have BK140 := n6_; have BK148 := n7_; have HB := n8_; clear n0_ n1_ n2_ n3_ n4_ n5_ n6_ n7_ n8_; (try clear hb); (try clear hb2); (try clear hk); (try clear hi)))
      go_meet
      case rel => exact ⟨_, (true), (by first | rfl | (simp; done) | (simp [*]; done)), H', ⟨by first | omega | exact Nat.le_refl _⟩, ⟨by (with_reducible repeat (first | apply Kd.V_alloc | apply Kd.V_drewN | apply Kd.V_drew)); exact Kd.V_mono HO0_0.out (fun _ hk => ⟨hk.1.1.1.1.1.1, ⟨hk.1.1.2, ⟨hk.1.2, ⟨hk.1.1.1.1.1.2, ⟨hk.1.1.1.1.2, ⟨hk.1.1.1.2, hk.2⟩⟩⟩⟩⟩⟩)⟩, ⟨by (with_reducible repeat (first | apply Kd.V_alloc | apply Kd.V_drewN | apply Kd.V_drew)); exact Kd.V_mono HO0_1.out (fun _ hk => ⟨hk.1.1.1.1.1.1, ⟨hk.1.1.2, ⟨hk.1.2, ⟨hk.1.1.1.1.1.2, ⟨hk.1.1.1.1.2, ⟨hk.1.1.1.2, hk.2⟩⟩⟩⟩⟩⟩)⟩, ⟨by (with_reducible repeat (first | apply Kd.R_alloc | apply Kd.R_drewN | apply Kd.R_drew)); exact Kd.R_mono HO143.out (fun _ hk => ⟨hk.1.1, ⟨hk.1.2, hk.2⟩⟩)⟩, ⟨by (with_reducible repeat (first | apply Kd.R_alloc | apply Kd.R_drewN | apply Kd.R_drew)); exact Kd.R_mono HO146.out (fun _ hk => ⟨hk.1.1, ⟨hk.1.2, hk.2⟩⟩)⟩, ⟨by (with_reducible repeat (first | refine blk_drewN ?_ _ | refine blk_drew ?_ | refine blk_alloc ?_ _)); exact BK138.out⟩, ⟨by (with_reducible repeat (first | refine blk_drewN ?_ _ | refine blk_drew ?_ | refine blk_alloc ?_ _)); exact BK139.out⟩, ⟨by (with_reducible repeat (first | refine blk_drewN ?_ _ | refine blk_drew ?_ | refine blk_alloc ?_ _)); exact BK140.out⟩, ⟨by (with_reducible repeat (first | refine blk_drewN ?_ _ | refine blk_drew ?_ | refine blk_alloc ?_ _)); exact BK148.out⟩, ⟨by repeat (first | (with_reducible first | exact HB.out | apply below_alloc | apply pw_below_drewN | apply below_drew1 | refine below_set ?_ GE138.out | refine below_set ?_ GE139.out | refine below_set ?_ GE140.out | refine below_set ?_ GE148.out) | exact HB.out)⟩⟩
    subst c24
    have H1 : ((spec_l01In.f a1 0 1000000).bind fun t151 => (spec_AddJoin.j0 k a1 a2 (!t151) l0_0 l0_1 a0_2 a3_0 a3_1 a3_2 a3_3 t141 t144 t147)) = some (r1, r2, r3, r4, r5) := by rw [if_pos rfl] at H; exact H
    clear H
    have H := H1
    clear H1
    replace H := Option.bind_eq_some_iff.mp H
    obtain ⟨t151, A250, H⟩ := H
    (try dsimp only at H)
    have A25 := Aside0.mk A250
    clear A250
    have H' := Aside0.mk H
    clear H
    have hnb26 := NB138_139.out
    have hnc26 := NB139_138.out
    have hnb27 := NB138_140.out
    have hnc27 := NB140_138.out
    have hnb28 := NB138_148.out
    have hnc28 := NB148_138.out
    have hcz29_0 : w14.cell? ⟨gb138, 0, none⟩ = some (.slice A0_0 l0_0.length c0_0) := (blk_cell BK138.out 0).trans rfl
    have hcz29_1 : w14.cell? ⟨gb138, 1, none⟩ = some (.slice A0_1 l0_1.length c0_1) := (blk_cell BK138.out 1).trans rfl
    have hcz29_2 : w14.cell? ⟨gb138, 2, none⟩ = some (.int .i64 a0_2) := (blk_cell BK138.out 2).trans rfl
    have hfz29_0 := blk_frozen BK138.out 0
    have hfz29_1 := blk_frozen BK138.out 1
    have hfz29_2 := blk_frozen BK138.out 2
    go_wp2_with (first | ((with_reducible refine gate_callee (f := 44) rfl ?_); refine goesL1 19 Try.func44 #[.agg #[.slice A0_0 l0_0.length c0_0, .slice A0_1 l0_1.length c0_1, .int .i64 a0_2]] ?_; (with_reducible refine (spec_JoinOk.calls k _ _ l0_0 _ _ l0_1 a0_2 true _ ?side1 ?side2 ?side3 ?side4 A21.out).mono ?_); (case side1 => refine (Kd.V_reads' (e := 35) (base := w.heap.size) (ok := fun k_ => ((((((((P0_0_ k_ ∨ P0_1_ k_) ∨ w.heap.size ≤ k_) ∧ k_ ≠ gb138) ∧ k_ ≠ gb139) ∧ k_ ≠ gb140) ∧ nb k_ (sv Ao15 t141 co15)) ∧ nb k_ (sv Ao20 t144 co20)) ∧ k_ ≠ gb148)) (n := l0_0.length) (c := c0_0) ?_).2.2; exact (by (with_reducible repeat (first | apply Kd.V_alloc | apply Kd.V_drewN | apply Kd.V_drew)); exact (Kd.V_mono (Kd.V_far (p := ⟨gb148, 2, none⟩) (Kd.V_far (p := ⟨gb148, 1, none⟩) (Kd.V_far (p := ⟨gb148, 0, none⟩) (Kd.V_mono HO0_0.out (fun k_ hk => (⟨hk, hk.2⟩ : _ ∧ k_ ≠ gb148))) (fun _ hk => hk.2) (.slice Ao15 t141.length co15)) (fun _ hk => hk.2) (.slice Ao20 t144.length co20)) (fun _ hk => hk.2) (.int .i64 t147)) (fun _ h_ => h_.1)))); (case side2 => exact (Kd.V_reads' HO0_0.out).2.1); (case side3 => refine (Kd.V_reads' (e := 35) (base := w.heap.size) (ok := fun k_ => ((((((((P0_0_ k_ ∨ P0_1_ k_) ∨ w.heap.size ≤ k_) ∧ k_ ≠ gb138) ∧ k_ ≠ gb139) ∧ k_ ≠ gb140) ∧ nb k_ (sv Ao15 t141 co15)) ∧ nb k_ (sv Ao20 t144 co20)) ∧ k_ ≠ gb148)) (n := l0_1.length) (c := c0_1) ?_).2.2; exact (by (with_reducible repeat (first | apply Kd.V_alloc | apply Kd.V_drewN | apply Kd.V_drew)); exact (Kd.V_mono (Kd.V_far (p := ⟨gb148, 2, none⟩) (Kd.V_far (p := ⟨gb148, 1, none⟩) (Kd.V_far (p := ⟨gb148, 0, none⟩) (Kd.V_mono HO0_1.out (fun k_ hk => (⟨hk, hk.2⟩ : _ ∧ k_ ≠ gb148))) (fun _ hk => hk.2) (.slice Ao15 t141.length co15)) (fun _ hk => hk.2) (.slice Ao20 t144.length co20)) (fun _ hk => hk.2) (.int .i64 t147)) (fun _ h_ => h_.1)))); (case side4 => exact (Kd.V_reads' HO0_1.out).2.1); rintro e w30 ⟨rfl, hb⟩; refine ⟨_, rfl, ?_⟩; replace HO0_0 := am (Kd.V_below (by (with_reducible repeat (first | apply Kd.V_alloc | apply Kd.V_drewN | apply Kd.V_drew)); exact (Kd.V_mono (Kd.V_far (p := ⟨gb148, 2, none⟩) (Kd.V_far (p := ⟨gb148, 1, none⟩) (Kd.V_far (p := ⟨gb148, 0, none⟩) (Kd.V_mono HO0_0.out (fun k_ hk => (⟨hk, hk.2⟩ : _ ∧ k_ ≠ gb148))) (fun _ hk => hk.2) (.slice Ao15 t141.length co15)) (fun _ hk => hk.2) (.slice Ao20 t144.length co20)) (fun _ hk => hk.2) (.int .i64 t147)) (fun _ h_ => h_.1))) hb); replace HO0_1 := am (Kd.V_below (by (with_reducible repeat (first | apply Kd.V_alloc | apply Kd.V_drewN | apply Kd.V_drew)); exact (Kd.V_mono (Kd.V_far (p := ⟨gb148, 2, none⟩) (Kd.V_far (p := ⟨gb148, 1, none⟩) (Kd.V_far (p := ⟨gb148, 0, none⟩) (Kd.V_mono HO0_1.out (fun k_ hk => (⟨hk, hk.2⟩ : _ ∧ k_ ≠ gb148))) (fun _ hk => hk.2) (.slice Ao15 t141.length co15)) (fun _ hk => hk.2) (.slice Ao20 t144.length co20)) (fun _ hk => hk.2) (.int .i64 t147)) (fun _ h_ => h_.1))) hb); replace HO143 := am (Kd.R_below (by (with_reducible repeat (first | apply Kd.R_alloc | apply Kd.R_drewN | apply Kd.R_drew)); exact (Kd.R_mono (Kd.R_far (p := ⟨gb148, 2, none⟩) (Kd.R_far (p := ⟨gb148, 1, none⟩) (Kd.R_far (p := ⟨gb148, 0, none⟩) (Kd.R_types HO143.out BK148.out (by decide)) (fun _ hk => hk.2) (.slice Ao15 t141.length co15)) (fun _ hk => hk.2) (.slice Ao20 t144.length co20)) (fun _ hk => hk.2) (.int .i64 t147)) (fun _ h_ => h_.1))) hb); replace HO146 := am (Kd.R_below (by (with_reducible repeat (first | apply Kd.R_alloc | apply Kd.R_drewN | apply Kd.R_drew)); exact (Kd.R_mono (Kd.R_far (p := ⟨gb148, 2, none⟩) (Kd.R_far (p := ⟨gb148, 1, none⟩) (Kd.R_far (p := ⟨gb148, 0, none⟩) (Kd.R_types HO146.out BK148.out (by decide)) (fun _ hk => hk.2) (.slice Ao15 t141.length co15)) (fun _ hk => hk.2) (.slice Ao20 t144.length co20)) (fun _ hk => hk.2) (.int .i64 t147)) (fun _ h_ => h_.1))) hb); replace BK138 := am (blk_below (g := gb138) (o := .cells #[.slice A0_0 l0_0.length c0_0, .slice A0_1 l0_1.length c0_1, .int .i64 a0_2] 30 (0, 0)) (by (with_reducible repeat (first | refine blk_drewN ?_ _ | refine blk_drew ?_ | refine blk_alloc ?_ _)); refine blk_far ?_ NB138_148.out _; (with_reducible repeat (first | refine blk_drewN ?_ _ | refine blk_drew ?_ | refine blk_alloc ?_ _)); refine blk_far ?_ NB138_148.out _; (with_reducible repeat (first | refine blk_drewN ?_ _ | refine blk_drew ?_ | refine blk_alloc ?_ _)); refine blk_far ?_ NB138_148.out _; (with_reducible repeat (first | refine blk_drewN ?_ _ | refine blk_drew ?_ | refine blk_alloc ?_ _)); exact BK138.out) hb); replace BK139 := am (blk_below (g := gb139) (o := .cells #[.int .i64 a3_0, .int .i64 a3_1, .int .i64 a3_2, .int .i64 a3_3] 35 (0, 0)) (by (with_reducible repeat (first | refine blk_drewN ?_ _ | refine blk_drew ?_ | refine blk_alloc ?_ _)); refine blk_far ?_ NB139_148.out _; (with_reducible repeat (first | refine blk_drewN ?_ _ | refine blk_drew ?_ | refine blk_alloc ?_ _)); refine blk_far ?_ NB139_148.out _; (with_reducible repeat (first | refine blk_drewN ?_ _ | refine blk_drew ?_ | refine blk_alloc ?_ _)); refine blk_far ?_ NB139_148.out _; (with_reducible repeat (first | refine blk_drewN ?_ _ | refine blk_drew ?_ | refine blk_alloc ?_ _)); exact BK139.out) hb); replace BK140 := am (blk_below (g := gb140) (o := .cells #[.slice none 0 0, .slice none 0 0, .int .i64 0] 30 (0, 0)) (by (with_reducible repeat (first | refine blk_drewN ?_ _ | refine blk_drew ?_ | refine blk_alloc ?_ _)); refine blk_far ?_ NB140_148.out _; (with_reducible repeat (first | refine blk_drewN ?_ _ | refine blk_drew ?_ | refine blk_alloc ?_ _)); refine blk_far ?_ NB140_148.out _; (with_reducible repeat (first | refine blk_drewN ?_ _ | refine blk_drew ?_ | refine blk_alloc ?_ _)); refine blk_far ?_ NB140_148.out _; (with_reducible repeat (first | refine blk_drewN ?_ _ | refine blk_drew ?_ | refine blk_alloc ?_ _)); exact BK140.out) hb); replace BK148 := am (blk_below (g := gb148) (o := .cells #[.slice Ao15 t141.length co15, .slice Ao20 t144.length co20, .int .i64 t147] 30 (0, 0)) (by (with_reducible repeat (first | refine blk_drewN ?_ _ | refine blk_drew ?_ | refine blk_alloc ?_ _)); refine blk_put (cs := #[.slice Ao15 t141.length co15, .slice Ao20 t144.length co20, .int .i64 0]) ?_ 2 _ rfl; (with_reducible repeat (first | refine blk_drewN ?_ _ | refine blk_drew ?_ | refine blk_alloc ?_ _)); refine blk_put (cs := #[.slice Ao15 t141.length co15, .slice none 0 0, .int .i64 0]) ?_ 1 _ rfl; (with_reducible repeat (first | refine blk_drewN ?_ _ | refine blk_drew ?_ | refine blk_alloc ?_ _)); refine blk_put (cs := #[.slice none 0 0, .slice none 0 0, .int .i64 0]) ?_ 0 _ rfl; (with_reducible repeat (first | refine blk_drewN ?_ _ | refine blk_drew ?_ | refine blk_alloc ?_ _)); exact BK148.out) hb); replace HB := am (below_step bel hb); (try clear hb); have hnb31 := NB139_140.out; have hnc31 := NB140_139.out; have hnb32 := NB139_148.out; have hnc32 := NB148_139.out; obtain ⟨hcz33_0, hcz33_1, hcz33_2, hcz33_3, hfz33_0, hfz33_1, hfz33_2, hfz33_3⟩ := blkc4 BK139.out) | (go_at_call 45; (with_reducible refine (spec_l12Event.calls a3_0 a3_1 a3_2 a3_3 true _ A23.out).mono ?_); rintro e w34 ⟨rfl, hb⟩; have n0_ := am (Kd.V_below (by (with_reducible repeat (first | apply Kd.V_alloc | apply Kd.V_drewN | apply Kd.V_drew)); exact HO0_0.out) hb); have n1_ := am (Kd.V_below (by (with_reducible repeat (first | apply Kd.V_alloc | apply Kd.V_drewN | apply Kd.V_drew)); exact HO0_1.out) hb); have n2_ := am (Kd.R_below (rq HO143.out) hb); have n3_ := am (Kd.R_below (rq HO146.out) hb); have n4_ := am (blk_below (blkq BK138.out) hb); have n5_ := am (blk_below (blkq BK139.out) hb); have n6_ := am (blk_below (blkq BK140.out) hb); have n7_ := am (blk_below (blkq BK148.out) hb); have n8_ := am (below_step bel hb); clear HO0_0 HO0_1 HO143 HO146 BK138 BK139 BK140 BK148 HB; have HO0_0 := n0_; have HO0_1 := n1_; have HO143 := n2_; have HO146 := n3_; have BK138 := n4_; have BK139 := n5_; have BK140 := n6_; have BK148 := n7_; have HB := n8_; clear n0_ n1_ n2_ n3_ n4_ n5_ n6_ n7_ n8_; (try clear hb); (try clear hb2); (try clear hk); (try clear hi)) | (go_at_call 46; (with_reducible refine (spec_l01In.calls a1 0 1000000 t151 _ A25.out).mono ?_); rintro e w' ⟨rfl, ⟨nd, rfl⟩⟩))
    go_meet
    case rel => exact ⟨_, (!t151), (by first | rfl | (simp; done) | (simp [*]; done)), H', ⟨by first | omega | exact Nat.le_refl _⟩, ⟨by (with_reducible repeat (first | apply Kd.V_alloc | apply Kd.V_drewN | apply Kd.V_drew)); exact Kd.V_mono HO0_0.out (fun _ hk => ⟨hk.1.1.1.1.1.1, ⟨hk.1.1.2, ⟨hk.1.2, ⟨hk.1.1.1.1.1.2, ⟨hk.1.1.1.1.2, ⟨hk.1.1.1.2, hk.2⟩⟩⟩⟩⟩⟩)⟩, ⟨by (with_reducible repeat (first | apply Kd.V_alloc | apply Kd.V_drewN | apply Kd.V_drew)); exact Kd.V_mono HO0_1.out (fun _ hk => ⟨hk.1.1.1.1.1.1, ⟨hk.1.1.2, ⟨hk.1.2, ⟨hk.1.1.1.1.1.2, ⟨hk.1.1.1.1.2, ⟨hk.1.1.1.2, hk.2⟩⟩⟩⟩⟩⟩)⟩, ⟨by (with_reducible repeat (first | apply Kd.R_alloc | apply Kd.R_drewN | apply Kd.R_drew)); exact Kd.R_mono HO143.out (fun _ hk => ⟨hk.1.1, ⟨hk.1.2, hk.2⟩⟩)⟩, ⟨by (with_reducible repeat (first | apply Kd.R_alloc | apply Kd.R_drewN | apply Kd.R_drew)); exact Kd.R_mono HO146.out (fun _ hk => ⟨hk.1.1, ⟨hk.1.2, hk.2⟩⟩)⟩, ⟨by (with_reducible repeat (first | refine blk_drewN ?_ _ | refine blk_drew ?_ | refine blk_alloc ?_ _)); exact BK138.out⟩, ⟨by (with_reducible repeat (first | refine blk_drewN ?_ _ | refine blk_drew ?_ | refine blk_alloc ?_ _)); exact BK139.out⟩, ⟨by (with_reducible repeat (first | refine blk_drewN ?_ _ | refine blk_drew ?_ | refine blk_alloc ?_ _)); exact BK140.out⟩, ⟨by (with_reducible repeat (first | refine blk_drewN ?_ _ | refine blk_drew ?_ | refine blk_alloc ?_ _)); exact BK148.out⟩, ⟨by repeat (first | (with_reducible first | exact HB.out | apply below_alloc | apply pw_below_drewN | apply below_drew1 | refine below_set ?_ GE138.out | refine below_set ?_ GE139.out | refine below_set ?_ GE140.out | refine below_set ?_ GE148.out) | exact HB.out)⟩⟩
  case rest =>
    clear HC6
    try clear c1
    try clear c2
    try clear p2
    try clear c3
    try clear c4
    try clear c9
    try clear c10
    try clear c11
    try clear c16
    try clear c17
    try clear c18
    try clear c22
    try clear c24
    try clear c26
    try clear c27
    try clear c28
    try clear c31
    try clear c32
    try clear c35
    try clear c36
    try clear c37
    try clear c40
    try clear c41
    try clear c43
    try clear c44
    try clear c45
    try clear c46
    try clear hcz12_0
    try clear hcz12_1
    try clear hcz12_2
    try clear hcz19_0
    try clear hcz19_1
    try clear hcz19_2
    try clear hcz29_0
    try clear hcz29_1
    try clear hcz29_2
    try clear hcz33_0
    try clear hcz33_1
    try clear hcz33_2
    try clear hcz33_3
    try clear hcz38_0
    try clear hcz38_1
    try clear hcz38_2
    try clear hcz42_0
    try clear hcz42_1
    try clear hcz42_2
    try clear hcz42_3
    try clear hcz47_0
    try clear hcz47_1
    try clear hcz47_2
    try clear hfz12_0
    try clear hfz12_1
    try clear hfz12_2
    try clear hfz19_0
    try clear hfz19_1
    try clear hfz19_2
    try clear hfz29_0
    try clear hfz29_1
    try clear hfz29_2
    try clear hfz33_0
    try clear hfz33_1
    try clear hfz33_2
    try clear hfz33_3
    try clear hfz38_0
    try clear hfz38_1
    try clear hfz38_2
    try clear hfz42_0
    try clear hfz42_1
    try clear hfz42_2
    try clear hfz42_3
    try clear hfz47_0
    try clear hfz47_1
    try clear hfz47_2
    obtain ⟨kq, x30_5, rfl, HA, HJ5, HO_139000, HO_139001, HO_149000, HO_149001, BK138, BK139, BK140, BK148, HB⟩ := hcut
    cases kq with
    | zero => exact absurd HA.out (by simp [spec_AddJoin.j0])
    | succ kj5 =>
      have H := HA.out
      clear HA
      simp only [spec_AddJoin.j0] at H
      by_cases c49 : x30_5 = true
      · subst c49
        have H1 : (some (t141, t144, t147, ([] : List (S75)), 3)) = some (r1, r2, r3, r4, r5) := by rw [if_pos rfl] at H; exact H
        clear H
        have H := H1
        clear H1
        simp only [Option.some.injEq, Prod.mk.injEq] at H
        obtain ⟨rfl, rfl, rfl, rfl, rfl⟩ := H
        have hnb50 := NB148_138.out
        have hnc50 := NB138_148.out
        have hnb51 := NB148_139.out
        have hnc51 := NB139_148.out
        have hnb52 := NB148_140.out
        have hnc52 := NB140_148.out
        have hcz53_0 : wc.cell? ⟨gb148, 0, none⟩ = some (.slice Ao15 t141.length co15) := (blk_cell BK148.out 0).trans rfl
        have hcz53_1 : wc.cell? ⟨gb148, 1, none⟩ = some (.slice Ao20 t144.length co20) := (blk_cell BK148.out 1).trans rfl
        have hcz53_2 : wc.cell? ⟨gb148, 2, none⟩ = some (.int .i64 t147) := (blk_cell BK148.out 2).trans rfl
        have hfz53_0 := blk_frozen BK148.out 0
        have hfz53_1 := blk_frozen BK148.out 1
        have hfz53_2 := blk_frozen BK148.out 2
        have hnb54 := NB140_138.out
        have hnc54 := NB138_140.out
        have hnb55 := NB140_139.out
        have hnc55 := NB139_140.out
        have hcz56_0 : wc.cell? ⟨gb140, 0, none⟩ = some (.slice none 0 0) := (blk_cell BK140.out 0).trans rfl
        have hcz56_1 : wc.cell? ⟨gb140, 1, none⟩ = some (.slice none 0 0) := (blk_cell BK140.out 1).trans rfl
        have hcz56_2 : wc.cell? ⟨gb140, 2, none⟩ = some (.int .i64 0) := (blk_cell BK140.out 2).trans rfl
        have hfz56_0 := blk_frozen BK140.out 0
        have hfz56_1 := blk_frozen BK140.out 1
        have hfz56_2 := blk_frozen BK140.out 2
        go_wp2
        refine bodyPost_ret (results_ctt rfl _ _ gb140 30 #[.slice Ao15 t141.length co15, .slice Ao20 t144.length co20, .int .i64 t147] (0, 0) _ rfl (by (with_reducible repeat (first | refine blk_drewN ?_ _ | refine blk_drew ?_ | refine blk_alloc ?_ _)); refine blk_put (cs := #[.slice Ao15 t141.length co15, .slice Ao20 t144.length co20, .int .i64 0]) ?_ 2 _ rfl; (with_reducible repeat (first | refine blk_drewN ?_ _ | refine blk_drew ?_ | refine blk_alloc ?_ _)); refine blk_put (cs := #[.slice Ao15 t141.length co15, .slice none 0 0, .int .i64 0]) ?_ 1 _ rfl; (with_reducible repeat (first | refine blk_drewN ?_ _ | refine blk_drew ?_ | refine blk_alloc ?_ _)); refine blk_put (cs := #[.slice none 0 0, .slice none 0 0, .int .i64 0]) ?_ 0 _ rfl; (with_reducible repeat (first | refine blk_drewN ?_ _ | refine blk_drew ?_ | refine blk_alloc ?_ _)); exact BK140.out) Try.underlying30 rfl (by kernel_rfl)) rfl ?_
        exact ⟨_, _, _, by first | rfl | (simp [errW_none, errW_some] <;> rfl) | (simp [*, errW_none, errW_some] <;> rfl), by (with_reducible repeat (first | apply Kd.R_alloc | apply Kd.R_drewN | apply Kd.R_drew)); exact Kd.R_mono (Kd.R_far (p := ⟨gb140, 2, none⟩) (Kd.R_far (p := ⟨gb140, 1, none⟩) (Kd.R_far (p := ⟨gb140, 0, none⟩) (Kd.R_types HO_149000.out BK140.out (by decide)) (fun _ hk => hk.2) (.slice Ao15 t141.length co15)) (fun _ hk => hk.2) (.slice Ao20 t144.length co20)) (fun _ hk => hk.2) (.int .i64 t147)) (fun _ hk => ⟨hk.1.1, hk.1.2.1⟩), by (with_reducible repeat (first | apply Kd.R_alloc | apply Kd.R_drewN | apply Kd.R_drew)); exact Kd.R_mono (Kd.R_far (p := ⟨gb140, 2, none⟩) (Kd.R_far (p := ⟨gb140, 1, none⟩) (Kd.R_far (p := ⟨gb140, 0, none⟩) (Kd.R_types HO_149001.out BK140.out (by decide)) (fun _ hk => hk.2) (.slice Ao15 t141.length co15)) (fun _ hk => hk.2) (.slice Ao20 t144.length co20)) (fun _ hk => hk.2) (.int .i64 t147)) (fun _ hk => ⟨hk.1.1, hk.1.2.1⟩), by first | exact Kd.R_nil _ _ _ _ _ | exact Kd.N_nil _ _ _ _ _ | exact Kd.V_nil _ _ _ _ _ | exact Kd.Q_nil _ _ _ _ _ | exact Kd.S_nil _ _ _ _ _, by repeat (first | (with_reducible first | exact HB.out | apply below_alloc | apply pw_below_drewN | apply below_drew1 | refine below_set ?_ GE138.out | refine below_set ?_ GE139.out | refine below_set ?_ GE140.out | refine below_set ?_ GE148.out) | exact HB.out)⟩
      replace c49 := Bool.eq_false_iff.mpr c49
      subst c49
      have H1 : (if a3_2 ≤ a0_2 then (some (t141, t144, t147, ([] : List (S75)), 1)) else (if a2 = true then (spec_AddJoin.j1 kj5 a1 a2 l0_0 l0_1 a3_0 a3_1 a3_2 a3_3 t141 t144 t147) else (spec_AddJoin.j1 kj5 a1 a2 l0_1 l0_0 a3_0 a3_1 a3_2 a3_3 t141 t144 t147))) = some (r1, r2, r3, r4, r5) := by rw [if_neg (show ¬ (false = true) by decide)] at H; exact H
      clear H
      have H := H1
      clear H1
      by_cases c57 : a3_2 ≤ a0_2
      · rw [if_pos c57] at H
        have c57b0 : decide (a3_2 ≤ a0_2) = true := decide_eq_true c57
        clear c57
        simp only [Option.some.injEq, Prod.mk.injEq] at H
        obtain ⟨rfl, rfl, rfl, rfl, rfl⟩ := H
        have hnb58 := NB139_138.out
        have hnc58 := NB138_139.out
        have hnb59 := NB139_140.out
        have hnc59 := NB140_139.out
        have hnb60 := NB139_148.out
        have hnc60 := NB148_139.out
        have hcz61_0 : wc.cell? ⟨gb139, 0, none⟩ = some (.int .i64 a3_0) := (blk_cell BK139.out 0).trans rfl
        have hcz61_1 : wc.cell? ⟨gb139, 1, none⟩ = some (.int .i64 a3_1) := (blk_cell BK139.out 1).trans rfl
        have hcz61_2 : wc.cell? ⟨gb139, 2, none⟩ = some (.int .i64 a3_2) := (blk_cell BK139.out 2).trans rfl
        have hcz61_3 : wc.cell? ⟨gb139, 3, none⟩ = some (.int .i64 a3_3) := (blk_cell BK139.out 3).trans rfl
        have hfz61_0 := blk_frozen BK139.out 0
        have hfz61_1 := blk_frozen BK139.out 1
        have hfz61_2 := blk_frozen BK139.out 2
        have hfz61_3 := blk_frozen BK139.out 3
        have hnb62 := NB138_140.out
        have hnc62 := NB140_138.out
        have hnb63 := NB138_148.out
        have hnc63 := NB148_138.out
        have hcz64_0 : wc.cell? ⟨gb138, 0, none⟩ = some (.slice A0_0 l0_0.length c0_0) := (blk_cell BK138.out 0).trans rfl
        have hcz64_1 : wc.cell? ⟨gb138, 1, none⟩ = some (.slice A0_1 l0_1.length c0_1) := (blk_cell BK138.out 1).trans rfl
        have hcz64_2 : wc.cell? ⟨gb138, 2, none⟩ = some (.int .i64 a0_2) := (blk_cell BK138.out 2).trans rfl
        have hfz64_0 := blk_frozen BK138.out 0
        have hfz64_1 := blk_frozen BK138.out 1
        have hfz64_2 := blk_frozen BK138.out 2
        have hnb65 := NB148_140.out
        have hnc65 := NB140_148.out
        have hcz66_0 : wc.cell? ⟨gb148, 0, none⟩ = some (.slice Ao15 t141.length co15) := (blk_cell BK148.out 0).trans rfl
        have hcz66_1 : wc.cell? ⟨gb148, 1, none⟩ = some (.slice Ao20 t144.length co20) := (blk_cell BK148.out 1).trans rfl
        have hcz66_2 : wc.cell? ⟨gb148, 2, none⟩ = some (.int .i64 t147) := (blk_cell BK148.out 2).trans rfl
        have hfz66_0 := blk_frozen BK148.out 0
        have hfz66_1 := blk_frozen BK148.out 1
        have hfz66_2 := blk_frozen BK148.out 2
        have hcz67_0 : wc.cell? ⟨gb140, 0, none⟩ = some (.slice none 0 0) := (blk_cell BK140.out 0).trans rfl
        have hcz67_1 : wc.cell? ⟨gb140, 1, none⟩ = some (.slice none 0 0) := (blk_cell BK140.out 1).trans rfl
        have hcz67_2 : wc.cell? ⟨gb140, 2, none⟩ = some (.int .i64 0) := (blk_cell BK140.out 2).trans rfl
        have hfz67_0 := blk_frozen BK140.out 0
        have hfz67_1 := blk_frozen BK140.out 1
        have hfz67_2 := blk_frozen BK140.out 2
        go_wp2
        refine bodyPost_ret (results_ctt rfl _ _ gb140 30 #[.slice Ao15 t141.length co15, .slice Ao20 t144.length co20, .int .i64 t147] (0, 0) _ rfl (by (with_reducible repeat (first | refine blk_drewN ?_ _ | refine blk_drew ?_ | refine blk_alloc ?_ _)); refine blk_put (cs := #[.slice Ao15 t141.length co15, .slice Ao20 t144.length co20, .int .i64 0]) ?_ 2 _ rfl; (with_reducible repeat (first | refine blk_drewN ?_ _ | refine blk_drew ?_ | refine blk_alloc ?_ _)); refine blk_put (cs := #[.slice Ao15 t141.length co15, .slice none 0 0, .int .i64 0]) ?_ 1 _ rfl; (with_reducible repeat (first | refine blk_drewN ?_ _ | refine blk_drew ?_ | refine blk_alloc ?_ _)); refine blk_put (cs := #[.slice none 0 0, .slice none 0 0, .int .i64 0]) ?_ 0 _ rfl; (with_reducible repeat (first | refine blk_drewN ?_ _ | refine blk_drew ?_ | refine blk_alloc ?_ _)); exact BK140.out) Try.underlying30 rfl (by kernel_rfl)) rfl ?_
        exact ⟨_, _, _, by first | rfl | (simp [errW_none, errW_some] <;> rfl) | (simp [*, errW_none, errW_some] <;> rfl), by (with_reducible repeat (first | apply Kd.R_alloc | apply Kd.R_drewN | apply Kd.R_drew)); exact Kd.R_mono (Kd.R_far (p := ⟨gb140, 2, none⟩) (Kd.R_far (p := ⟨gb140, 1, none⟩) (Kd.R_far (p := ⟨gb140, 0, none⟩) (Kd.R_types HO_149000.out BK140.out (by decide)) (fun _ hk => hk.2) (.slice Ao15 t141.length co15)) (fun _ hk => hk.2) (.slice Ao20 t144.length co20)) (fun _ hk => hk.2) (.int .i64 t147)) (fun _ hk => ⟨hk.1.1, hk.1.2.1⟩), by (with_reducible repeat (first | apply Kd.R_alloc | apply Kd.R_drewN | apply Kd.R_drew)); exact Kd.R_mono (Kd.R_far (p := ⟨gb140, 2, none⟩) (Kd.R_far (p := ⟨gb140, 1, none⟩) (Kd.R_far (p := ⟨gb140, 0, none⟩) (Kd.R_types HO_149001.out BK140.out (by decide)) (fun _ hk => hk.2) (.slice Ao15 t141.length co15)) (fun _ hk => hk.2) (.slice Ao20 t144.length co20)) (fun _ hk => hk.2) (.int .i64 t147)) (fun _ hk => ⟨hk.1.1, hk.1.2.1⟩), by first | exact Kd.R_nil _ _ _ _ _ | exact Kd.N_nil _ _ _ _ _ | exact Kd.V_nil _ _ _ _ _ | exact Kd.Q_nil _ _ _ _ _ | exact Kd.S_nil _ _ _ _ _, by repeat (first | (with_reducible first | exact HB.out | apply below_alloc | apply pw_below_drewN | apply below_drew1 | refine below_set ?_ GE138.out | refine below_set ?_ GE139.out | refine below_set ?_ GE140.out | refine below_set ?_ GE148.out) | exact HB.out)⟩
      rw [if_neg c57] at H
      have c57b0 : decide (a3_2 ≤ a0_2) = false := decide_eq_false c57
      clear c57
      have HC68 := Aside0.mk H
      clear H
      have hnb69 := NB139_138.out
      have hnc69 := NB138_139.out
      have hnb70 := NB139_140.out
      have hnc70 := NB140_139.out
      have hnb71 := NB139_148.out
      have hnc71 := NB148_139.out
      have hcz72_0 : wc.cell? ⟨gb139, 0, none⟩ = some (.int .i64 a3_0) := (blk_cell BK139.out 0).trans rfl
      have hcz72_1 : wc.cell? ⟨gb139, 1, none⟩ = some (.int .i64 a3_1) := (blk_cell BK139.out 1).trans rfl
      have hcz72_2 : wc.cell? ⟨gb139, 2, none⟩ = some (.int .i64 a3_2) := (blk_cell BK139.out 2).trans rfl
      have hcz72_3 : wc.cell? ⟨gb139, 3, none⟩ = some (.int .i64 a3_3) := (blk_cell BK139.out 3).trans rfl
      have hfz72_0 := blk_frozen BK139.out 0
      have hfz72_1 := blk_frozen BK139.out 1
      have hfz72_2 := blk_frozen BK139.out 2
      have hfz72_3 := blk_frozen BK139.out 3
      have hnb73 := NB138_140.out
      have hnc73 := NB140_138.out
      have hnb74 := NB138_148.out
      have hnc74 := NB148_138.out
      have hcz75_0 : wc.cell? ⟨gb138, 0, none⟩ = some (.slice A0_0 l0_0.length c0_0) := (blk_cell BK138.out 0).trans rfl
      have hcz75_1 : wc.cell? ⟨gb138, 1, none⟩ = some (.slice A0_1 l0_1.length c0_1) := (blk_cell BK138.out 1).trans rfl
      have hcz75_2 : wc.cell? ⟨gb138, 2, none⟩ = some (.int .i64 a0_2) := (blk_cell BK138.out 2).trans rfl
      have hfz75_0 := blk_frozen BK138.out 0
      have hfz75_1 := blk_frozen BK138.out 1
      have hfz75_2 := blk_frozen BK138.out 2
      go_upto_if 42 with (fail)
      go_cut [12, 13] (fun v12 v13 wc => ∃ (kq : Nat) (x12_67 : List (S35)) (x13_67 : List (S35)), Aside0 (spec_AddJoin.j1 kq a1 a2 x12_67 x13_67 a3_0 a3_1 a3_2 a3_3 t141 t144 t147 = some (r1, r2, r3, r4, r5)) ∧ Aside0 (kq ≤ kj5) ∧ Aside0 (Kd.V k35 35 wc w.heap.size (fun k_ => ((P0_0_ k_ ∨ P0_1_ k_) ∨ w.heap.size ≤ k_) ∧ some k_ ≠ ((.slice Ao15 t141.length co15) : Value).ownBlock ∧ some k_ ≠ ((.slice Ao20 t144.length co20) : Value).ownBlock ∧ k_ ≠ gb138 ∧ k_ ≠ gb139 ∧ k_ ≠ gb140 ∧ k_ ≠ gb148) v12 x12_67) ∧ Aside0 (Kd.V k35 35 wc w.heap.size (fun k_ => ((P0_0_ k_ ∨ P0_1_ k_) ∨ w.heap.size ≤ k_) ∧ some k_ ≠ ((.slice Ao15 t141.length co15) : Value).ownBlock ∧ some k_ ≠ ((.slice Ao20 t144.length co20) : Value).ownBlock ∧ k_ ≠ gb138 ∧ k_ ≠ gb139 ∧ k_ ≠ gb140 ∧ k_ ≠ gb148) v13 x13_67) ∧ Aside0 (Kd.V k35 35 wc w.heap.size (fun k_ => ((P0_0_ k_ ∨ P0_1_ k_) ∨ w.heap.size ≤ k_) ∧ some k_ ≠ ((.slice Ao15 t141.length co15) : Value).ownBlock ∧ some k_ ≠ ((.slice Ao20 t144.length co20) : Value).ownBlock ∧ k_ ≠ gb138 ∧ k_ ≠ gb139 ∧ k_ ≠ gb140 ∧ k_ ≠ gb148) (.slice A0_0 l0_0.length c0_0) l0_0) ∧ Aside0 (Kd.V k35 35 wc w.heap.size (fun k_ => ((P0_0_ k_ ∨ P0_1_ k_) ∨ w.heap.size ≤ k_) ∧ some k_ ≠ ((.slice Ao15 t141.length co15) : Value).ownBlock ∧ some k_ ≠ ((.slice Ao20 t144.length co20) : Value).ownBlock ∧ k_ ≠ gb138 ∧ k_ ≠ gb139 ∧ k_ ≠ gb140 ∧ k_ ≠ gb148) (.slice A0_1 l0_1.length c0_1) l0_1) ∧ Aside0 (Kd.R k35 35 wc w.heap.size (fun k_ => (w.heap.size ≤ k_) ∧ some k_ ≠ ((.slice Ao20 t144.length co20) : Value).ownBlock ∧ k_ ≠ gb139) (.slice Ao15 t141.length co15) t141) ∧ Aside0 (Kd.R k35 35 wc w.heap.size (fun k_ => (w.heap.size ≤ k_) ∧ some k_ ≠ ((.slice Ao15 t141.length co15) : Value).ownBlock ∧ k_ ≠ gb139) (.slice Ao20 t144.length co20) t144) ∧ Aside0 (wc.heap[gb138]? = some (.cells #[(.slice A0_0 l0_0.length c0_0), (.slice A0_1 l0_1.length c0_1), .int .i64 a0_2] 30 (0, 0))) ∧ Aside0 (wc.heap[gb139]? = some (.cells #[.int .i64 a3_0, .int .i64 a3_1, .int .i64 a3_2, .int .i64 a3_3] 35 (0, 0))) ∧ Aside0 (wc.heap[gb140]? = some (.cells #[(.slice none 0 0), (.slice none 0 0), .int .i64 0] 30 (0, 0))) ∧ Aside0 (wc.heap[gb148]? = some (.cells #[(.slice Ao15 t141.length co15), (.slice Ao20 t144.length co20), .int .i64 t147] 30 (0, 0))) ∧ Aside0 (Below w.heap.size w wc))
      case first =>
        have H := HC68.out
        clear HC68
        by_cases c76 : a2 = true
        rotate_left
        · replace c76 := Bool.eq_false_iff.mpr c76
          subst c76
          have H1 : (spec_AddJoin.j1 kj5 a1 false l0_1 l0_0 a3_0 a3_1 a3_2 a3_3 t141 t144 t147) = some (r1, r2, r3, r4, r5) := by rw [if_neg (show ¬ (false = true) by decide)] at H; exact H
          clear H
          have H := H1
          clear H1
          have H' := Aside0.mk H
          clear H
          go_wp2
          go_meet
          case rel => exact ⟨_, (l0_1), (l0_0), H', ⟨by have := HJ5.out; first | omega | exact Nat.le_refl _⟩, ⟨by (with_reducible repeat (first | apply Kd.V_alloc | apply Kd.V_drewN | apply Kd.V_drew)); exact HO_139001.out⟩, ⟨by (with_reducible repeat (first | apply Kd.V_alloc | apply Kd.V_drewN | apply Kd.V_drew)); exact HO_139000.out⟩, ⟨by (with_reducible repeat (first | apply Kd.V_alloc | apply Kd.V_drewN | apply Kd.V_drew)); exact HO_139000.out⟩, ⟨by (with_reducible repeat (first | apply Kd.V_alloc | apply Kd.V_drewN | apply Kd.V_drew)); exact HO_139001.out⟩, ⟨by (with_reducible repeat (first | apply Kd.R_alloc | apply Kd.R_drewN | apply Kd.R_drew)); exact HO_149000.out⟩, ⟨by (with_reducible repeat (first | apply Kd.R_alloc | apply Kd.R_drewN | apply Kd.R_drew)); exact HO_149001.out⟩, ⟨by (with_reducible repeat (first | refine blk_drewN ?_ _ | refine blk_drew ?_ | refine blk_alloc ?_ _)); exact BK138.out⟩, ⟨by (with_reducible repeat (first | refine blk_drewN ?_ _ | refine blk_drew ?_ | refine blk_alloc ?_ _)); exact BK139.out⟩, ⟨by (with_reducible repeat (first | refine blk_drewN ?_ _ | refine blk_drew ?_ | refine blk_alloc ?_ _)); exact BK140.out⟩, ⟨by (with_reducible repeat (first | refine blk_drewN ?_ _ | refine blk_drew ?_ | refine blk_alloc ?_ _)); exact BK148.out⟩, ⟨by repeat (first | (with_reducible first | exact HB.out | apply below_alloc | apply pw_below_drewN | apply below_drew1 | refine below_set ?_ GE138.out | refine below_set ?_ GE139.out | refine below_set ?_ GE140.out | refine below_set ?_ GE148.out) | exact HB.out)⟩⟩
        subst c76
        have H1 : (spec_AddJoin.j1 kj5 a1 true l0_0 l0_1 a3_0 a3_1 a3_2 a3_3 t141 t144 t147) = some (r1, r2, r3, r4, r5) := by rw [if_pos rfl] at H; exact H
        clear H
        have H := H1
        clear H1
        have H' := Aside0.mk H
        clear H
        have hnb77 := NB138_139.out
        have hnc77 := NB139_138.out
        have hnb78 := NB138_140.out
        have hnc78 := NB140_138.out
        have hnb79 := NB138_148.out
        have hnc79 := NB148_138.out
        have hcz80_0 : wc.cell? ⟨gb138, 0, none⟩ = some (.slice A0_0 l0_0.length c0_0) := (blk_cell BK138.out 0).trans rfl
        have hcz80_1 : wc.cell? ⟨gb138, 1, none⟩ = some (.slice A0_1 l0_1.length c0_1) := (blk_cell BK138.out 1).trans rfl
        have hcz80_2 : wc.cell? ⟨gb138, 2, none⟩ = some (.int .i64 a0_2) := (blk_cell BK138.out 2).trans rfl
        have hfz80_0 := blk_frozen BK138.out 0
        have hfz80_1 := blk_frozen BK138.out 1
        have hfz80_2 := blk_frozen BK138.out 2
        go_wp2
        go_meet
        case rel => exact ⟨_, (l0_0), (l0_1), H', ⟨by have := HJ5.out; first | omega | exact Nat.le_refl _⟩, ⟨by (with_reducible repeat (first | apply Kd.V_alloc | apply Kd.V_drewN | apply Kd.V_drew)); exact HO_139000.out⟩, ⟨by (with_reducible repeat (first | apply Kd.V_alloc | apply Kd.V_drewN | apply Kd.V_drew)); exact HO_139001.out⟩, ⟨by (with_reducible repeat (first | apply Kd.V_alloc | apply Kd.V_drewN | apply Kd.V_drew)); exact HO_139000.out⟩, ⟨by (with_reducible repeat (first | apply Kd.V_alloc | apply Kd.V_drewN | apply Kd.V_drew)); exact HO_139001.out⟩, ⟨by (with_reducible repeat (first | apply Kd.R_alloc | apply Kd.R_drewN | apply Kd.R_drew)); exact HO_149000.out⟩, ⟨by (with_reducible repeat (first | apply Kd.R_alloc | apply Kd.R_drewN | apply Kd.R_drew)); exact HO_149001.out⟩, ⟨by (with_reducible repeat (first | refine blk_drewN ?_ _ | refine blk_drew ?_ | refine blk_alloc ?_ _)); exact BK138.out⟩, ⟨by (with_reducible repeat (first | refine blk_drewN ?_ _ | refine blk_drew ?_ | refine blk_alloc ?_ _)); exact BK139.out⟩, ⟨by (with_reducible repeat (first | refine blk_drewN ?_ _ | refine blk_drew ?_ | refine blk_alloc ?_ _)); exact BK140.out⟩, ⟨by (with_reducible repeat (first | refine blk_drewN ?_ _ | refine blk_drew ?_ | refine blk_alloc ?_ _)); exact BK148.out⟩, ⟨by repeat (first | (with_reducible first | exact HB.out | apply below_alloc | apply pw_below_drewN | apply below_drew1 | refine below_set ?_ GE138.out | refine below_set ?_ GE139.out | refine below_set ?_ GE140.out | refine below_set ?_ GE148.out) | exact HB.out)⟩⟩
      case rest =>
        clear HC68
        try clear c1
        try clear c2
        try clear p2
        try clear c3
        try clear c4
        try clear c5
        try clear c6
        try clear c7
        try clear c9
        try clear c10
        try clear c11
        try clear c16
        try clear c17
        try clear c18
        try clear c22
        try clear c24
        try clear c26
        try clear c27
        try clear c28
        try clear c31
        try clear c32
        try clear c35
        try clear c36
        try clear c37
        try clear c40
        try clear c41
        try clear c43
        try clear c44
        try clear c45
        try clear c46
        try clear c49
        try clear c50
        try clear c51
        try clear c52
        try clear c54
        try clear c55
        try clear c57
        try clear c57b0
        try clear c58
        try clear c59
        try clear c60
        try clear c62
        try clear c63
        try clear c65
        try clear c69
        try clear c70
        try clear c71
        try clear c73
        try clear c74
        try clear c76
        try clear c77
        try clear c78
        try clear c79
        try clear hcz12_0
        try clear hcz12_1
        try clear hcz12_2
        try clear hcz19_0
        try clear hcz19_1
        try clear hcz19_2
        try clear hcz29_0
        try clear hcz29_1
        try clear hcz29_2
        try clear hcz33_0
        try clear hcz33_1
        try clear hcz33_2
        try clear hcz33_3
        try clear hcz38_0
        try clear hcz38_1
        try clear hcz38_2
        try clear hcz42_0
        try clear hcz42_1
        try clear hcz42_2
        try clear hcz42_3
        try clear hcz47_0
        try clear hcz47_1
        try clear hcz47_2
        try clear hcz53_0
        try clear hcz53_1
        try clear hcz53_2
        try clear hcz56_0
        try clear hcz56_1
        try clear hcz56_2
        try clear hcz61_0
        try clear hcz61_1
        try clear hcz61_2
        try clear hcz61_3
        try clear hcz64_0
        try clear hcz64_1
        try clear hcz64_2
        try clear hcz66_0
        try clear hcz66_1
        try clear hcz66_2
        try clear hcz67_0
        try clear hcz67_1
        try clear hcz67_2
        try clear hcz72_0
        try clear hcz72_1
        try clear hcz72_2
        try clear hcz72_3
        try clear hcz75_0
        try clear hcz75_1
        try clear hcz75_2
        try clear hcz80_0
        try clear hcz80_1
        try clear hcz80_2
        try clear hfz12_0
        try clear hfz12_1
        try clear hfz12_2
        try clear hfz19_0
        try clear hfz19_1
        try clear hfz19_2
        try clear hfz29_0
        try clear hfz29_1
        try clear hfz29_2
        try clear hfz33_0
        try clear hfz33_1
        try clear hfz33_2
        try clear hfz33_3
        try clear hfz38_0
        try clear hfz38_1
        try clear hfz38_2
        try clear hfz42_0
        try clear hfz42_1
        try clear hfz42_2
        try clear hfz42_3
        try clear hfz47_0
        try clear hfz47_1
        try clear hfz47_2
        try clear hfz53_0
        try clear hfz53_1
        try clear hfz53_2
        try clear hfz56_0
        try clear hfz56_1
        try clear hfz56_2
        try clear hfz61_0
        try clear hfz61_1
        try clear hfz61_2
        try clear hfz61_3
        try clear hfz64_0
        try clear hfz64_1
        try clear hfz64_2
        try clear hfz66_0
        try clear hfz66_1
        try clear hfz66_2
        try clear hfz67_0
        try clear hfz67_1
        try clear hfz67_2
        try clear hfz72_0
        try clear hfz72_1
        try clear hfz72_2
        try clear hfz72_3
        try clear hfz75_0
        try clear hfz75_1
        try clear hfz75_2
        try clear hfz80_0
        try clear hfz80_1
        try clear hfz80_2
        try clear p2
        obtain ⟨kq, x12_67, x13_67, HA, HJ67, HO_12, HO_13, HO_139000, HO_139001, HO_149000, HO_149001, BK138, BK139, BK140, BK148, HB⟩ := hcut
        cases kq with
        | zero => exact absurd HA.out (by simp [spec_AddJoin.j1])
        | succ kj67 =>
          have H := HA.out
          clear HA
          simp only [spec_AddJoin.j1] at H
          by_cases c81 : (x12_67.length : Int) = 40
          · rw [if_pos c81] at H
            have c81b0 : ((x12_67.length : Int) == 40) = true := beq_iff_eq.mpr c81
            have c81b1 : ((x12_67.length : Int) != 40) = false := bne_eq_false_iff_eq.mpr c81
            clear c81
            simp only [Option.some.injEq, Prod.mk.injEq] at H
            obtain ⟨rfl, rfl, rfl, rfl, rfl⟩ := H
            obtain ⟨Ao82, co82, eo82⟩ := Kd.V_slice HO_12.out
            subst eo82
            have hnb83 := NB148_138.out
            have hnc83 := NB138_148.out
            have hnb84 := NB148_139.out
            have hnc84 := NB139_148.out
            have hnb85 := NB148_140.out
            have hnc85 := NB140_148.out
            have hcz86_0 : wc.cell? ⟨gb148, 0, none⟩ = some (.slice Ao15 t141.length co15) := (blk_cell BK148.out 0).trans rfl
            have hcz86_1 : wc.cell? ⟨gb148, 1, none⟩ = some (.slice Ao20 t144.length co20) := (blk_cell BK148.out 1).trans rfl
            have hcz86_2 : wc.cell? ⟨gb148, 2, none⟩ = some (.int .i64 t147) := (blk_cell BK148.out 2).trans rfl
            have hfz86_0 := blk_frozen BK148.out 0
            have hfz86_1 := blk_frozen BK148.out 1
            have hfz86_2 := blk_frozen BK148.out 2
            have hnb87 := NB140_138.out
            have hnc87 := NB138_140.out
            have hnb88 := NB140_139.out
            have hnc88 := NB139_140.out
            have hcz89_0 : wc.cell? ⟨gb140, 0, none⟩ = some (.slice none 0 0) := (blk_cell BK140.out 0).trans rfl
            have hcz89_1 : wc.cell? ⟨gb140, 1, none⟩ = some (.slice none 0 0) := (blk_cell BK140.out 1).trans rfl
            have hcz89_2 : wc.cell? ⟨gb140, 2, none⟩ = some (.int .i64 0) := (blk_cell BK140.out 2).trans rfl
            have hfz89_0 := blk_frozen BK140.out 0
            have hfz89_1 := blk_frozen BK140.out 1
            have hfz89_2 := blk_frozen BK140.out 2
            go_wp2
            refine bodyPost_ret (results_ctt rfl _ _ gb140 30 #[.slice Ao15 t141.length co15, .slice Ao20 t144.length co20, .int .i64 t147] (0, 0) _ rfl (by (with_reducible repeat (first | refine blk_drewN ?_ _ | refine blk_drew ?_ | refine blk_alloc ?_ _)); refine blk_put (cs := #[.slice Ao15 t141.length co15, .slice Ao20 t144.length co20, .int .i64 0]) ?_ 2 _ rfl; (with_reducible repeat (first | refine blk_drewN ?_ _ | refine blk_drew ?_ | refine blk_alloc ?_ _)); refine blk_put (cs := #[.slice Ao15 t141.length co15, .slice none 0 0, .int .i64 0]) ?_ 1 _ rfl; (with_reducible repeat (first | refine blk_drewN ?_ _ | refine blk_drew ?_ | refine blk_alloc ?_ _)); refine blk_put (cs := #[.slice none 0 0, .slice none 0 0, .int .i64 0]) ?_ 0 _ rfl; (with_reducible repeat (first | refine blk_drewN ?_ _ | refine blk_drew ?_ | refine blk_alloc ?_ _)); exact BK140.out) Try.underlying30 rfl (by kernel_rfl)) rfl ?_
            exact ⟨_, _, _, by first | rfl | (simp [errW_none, errW_some] <;> rfl) | (simp [*, errW_none, errW_some] <;> rfl), by (with_reducible repeat (first | apply Kd.R_alloc | apply Kd.R_drewN | apply Kd.R_drew)); exact Kd.R_mono (Kd.R_far (p := ⟨gb140, 2, none⟩) (Kd.R_far (p := ⟨gb140, 1, none⟩) (Kd.R_far (p := ⟨gb140, 0, none⟩) (Kd.R_types HO_149000.out BK140.out (by decide)) (fun _ hk => hk.2) (.slice Ao15 t141.length co15)) (fun _ hk => hk.2) (.slice Ao20 t144.length co20)) (fun _ hk => hk.2) (.int .i64 t147)) (fun _ hk => ⟨hk.1.1, hk.1.2.1⟩), by (with_reducible repeat (first | apply Kd.R_alloc | apply Kd.R_drewN | apply Kd.R_drew)); exact Kd.R_mono (Kd.R_far (p := ⟨gb140, 2, none⟩) (Kd.R_far (p := ⟨gb140, 1, none⟩) (Kd.R_far (p := ⟨gb140, 0, none⟩) (Kd.R_types HO_149001.out BK140.out (by decide)) (fun _ hk => hk.2) (.slice Ao15 t141.length co15)) (fun _ hk => hk.2) (.slice Ao20 t144.length co20)) (fun _ hk => hk.2) (.int .i64 t147)) (fun _ hk => ⟨hk.1.1, hk.1.2.1⟩), by first | exact Kd.R_nil _ _ _ _ _ | exact Kd.N_nil _ _ _ _ _ | exact Kd.V_nil _ _ _ _ _ | exact Kd.Q_nil _ _ _ _ _ | exact Kd.S_nil _ _ _ _ _, by repeat (first | (with_reducible first | exact HB.out | apply below_alloc | apply pw_below_drewN | apply below_drew1 | refine below_set ?_ GE138.out | refine below_set ?_ GE139.out | refine below_set ?_ GE140.out | refine below_set ?_ GE148.out) | exact HB.out)⟩
          rw [if_neg c81] at H
          have c81b0 : ((x12_67.length : Int) == 40) = false := beq_eq_false_iff_ne.mpr c81
          have c81b1 : ((x12_67.length : Int) != 40) = true := bne_iff_ne.mpr c81
          obtain ⟨y152, hy152⟩ : ∃ y_ : List (S75), y_ = (([] : List (S75))) := ⟨_, rfl⟩
          replace H : (spec_AddJoin.l0 kj67 a1 a2 x13_67 y152 0 a3_0 a3_1 a3_2 a3_3 t141 t144 t147) = some (r1, r2, r3, r4, r5) := by first | (rw [hy152]; with_reducible exact H) | (have H2_ := (Option.bind_some _ _).symm.trans H; rw [hy152]; with_reducible exact H2_) | (have H2_ := (Option.bind_some _ _).symm.trans H; with_reducible exact H2_) | with_reducible exact H | (rw [hy152]; exact H) | exact H
          have Ny152 := Aside0.mk hy152
          clear hy152
          have H' := Aside0.mk H
          clear H
          obtain ⟨Ao90, co90, eo90⟩ := Kd.V_slice HO_12.out
          subst eo90
          go_wp2_with (first | ((with_reducible refine gate_dst (N := 51) rfl ?_); refine Kd.R_lit k75 _ 75 ?hg (N := 51) ?hd (xs := ([] : List (S75))) (inner := []) (ok := fun _ => True) (okp := fun _ => True) ?hr ?hp (fun _ hk => hk) trivial (Below.refl _ _) (Nat.le_refl _) (by simp) ?_; (case hd => rfl); (case hg => rfl); (case hr => first | (go_simp; done) | (go_simp; rfl)); (case hp => exact (Reps.none _ _)); intro v153 w91 ho92 hb hg_ hnew_; clear hg_ hnew_; (first | rw [← Ny152.out] at ho92 | (simp only [Int.reduceToNat] at ho92; rw [← Ny152.out] at ho92)); replace HO_12 := am (Kd.V_elder' (by (with_reducible repeat (first | apply Kd.V_alloc | apply Kd.V_drewN | apply Kd.V_drew)); exact HO_12.out) (Kd.R_base ho92) hb); replace HO_13 := am (Kd.V_elder' (by (with_reducible repeat (first | apply Kd.V_alloc | apply Kd.V_drewN | apply Kd.V_drew)); exact HO_13.out) (Kd.R_base ho92) hb); replace HO_139000 := am (Kd.V_elder' (by (with_reducible repeat (first | apply Kd.V_alloc | apply Kd.V_drewN | apply Kd.V_drew)); exact HO_139000.out) (Kd.R_base ho92) hb); replace HO_139001 := am (Kd.V_elder' (by (with_reducible repeat (first | apply Kd.V_alloc | apply Kd.V_drewN | apply Kd.V_drew)); exact HO_139001.out) (Kd.R_base ho92) hb); replace HO_149000 := am (Kd.R_below (rq HO_149000.out) hb); replace HO_149001 := am (Kd.R_below (rq HO_149001.out) hb); have HO154 := am (Kd.R_lower (Kd.R_newM (M := fun k_ => (w.heap.size ≤ k_)) ho92 (below_size bel) (fun k_ h_ => h_)) (below_size bel)); replace BK138 := am (blk_below (blkq BK138.out) hb); replace BK139 := am (blk_below (blkq BK139.out) hb); replace BK140 := am (blk_below (blkq BK140.out) hb); replace BK148 := am (blk_below (blkq BK148.out) hb); replace HB := am (below_step bel hb); clear hb ho92))
          go_loopg [14, 15] kj67 (fun kq v14 v15 w' => ∃ (x14_3 : List (S75)) (x15_3 : Int), v15 = .int .i64 x15_3 ∧ Aside0 (spec_AddJoin.l0 kq a1 a2 x13_67 x14_3 x15_3 a3_0 a3_1 a3_2 a3_3 t141 t144 t147 = some (r1, r2, r3, r4, r5)) ∧ Aside0 (kq ≤ kj67) ∧ Aside0 (Kd.V k35 35 w' w.heap.size (fun k_ => ((P0_0_ k_ ∨ P0_1_ k_) ∨ w.heap.size ≤ k_) ∧ nb k_ v14 ∧ some k_ ≠ ((.slice Ao15 t141.length co15) : Value).ownBlock ∧ some k_ ≠ ((.slice Ao20 t144.length co20) : Value).ownBlock ∧ k_ ≠ gb138 ∧ k_ ≠ gb139 ∧ k_ ≠ gb140 ∧ k_ ≠ gb148) u13 x13_67) ∧ Aside0 (Kd.R k75 75 w' w.heap.size (fun k_ => (w.heap.size ≤ k_)) v14 x14_3) ∧ Aside0 (Kd.V k35 35 w' w.heap.size (fun k_ => ((P0_0_ k_ ∨ P0_1_ k_) ∨ w.heap.size ≤ k_) ∧ nb k_ v14 ∧ some k_ ≠ ((.slice Ao15 t141.length co15) : Value).ownBlock ∧ some k_ ≠ ((.slice Ao20 t144.length co20) : Value).ownBlock ∧ k_ ≠ gb138 ∧ k_ ≠ gb139 ∧ k_ ≠ gb140 ∧ k_ ≠ gb148) (.slice A0_0 l0_0.length c0_0) l0_0) ∧ Aside0 (Kd.V k35 35 w' w.heap.size (fun k_ => ((P0_0_ k_ ∨ P0_1_ k_) ∨ w.heap.size ≤ k_) ∧ nb k_ v14 ∧ some k_ ≠ ((.slice Ao15 t141.length co15) : Value).ownBlock ∧ some k_ ≠ ((.slice Ao20 t144.length co20) : Value).ownBlock ∧ k_ ≠ gb138 ∧ k_ ≠ gb139 ∧ k_ ≠ gb140 ∧ k_ ≠ gb148) (.slice A0_1 l0_1.length c0_1) l0_1) ∧ Aside0 (Kd.R k35 35 w' w.heap.size (fun k_ => (w.heap.size ≤ k_) ∧ some k_ ≠ ((.slice Ao20 t144.length co20) : Value).ownBlock ∧ k_ ≠ gb139) (.slice Ao15 t141.length co15) t141) ∧ Aside0 (Kd.R k35 35 w' w.heap.size (fun k_ => (w.heap.size ≤ k_) ∧ some k_ ≠ ((.slice Ao15 t141.length co15) : Value).ownBlock ∧ k_ ≠ gb139) (.slice Ao20 t144.length co20) t144) ∧ Aside0 (w'.heap[gb138]? = some (.cells #[(.slice A0_0 l0_0.length c0_0), (.slice A0_1 l0_1.length c0_1), .int .i64 a0_2] 30 (0, 0))) ∧ Aside0 (w'.heap[gb139]? = some (.cells #[.int .i64 a3_0, .int .i64 a3_1, .int .i64 a3_2, .int .i64 a3_3] 35 (0, 0))) ∧ Aside0 (w'.heap[gb140]? = some (.cells #[(.slice none 0 0), (.slice none 0 0), .int .i64 0] 30 (0, 0))) ∧ Aside0 (w'.heap[gb148]? = some (.cells #[(.slice Ao15 t141.length co15), (.slice Ao20 t144.length co20), .int .i64 t147] 30 (0, 0))) ∧ Aside0 (Below w.heap.size w w'))
          case atStart => exact ⟨(y152), (0), (by first | rfl | (simp; done) | (simp [*]; done)), H', ⟨Nat.le_refl _⟩, ⟨by (with_reducible repeat (first | apply Kd.V_alloc | apply Kd.V_drewN | apply Kd.V_drew)); exact Kd.V_mono HO_13.out (fun _ hk => ⟨hk.1.1, ⟨hk.2, ⟨hk.1.2.1, ⟨hk.1.2.2.1, ⟨hk.1.2.2.2.1, ⟨hk.1.2.2.2.2.1, ⟨hk.1.2.2.2.2.2.1, hk.1.2.2.2.2.2.2⟩⟩⟩⟩⟩⟩⟩)⟩, ⟨by (with_reducible repeat (first | apply Kd.R_alloc | apply Kd.R_drewN | apply Kd.R_drew)); exact Kd.R_mono HO154.out (fun _ hk => hk.1)⟩, ⟨by (with_reducible repeat (first | apply Kd.V_alloc | apply Kd.V_drewN | apply Kd.V_drew)); exact Kd.V_mono HO_139000.out (fun _ hk => ⟨hk.1.1, ⟨hk.2, ⟨hk.1.2.1, ⟨hk.1.2.2.1, ⟨hk.1.2.2.2.1, ⟨hk.1.2.2.2.2.1, ⟨hk.1.2.2.2.2.2.1, hk.1.2.2.2.2.2.2⟩⟩⟩⟩⟩⟩⟩)⟩, ⟨by (with_reducible repeat (first | apply Kd.V_alloc | apply Kd.V_drewN | apply Kd.V_drew)); exact Kd.V_mono HO_139001.out (fun _ hk => ⟨hk.1.1, ⟨hk.2, ⟨hk.1.2.1, ⟨hk.1.2.2.1, ⟨hk.1.2.2.2.1, ⟨hk.1.2.2.2.2.1, ⟨hk.1.2.2.2.2.2.1, hk.1.2.2.2.2.2.2⟩⟩⟩⟩⟩⟩⟩)⟩, ⟨by (with_reducible repeat (first | apply Kd.R_alloc | apply Kd.R_drewN | apply Kd.R_drew)); exact HO_149000.out⟩, ⟨by (with_reducible repeat (first | apply Kd.R_alloc | apply Kd.R_drewN | apply Kd.R_drew)); exact HO_149001.out⟩, ⟨by (with_reducible repeat (first | refine blk_drewN ?_ _ | refine blk_drew ?_ | refine blk_alloc ?_ _)); exact BK138.out⟩, ⟨by (with_reducible repeat (first | refine blk_drewN ?_ _ | refine blk_drew ?_ | refine blk_alloc ?_ _)); exact BK139.out⟩, ⟨by (with_reducible repeat (first | refine blk_drewN ?_ _ | refine blk_drew ?_ | refine blk_alloc ?_ _)); exact BK140.out⟩, ⟨by (with_reducible repeat (first | refine blk_drewN ?_ _ | refine blk_drew ?_ | refine blk_alloc ?_ _)); exact BK148.out⟩, ⟨by repeat (first | (with_reducible first | exact HB.out | apply below_alloc | apply pw_below_drewN | apply below_drew1 | refine below_set ?_ GE138.out | refine below_set ?_ GE139.out | refine below_set ?_ GE140.out | refine below_set ?_ GE148.out) | exact HB.out)⟩⟩
          case round =>
            clear H'
            try clear c1
            try clear c2
            try clear p2
            try clear c3
            try clear c4
            try clear c5
            try clear c6
            try clear c7
            try clear c8
            try clear c9
            try clear c10
            try clear c11
            try clear c16
            try clear c17
            try clear c18
            try clear c22
            try clear c24
            try clear c26
            try clear c27
            try clear c28
            try clear c31
            try clear c32
            try clear c35
            try clear c36
            try clear c37
            try clear c40
            try clear c41
            try clear c43
            try clear c44
            try clear c45
            try clear c46
            try clear c49
            try clear c50
            try clear c51
            try clear c52
            try clear c54
            try clear c55
            try clear c57
            try clear c57b0
            try clear c58
            try clear c59
            try clear c60
            try clear c62
            try clear c63
            try clear c65
            try clear c69
            try clear c70
            try clear c71
            try clear c73
            try clear c74
            try clear c76
            try clear c77
            try clear c78
            try clear c79
            try clear c81
            try clear c81b0
            try clear c81b1
            try clear c83
            try clear c84
            try clear c85
            try clear c87
            try clear c88
            try clear hcz12_0
            try clear hcz12_1
            try clear hcz12_2
            try clear hcz19_0
            try clear hcz19_1
            try clear hcz19_2
            try clear hcz29_0
            try clear hcz29_1
            try clear hcz29_2
            try clear hcz33_0
            try clear hcz33_1
            try clear hcz33_2
            try clear hcz33_3
            try clear hcz38_0
            try clear hcz38_1
            try clear hcz38_2
            try clear hcz42_0
            try clear hcz42_1
            try clear hcz42_2
            try clear hcz42_3
            try clear hcz47_0
            try clear hcz47_1
            try clear hcz47_2
            try clear hcz53_0
            try clear hcz53_1
            try clear hcz53_2
            try clear hcz56_0
            try clear hcz56_1
            try clear hcz56_2
            try clear hcz61_0
            try clear hcz61_1
            try clear hcz61_2
            try clear hcz61_3
            try clear hcz64_0
            try clear hcz64_1
            try clear hcz64_2
            try clear hcz66_0
            try clear hcz66_1
            try clear hcz66_2
            try clear hcz67_0
            try clear hcz67_1
            try clear hcz67_2
            try clear hcz72_0
            try clear hcz72_1
            try clear hcz72_2
            try clear hcz72_3
            try clear hcz75_0
            try clear hcz75_1
            try clear hcz75_2
            try clear hcz80_0
            try clear hcz80_1
            try clear hcz80_2
            try clear hcz86_0
            try clear hcz86_1
            try clear hcz86_2
            try clear hcz89_0
            try clear hcz89_1
            try clear hcz89_2
            try clear hfz12_0
            try clear hfz12_1
            try clear hfz12_2
            try clear hfz19_0
            try clear hfz19_1
            try clear hfz19_2
            try clear hfz29_0
            try clear hfz29_1
            try clear hfz29_2
            try clear hfz33_0
            try clear hfz33_1
            try clear hfz33_2
            try clear hfz33_3
            try clear hfz38_0
            try clear hfz38_1
            try clear hfz38_2
            try clear hfz42_0
            try clear hfz42_1
            try clear hfz42_2
            try clear hfz42_3
            try clear hfz47_0
            try clear hfz47_1
            try clear hfz47_2
            try clear hfz53_0
            try clear hfz53_1
            try clear hfz53_2
            try clear hfz56_0
            try clear hfz56_1
            try clear hfz56_2
            try clear hfz61_0
            try clear hfz61_1
            try clear hfz61_2
            try clear hfz61_3
            try clear hfz64_0
            try clear hfz64_1
            try clear hfz64_2
            try clear hfz66_0
            try clear hfz66_1
            try clear hfz66_2
            try clear hfz67_0
            try clear hfz67_1
            try clear hfz67_2
            try clear hfz72_0
            try clear hfz72_1
            try clear hfz72_2
            try clear hfz72_3
            try clear hfz75_0
            try clear hfz75_1
            try clear hfz75_2
            try clear hfz80_0
            try clear hfz80_1
            try clear hfz80_2
            try clear hfz86_0
            try clear hfz86_1
            try clear hfz86_2
            try clear hfz89_0
            try clear hfz89_1
            try clear hfz89_2
            try clear p2
            obtain ⟨x14_3, x15_3, rfl, HA, HK3, HO_13, HO_14, HO_139000, HO_139001, HO_149000, HO_149001, BK138, BK139, BK140, BK148, HB⟩ := hrel
            cases gk with
            | zero => exact absurd HA.out (by simp [spec_AddJoin.l0])
            | succ k3 =>
              have H := HA.out
              clear HA
              simp only [spec_AddJoin.l0] at H
              by_cases c93 : x15_3 < (x13_67.length : Int)
              rotate_left
              · rw [if_neg c93] at H
                have c93b0 : decide (x15_3 < (x13_67.length : Int)) = false := decide_eq_false c93
                clear c93
                by_cases c117 : a2 = true
                · subst c117
                  have H1 : (if t141.length < 4398046511104 then (some ((t141 ++ [(⟨a3_0, a3_1, a3_2, a3_3⟩ : S35)]), t144, t147, x14_3, 0)) else (none)) = some (r1, r2, r3, r4, r5) := by rw [if_pos rfl] at H; exact H
                  clear H
                  have H := H1
                  clear H1
                  by_cases c118 : t141.length < 4398046511104
                  rotate_left
                  · rw [if_neg c118] at H
                    exact absurd H (by simp)
                  rw [if_pos c118] at H
                  have LMc118 := Aside0.mk c118
                  clear c118
                  obtain ⟨y155, hy155⟩ : ∃ y_ : List (S35), y_ = (t141 ++ [(⟨a3_0, a3_1, a3_2, a3_3⟩ : S35)]) := ⟨_, rfl⟩
                  replace H : (some (y155, t144, t147, x14_3, 0)) = some (r1, r2, r3, r4, r5) := by first | (rw [hy155]; with_reducible exact H) | (have H2_ := (Option.bind_some _ _).symm.trans H; rw [hy155]; with_reducible exact H2_) | (have H2_ := (Option.bind_some _ _).symm.trans H; with_reducible exact H2_) | with_reducible exact H | (rw [hy155]; exact H) | exact H
                  have Ny155 := Aside0.mk hy155
                  clear hy155
                  simp only [Option.some.injEq, Prod.mk.injEq] at H
                  obtain ⟨rfl, rfl, rfl, rfl, rfl⟩ := H
                  obtain ⟨Ao119, co119, eo119⟩ := Kd.V_slice HO_13.out
                  subst eo119
                  have hnb120 := NB148_138.out
                  have hnc120 := NB138_148.out
                  have hnb121 := NB148_139.out
                  have hnc121 := NB139_148.out
                  have hnb122 := NB148_140.out
                  have hnc122 := NB140_148.out
                  have hcz123_0 : wr.cell? ⟨gb148, 0, none⟩ = some (.slice Ao15 t141.length co15) := (blk_cell BK148.out 0).trans rfl
                  have hcz123_1 : wr.cell? ⟨gb148, 1, none⟩ = some (.slice Ao20 t144.length co20) := (blk_cell BK148.out 1).trans rfl
                  have hcz123_2 : wr.cell? ⟨gb148, 2, none⟩ = some (.int .i64 t147) := (blk_cell BK148.out 2).trans rfl
                  have hfz123_0 := blk_frozen BK148.out 0
                  have hfz123_1 := blk_frozen BK148.out 1
                  have hfz123_2 := blk_frozen BK148.out 2
                  have hnb124 := NB139_138.out
                  have hnc124 := NB138_139.out
                  have hnb125 := NB139_140.out
                  have hnc125 := NB140_139.out
                  have hcz126_0 : wr.cell? ⟨gb139, 0, none⟩ = some (.int .i64 a3_0) := (blk_cell BK139.out 0).trans rfl
                  have hcz126_1 : wr.cell? ⟨gb139, 1, none⟩ = some (.int .i64 a3_1) := (blk_cell BK139.out 1).trans rfl
                  have hcz126_2 : wr.cell? ⟨gb139, 2, none⟩ = some (.int .i64 a3_2) := (blk_cell BK139.out 2).trans rfl
                  have hcz126_3 : wr.cell? ⟨gb139, 3, none⟩ = some (.int .i64 a3_3) := (blk_cell BK139.out 3).trans rfl
                  have hfz126_0 := blk_frozen BK139.out 0
                  have hfz126_1 := blk_frozen BK139.out 1
                  have hfz126_2 := blk_frozen BK139.out 2
                  have hfz126_3 := blk_frozen BK139.out 3
                  go_wp2_with (first | ((with_reducible refine gate_builtin (b := .append) (xs := #[.tmp 87, .tmp 89]) rfl ?_); at_builtin; refine Kd.R_append k35 (w0 := w) w.heap.size rfl (.tmp 87) (.tmp 89) 28 35 (.agg #[(.int .i64 0), (.int .i64 0), (.int .i64 0), (.int .i64 0)]) 32 rfl Try.underlying28 info35 rfl (by decide) (by omega) (.slice Ao15 t141.length co15) t141 (⟨a3_0, a3_1, a3_2, a3_3⟩ : S35) [.int .i64 a3_0, .int .i64 a3_1, .int .i64 a3_2, .int .i64 a3_3] (fun k_ => (w.heap.size ≤ k_) ∧ nb k_ (sv Ao20 t144 co20) ∧ k_ ≠ gb139) (fun _ => False) rfl rfl ?aP (fun _ hk => hk.elim) ?aF ?aO ?aB ?aS ?aL ?_; (case aP => exact k35_mkM _ _ _ (⟨a3_0, a3_1, a3_2, a3_3⟩ : S35)); (case aB => exact bel); (case aF => exact (fun k_ hk => ⟨(Nat.le_trans (below_size bel) hk), Kd.fresh' (Kd.R_lt (rq HO_149001.out)) k_ hk, Kd.freshB (blkq BK139.out) k_ hk⟩)); (case aO => exact (rq HO_149000.out)); (case aS => exact (below_size bel)); (case aL => have := LMc118.out; omega); intro v156 w127 ho hb hg hat; rw [← Ny155.out] at ho; replace HO_13 := am (Kd.V_afterv (ok := (fun k_ => ((P0_0_ k_ ∨ P0_1_ k_) ∨ w.heap.size ≤ k_) ∧ nb k_ u14 ∧ nb k_ (sv Ao20 t144 co20) ∧ k_ ≠ gb138 ∧ k_ ≠ gb139 ∧ k_ ≠ gb140 ∧ k_ ≠ gb148)) (by (with_reducible repeat (first | apply Kd.V_alloc | apply Kd.V_drewN | apply Kd.V_drew)); exact Kd.V_mono HO_13.out (fun _ hk => ⟨⟨hk.1, ⟨hk.2.1, ⟨hk.2.2.2.1, ⟨hk.2.2.2.2.1, ⟨hk.2.2.2.2.2.1, ⟨hk.2.2.2.2.2.2.1, hk.2.2.2.2.2.2.2⟩⟩⟩⟩⟩⟩, hk.2.2.1⟩)) hg hat); replace HO_14 := am (Kd.R_over' (rq HO_14.out) (Kd.R_typed (rq HO_149000.out)) (by decide) hg); replace HO_139000 := am (Kd.V_afterv (ok := (fun k_ => ((P0_0_ k_ ∨ P0_1_ k_) ∨ w.heap.size ≤ k_) ∧ nb k_ u14 ∧ nb k_ (sv Ao20 t144 co20) ∧ k_ ≠ gb138 ∧ k_ ≠ gb139 ∧ k_ ≠ gb140 ∧ k_ ≠ gb148)) (by (with_reducible repeat (first | apply Kd.V_alloc | apply Kd.V_drewN | apply Kd.V_drew)); exact Kd.V_mono HO_139000.out (fun _ hk => ⟨⟨hk.1, ⟨hk.2.1, ⟨hk.2.2.2.1, ⟨hk.2.2.2.2.1, ⟨hk.2.2.2.2.2.1, ⟨hk.2.2.2.2.2.2.1, hk.2.2.2.2.2.2.2⟩⟩⟩⟩⟩⟩, hk.2.2.1⟩)) hg hat); replace HO_139001 := am (Kd.V_afterv (ok := (fun k_ => ((P0_0_ k_ ∨ P0_1_ k_) ∨ w.heap.size ≤ k_) ∧ nb k_ u14 ∧ nb k_ (sv Ao20 t144 co20) ∧ k_ ≠ gb138 ∧ k_ ≠ gb139 ∧ k_ ≠ gb140 ∧ k_ ≠ gb148)) (by (with_reducible repeat (first | apply Kd.V_alloc | apply Kd.V_drewN | apply Kd.V_drew)); exact Kd.V_mono HO_139001.out (fun _ hk => ⟨⟨hk.1, ⟨hk.2.1, ⟨hk.2.2.2.1, ⟨hk.2.2.2.2.1, ⟨hk.2.2.2.2.2.1, ⟨hk.2.2.2.2.2.2.1, hk.2.2.2.2.2.2.2⟩⟩⟩⟩⟩⟩, hk.2.2.1⟩)) hg hat); replace HO_149001 := am (Kd.R_after (ok := (fun k_ => (w.heap.size ≤ k_) ∧ k_ ≠ gb139)) (by (with_reducible repeat (first | apply Kd.R_alloc | apply Kd.R_drewN | apply Kd.R_drew)); exact Kd.R_mono HO_149001.out (fun _ hk => ⟨⟨hk.1, hk.2.2⟩, hk.2.1⟩)) hg hat); replace BK138 := am (blk_grown (blkq BK138.out) hg (Kd.R_ne HO_149000.out BK138.out (by decide))); replace BK139 := am (blk_grown (blkq BK139.out) hg (Kd.R_away HO_149000.out (fun _ hk => hk.2.2))); replace BK140 := am (blk_grown (blkq BK140.out) hg (Kd.R_ne HO_149000.out BK140.out (by decide))); replace BK148 := am (blk_grown (blkq BK148.out) hg (Kd.R_ne HO_149000.out BK148.out (by decide))); replace HB := am (hb); have HO157 := am (ho); clear HO_149000 ho hb hg hat; obtain ⟨Ao128, co128, eo128⟩ := Kd.R_slice HO157.out; subst eo128; obtain ⟨hcz129_0, hcz129_1, hcz129_2, hfz129_0, hfz129_1, hfz129_2⟩ := blkc3 BK148.out; have hnb130 := NB140_138.out; have hnc130 := NB138_140.out; obtain ⟨hcz131_0, hcz131_1, hcz131_2, hfz131_0, hfz131_1, hfz131_2⟩ := blkc3 BK140.out))
                  refine bodyPost_ret (results_ctt rfl _ _ gb140 30 #[.slice Ao128 y155.length co128, .slice Ao20 t144.length co20, .int .i64 t147] (0, 0) _ rfl (by (with_reducible repeat (first | refine blk_drewN ?_ _ | refine blk_drew ?_ | refine blk_alloc ?_ _)); refine blk_put (cs := #[.slice Ao128 y155.length co128, .slice Ao20 t144.length co20, .int .i64 0]) ?_ 2 _ rfl; (with_reducible repeat (first | refine blk_drewN ?_ _ | refine blk_drew ?_ | refine blk_alloc ?_ _)); refine blk_put (cs := #[.slice Ao128 y155.length co128, .slice none 0 0, .int .i64 0]) ?_ 1 _ rfl; (with_reducible repeat (first | refine blk_drewN ?_ _ | refine blk_drew ?_ | refine blk_alloc ?_ _)); refine blk_put (cs := #[.slice none 0 0, .slice none 0 0, .int .i64 0]) ?_ 0 _ rfl; (with_reducible repeat (first | refine blk_drewN ?_ _ | refine blk_drew ?_ | refine blk_alloc ?_ _)); refine blk_far ?_ NB140_148.out _; (with_reducible repeat (first | refine blk_drewN ?_ _ | refine blk_drew ?_ | refine blk_alloc ?_ _)); exact BK140.out) Try.underlying30 rfl (by kernel_rfl)) rfl ?_
                  exact ⟨_, _, _, by first | rfl | (simp [errW_none, errW_some] <;> rfl) | (simp [*, errW_none, errW_some] <;> rfl), by (with_reducible repeat (first | apply Kd.R_alloc | apply Kd.R_drewN | apply Kd.R_drew)); exact Kd.R_mono (Kd.R_far (p := ⟨gb140, 2, none⟩) (Kd.R_far (p := ⟨gb140, 1, none⟩) (Kd.R_far (p := ⟨gb140, 0, none⟩) (Kd.R_far (p := ⟨gb148, 0, none⟩) (Kd.R_types (Kd.R_types HO157.out BK148.out (by decide)) BK140.out (by decide)) (fun _ hk => hk.1.2) (.slice Ao128 y155.length co128)) (fun _ hk => hk.2) (.slice Ao128 y155.length co128)) (fun _ hk => hk.2) (.slice Ao20 t144.length co20)) (fun _ hk => hk.2) (.int .i64 t147)) (fun _ hk => ⟨hk.1.1.1, hk.1.1.2.1⟩), by (with_reducible repeat (first | apply Kd.R_alloc | apply Kd.R_drewN | apply Kd.R_drew)); exact Kd.R_mono (Kd.R_far (p := ⟨gb140, 2, none⟩) (Kd.R_far (p := ⟨gb140, 1, none⟩) (Kd.R_far (p := ⟨gb140, 0, none⟩) (Kd.R_far (p := ⟨gb148, 0, none⟩) (Kd.R_types (Kd.R_types HO_149001.out BK148.out (by decide)) BK140.out (by decide)) (fun _ hk => hk.1.2) (.slice Ao128 y155.length co128)) (fun _ hk => hk.2) (.slice Ao128 y155.length co128)) (fun _ hk => hk.2) (.slice Ao20 t144.length co20)) (fun _ hk => hk.2) (.int .i64 t147)) (fun _ hk => ⟨hk.1.1.1.1, hk.1.1.2⟩), by (with_reducible repeat (first | apply Kd.R_alloc | apply Kd.R_drewN | apply Kd.R_drew)); exact Kd.R_mono (Kd.R_far (p := ⟨gb140, 2, none⟩) (Kd.R_far (p := ⟨gb140, 1, none⟩) (Kd.R_far (p := ⟨gb140, 0, none⟩) (Kd.R_far (p := ⟨gb148, 0, none⟩) (Kd.R_types (Kd.R_types HO_14.out BK148.out (by decide)) BK140.out (by decide)) (fun _ hk => hk.1.2) (.slice Ao128 y155.length co128)) (fun _ hk => hk.2) (.slice Ao128 y155.length co128)) (fun _ hk => hk.2) (.slice Ao20 t144.length co20)) (fun _ hk => hk.2) (.int .i64 t147)) (fun _ hk => hk.1.1), by repeat (first | (with_reducible first | exact HB.out | apply below_alloc | apply pw_below_drewN | apply below_drew1 | refine below_set ?_ GE138.out | refine below_set ?_ GE139.out | refine below_set ?_ GE140.out | refine below_set ?_ GE148.out) | exact HB.out)⟩
                replace c117 := Bool.eq_false_iff.mpr c117
                subst c117
                have H1 : (if t144.length < 4398046511104 then (some (t141, (t144 ++ [(⟨a3_0, a3_1, a3_2, a3_3⟩ : S35)]), t147, x14_3, 0)) else (none)) = some (r1, r2, r3, r4, r5) := by rw [if_neg (show ¬ (false = true) by decide)] at H; exact H
                clear H
                have H := H1
                clear H1
                by_cases c132 : t144.length < 4398046511104
                rotate_left
                · rw [if_neg c132] at H
                  exact absurd H (by simp)
                rw [if_pos c132] at H
                have LMc132 := Aside0.mk c132
                clear c132
                obtain ⟨y158, hy158⟩ : ∃ y_ : List (S35), y_ = (t144 ++ [(⟨a3_0, a3_1, a3_2, a3_3⟩ : S35)]) := ⟨_, rfl⟩
                replace H : (some (t141, y158, t147, x14_3, 0)) = some (r1, r2, r3, r4, r5) := by first | (rw [hy158]; with_reducible exact H) | (have H2_ := (Option.bind_some _ _).symm.trans H; rw [hy158]; with_reducible exact H2_) | (have H2_ := (Option.bind_some _ _).symm.trans H; with_reducible exact H2_) | with_reducible exact H | (rw [hy158]; exact H) | exact H
                have Ny158 := Aside0.mk hy158
                clear hy158
                simp only [Option.some.injEq, Prod.mk.injEq] at H
                obtain ⟨rfl, rfl, rfl, rfl, rfl⟩ := H
                obtain ⟨Ao133, co133, eo133⟩ := Kd.V_slice HO_13.out
                subst eo133
                have hnb134 := NB148_138.out
                have hnc134 := NB138_148.out
                have hnb135 := NB148_139.out
                have hnc135 := NB139_148.out
                have hnb136 := NB148_140.out
                have hnc136 := NB140_148.out
                have hcz137_0 : wr.cell? ⟨gb148, 0, none⟩ = some (.slice Ao15 t141.length co15) := (blk_cell BK148.out 0).trans rfl
                have hcz137_1 : wr.cell? ⟨gb148, 1, none⟩ = some (.slice Ao20 t144.length co20) := (blk_cell BK148.out 1).trans rfl
                have hcz137_2 : wr.cell? ⟨gb148, 2, none⟩ = some (.int .i64 t147) := (blk_cell BK148.out 2).trans rfl
                have hfz137_0 := blk_frozen BK148.out 0
                have hfz137_1 := blk_frozen BK148.out 1
                have hfz137_2 := blk_frozen BK148.out 2
                have hnb138 := NB139_138.out
                have hnc138 := NB138_139.out
                have hnb139 := NB139_140.out
                have hnc139 := NB140_139.out
                have hcz140_0 : wr.cell? ⟨gb139, 0, none⟩ = some (.int .i64 a3_0) := (blk_cell BK139.out 0).trans rfl
                have hcz140_1 : wr.cell? ⟨gb139, 1, none⟩ = some (.int .i64 a3_1) := (blk_cell BK139.out 1).trans rfl
                have hcz140_2 : wr.cell? ⟨gb139, 2, none⟩ = some (.int .i64 a3_2) := (blk_cell BK139.out 2).trans rfl
                have hcz140_3 : wr.cell? ⟨gb139, 3, none⟩ = some (.int .i64 a3_3) := (blk_cell BK139.out 3).trans rfl
                have hfz140_0 := blk_frozen BK139.out 0
                have hfz140_1 := blk_frozen BK139.out 1
                have hfz140_2 := blk_frozen BK139.out 2
                have hfz140_3 := blk_frozen BK139.out 3
                go_wp2_with (first | ((with_reducible refine gate_builtin (b := .append) (xs := #[.tmp 93, .tmp 95]) rfl ?_); at_builtin; refine Kd.R_append k35 (w0 := w) w.heap.size rfl (.tmp 93) (.tmp 95) 28 35 (.agg #[(.int .i64 0), (.int .i64 0), (.int .i64 0), (.int .i64 0)]) 32 rfl Try.underlying28 info35 rfl (by decide) (by omega) (.slice Ao20 t144.length co20) t144 (⟨a3_0, a3_1, a3_2, a3_3⟩ : S35) [.int .i64 a3_0, .int .i64 a3_1, .int .i64 a3_2, .int .i64 a3_3] (fun k_ => (w.heap.size ≤ k_) ∧ nb k_ (sv Ao15 t141 co15) ∧ k_ ≠ gb139) (fun _ => False) rfl rfl ?aP (fun _ hk => hk.elim) ?aF ?aO ?aB ?aS ?aL ?_; (case aP => exact k35_mkM _ _ _ (⟨a3_0, a3_1, a3_2, a3_3⟩ : S35)); (case aB => exact bel); (case aF => exact (fun k_ hk => ⟨(Nat.le_trans (below_size bel) hk), Kd.fresh' (Kd.R_lt (rq HO_149000.out)) k_ hk, Kd.freshB (blkq BK139.out) k_ hk⟩)); (case aO => exact (rq HO_149001.out)); (case aS => exact (below_size bel)); (case aL => have := LMc132.out; omega); intro v159 w141 ho hb hg hat; rw [← Ny158.out] at ho; replace HO_13 := am (Kd.V_afterv (ok := (fun k_ => ((P0_0_ k_ ∨ P0_1_ k_) ∨ w.heap.size ≤ k_) ∧ nb k_ u14 ∧ nb k_ (sv Ao15 t141 co15) ∧ k_ ≠ gb138 ∧ k_ ≠ gb139 ∧ k_ ≠ gb140 ∧ k_ ≠ gb148)) (by (with_reducible repeat (first | apply Kd.V_alloc | apply Kd.V_drewN | apply Kd.V_drew)); exact Kd.V_mono HO_13.out (fun _ hk => ⟨⟨hk.1, ⟨hk.2.1, ⟨hk.2.2.1, ⟨hk.2.2.2.2.1, ⟨hk.2.2.2.2.2.1, ⟨hk.2.2.2.2.2.2.1, hk.2.2.2.2.2.2.2⟩⟩⟩⟩⟩⟩, hk.2.2.2.1⟩)) hg hat); replace HO_14 := am (Kd.R_over' (rq HO_14.out) (Kd.R_typed (rq HO_149001.out)) (by decide) hg); replace HO_139000 := am (Kd.V_afterv (ok := (fun k_ => ((P0_0_ k_ ∨ P0_1_ k_) ∨ w.heap.size ≤ k_) ∧ nb k_ u14 ∧ nb k_ (sv Ao15 t141 co15) ∧ k_ ≠ gb138 ∧ k_ ≠ gb139 ∧ k_ ≠ gb140 ∧ k_ ≠ gb148)) (by (with_reducible repeat (first | apply Kd.V_alloc | apply Kd.V_drewN | apply Kd.V_drew)); exact Kd.V_mono HO_139000.out (fun _ hk => ⟨⟨hk.1, ⟨hk.2.1, ⟨hk.2.2.1, ⟨hk.2.2.2.2.1, ⟨hk.2.2.2.2.2.1, ⟨hk.2.2.2.2.2.2.1, hk.2.2.2.2.2.2.2⟩⟩⟩⟩⟩⟩, hk.2.2.2.1⟩)) hg hat); replace HO_139001 := am (Kd.V_afterv (ok := (fun k_ => ((P0_0_ k_ ∨ P0_1_ k_) ∨ w.heap.size ≤ k_) ∧ nb k_ u14 ∧ nb k_ (sv Ao15 t141 co15) ∧ k_ ≠ gb138 ∧ k_ ≠ gb139 ∧ k_ ≠ gb140 ∧ k_ ≠ gb148)) (by (with_reducible repeat (first | apply Kd.V_alloc | apply Kd.V_drewN | apply Kd.V_drew)); exact Kd.V_mono HO_139001.out (fun _ hk => ⟨⟨hk.1, ⟨hk.2.1, ⟨hk.2.2.1, ⟨hk.2.2.2.2.1, ⟨hk.2.2.2.2.2.1, ⟨hk.2.2.2.2.2.2.1, hk.2.2.2.2.2.2.2⟩⟩⟩⟩⟩⟩, hk.2.2.2.1⟩)) hg hat); replace HO_149000 := am (Kd.R_after (ok := (fun k_ => (w.heap.size ≤ k_) ∧ k_ ≠ gb139)) (by (with_reducible repeat (first | apply Kd.R_alloc | apply Kd.R_drewN | apply Kd.R_drew)); exact Kd.R_mono HO_149000.out (fun _ hk => ⟨⟨hk.1, hk.2.2⟩, hk.2.1⟩)) hg hat); replace BK138 := am (blk_grown (blkq BK138.out) hg (Kd.R_ne HO_149001.out BK138.out (by decide))); replace BK139 := am (blk_grown (blkq BK139.out) hg (Kd.R_away HO_149001.out (fun _ hk => hk.2.2))); replace BK140 := am (blk_grown (blkq BK140.out) hg (Kd.R_ne HO_149001.out BK140.out (by decide))); replace BK148 := am (blk_grown (blkq BK148.out) hg (Kd.R_ne HO_149001.out BK148.out (by decide))); replace HB := am (hb); have HO160 := am (ho); clear HO_149001 ho hb hg hat; obtain ⟨Ao142, co142, eo142⟩ := Kd.R_slice HO160.out; subst eo142; obtain ⟨hcz143_0, hcz143_1, hcz143_2, hfz143_0, hfz143_1, hfz143_2⟩ := blkc3 BK148.out; have hnb144 := NB140_138.out; have hnc144 := NB138_140.out; obtain ⟨hcz145_0, hcz145_1, hcz145_2, hfz145_0, hfz145_1, hfz145_2⟩ := blkc3 BK140.out))
                refine bodyPost_ret (results_ctt rfl _ _ gb140 30 #[.slice Ao15 t141.length co15, .slice Ao142 y158.length co142, .int .i64 t147] (0, 0) _ rfl (by (with_reducible repeat (first | refine blk_drewN ?_ _ | refine blk_drew ?_ | refine blk_alloc ?_ _)); refine blk_put (cs := #[.slice Ao15 t141.length co15, .slice Ao142 y158.length co142, .int .i64 0]) ?_ 2 _ rfl; (with_reducible repeat (first | refine blk_drewN ?_ _ | refine blk_drew ?_ | refine blk_alloc ?_ _)); refine blk_put (cs := #[.slice Ao15 t141.length co15, .slice none 0 0, .int .i64 0]) ?_ 1 _ rfl; (with_reducible repeat (first | refine blk_drewN ?_ _ | refine blk_drew ?_ | refine blk_alloc ?_ _)); refine blk_put (cs := #[.slice none 0 0, .slice none 0 0, .int .i64 0]) ?_ 0 _ rfl; (with_reducible repeat (first | refine blk_drewN ?_ _ | refine blk_drew ?_ | refine blk_alloc ?_ _)); refine blk_far ?_ NB140_148.out _; (with_reducible repeat (first | refine blk_drewN ?_ _ | refine blk_drew ?_ | refine blk_alloc ?_ _)); exact BK140.out) Try.underlying30 rfl (by kernel_rfl)) rfl ?_
                exact ⟨_, _, _, by first | rfl | (simp [errW_none, errW_some] <;> rfl) | (simp [*, errW_none, errW_some] <;> rfl), by (with_reducible repeat (first | apply Kd.R_alloc | apply Kd.R_drewN | apply Kd.R_drew)); exact Kd.R_mono (Kd.R_far (p := ⟨gb140, 2, none⟩) (Kd.R_far (p := ⟨gb140, 1, none⟩) (Kd.R_far (p := ⟨gb140, 0, none⟩) (Kd.R_far (p := ⟨gb148, 1, none⟩) (Kd.R_types (Kd.R_types HO_149000.out BK148.out (by decide)) BK140.out (by decide)) (fun _ hk => hk.1.2) (.slice Ao142 y158.length co142)) (fun _ hk => hk.2) (.slice Ao15 t141.length co15)) (fun _ hk => hk.2) (.slice Ao142 y158.length co142)) (fun _ hk => hk.2) (.int .i64 t147)) (fun _ hk => ⟨hk.1.1.1.1, hk.1.1.2⟩), by (with_reducible repeat (first | apply Kd.R_alloc | apply Kd.R_drewN | apply Kd.R_drew)); exact Kd.R_mono (Kd.R_far (p := ⟨gb140, 2, none⟩) (Kd.R_far (p := ⟨gb140, 1, none⟩) (Kd.R_far (p := ⟨gb140, 0, none⟩) (Kd.R_far (p := ⟨gb148, 1, none⟩) (Kd.R_types (Kd.R_types HO160.out BK148.out (by decide)) BK140.out (by decide)) (fun _ hk => hk.1.2) (.slice Ao142 y158.length co142)) (fun _ hk => hk.2) (.slice Ao15 t141.length co15)) (fun _ hk => hk.2) (.slice Ao142 y158.length co142)) (fun _ hk => hk.2) (.int .i64 t147)) (fun _ hk => ⟨hk.1.1.1, hk.1.1.2.1⟩), by (with_reducible repeat (first | apply Kd.R_alloc | apply Kd.R_drewN | apply Kd.R_drew)); exact Kd.R_mono (Kd.R_far (p := ⟨gb140, 2, none⟩) (Kd.R_far (p := ⟨gb140, 1, none⟩) (Kd.R_far (p := ⟨gb140, 0, none⟩) (Kd.R_far (p := ⟨gb148, 1, none⟩) (Kd.R_types (Kd.R_types HO_14.out BK148.out (by decide)) BK140.out (by decide)) (fun _ hk => hk.1.2) (.slice Ao142 y158.length co142)) (fun _ hk => hk.2) (.slice Ao15 t141.length co15)) (fun _ hk => hk.2) (.slice Ao142 y158.length co142)) (fun _ hk => hk.2) (.int .i64 t147)) (fun _ hk => hk.1.1), by repeat (first | (with_reducible first | exact HB.out | apply below_alloc | apply pw_below_drewN | apply below_drew1 | refine below_set ?_ GE138.out | refine below_set ?_ GE139.out | refine below_set ?_ GE140.out | refine below_set ?_ GE148.out) | exact HB.out)⟩
              rw [if_pos c93] at H
              have c93b0 : decide (x15_3 < (x13_67.length : Int)) = true := decide_eq_true c93
              clear c93
              by_cases c94 : 0 ≤ x15_3
              rotate_left
              · rw [if_neg c94] at H
                exact absurd H (by simp)
              rw [if_pos c94] at H
              have c94b0 : decide (0 ≤ x15_3) = true := decide_eq_true c94
              clear c94
              replace H := Option.bind_eq_some_iff.mp H
              obtain ⟨t162, A950, H⟩ := H
              (try dsimp only at H)
              have A95 := Aside0.mk A950
              clear A950
              by_cases c96 : t162 = true
              rotate_left
              · replace c96 := Bool.eq_false_iff.mpr c96
                subst c96
                have H1 : (spec_AddJoin.l0 k3 a1 a2 x13_67 x14_3 (wrap64 (x15_3 + 1)) a3_0 a3_1 a3_2 a3_3 t141 t144 t147) = some (r1, r2, r3, r4, r5) := by rw [if_neg (show ¬ (false = true) by decide)] at H; exact H
                clear H
                have H := H1
                clear H1
                have H' := Aside0.mk H
                clear H
                obtain ⟨Ao114, co114, eo114⟩ := Kd.V_slice HO_13.out
                subst eo114
                try go_wp2
                replace HO_13 := am (Kd.V_drew HO_13.out)
                replace HO_14 := am (Kd.R_drew HO_14.out)
                replace HO_139000 := am (Kd.V_drew HO_139000.out)
                replace HO_139001 := am (Kd.V_drew HO_139001.out)
                replace HO_149000 := am (Kd.R_drew HO_149000.out)
                replace HO_149001 := am (Kd.R_drew HO_149001.out)
                replace BK138 := am (blk_drew BK138.out)
                replace BK139 := am (blk_drew BK139.out)
                replace BK140 := am (blk_drew BK140.out)
                replace BK148 := am (blk_drew BK148.out)
                replace HB := am (below_drew1 HB.out)
                have p161 : 0 ≤ (x15_3 : Int) := of_decide_eq_true (by first | (with_reducible assumption) | assumption)
                have q161 : x15_3 < (x13_67.length : Int) := of_decide_eq_true (by first | (with_reducible assumption) | assumption)
                obtain ⟨ad161, e161, hx161_0, hx161_1, hx161_2, hx161_3⟩ := at_T35 (Kd.V_reads' HO_13.out).2.2 x15_3 p161 q161
                cases e161
                replace p161 := eq_true p161
                replace q161 := eq_true q161
                refine start_ (n := 8) (S := fun w' => w'.cell? ⟨gb139, 0, none⟩ = some (.int .i64 a3_0) ∧ w'.cell? ⟨gb139, 1, none⟩ = some (.int .i64 a3_1) ∧ w'.cell? ⟨gb139, 2, none⟩ = some (.int .i64 a3_2) ∧ w'.cell? ⟨gb139, 3, none⟩ = some (.int .i64 a3_3) ∧ w'.cell? (ad161.add ((x15_3).toNat * 4)) = some (.int .i64 ((rd_T35 x13_67 x15_3).f0)) ∧ w'.cell? ⟨(ad161.add ((x15_3).toNat * 4)).block, (ad161.add ((x15_3).toNat * 4)).off + 1, none⟩ = some (.int .i64 ((rd_T35 x13_67 x15_3).f1)) ∧ w'.cell? ⟨(ad161.add ((x15_3).toNat * 4)).block, (ad161.add ((x15_3).toNat * 4)).off + 2, none⟩ = some (.int .i64 ((rd_T35 x13_67 x15_3).f2)) ∧ w'.cell? ⟨(ad161.add ((x15_3).toNat * 4)).block, (ad161.add ((x15_3).toNat * 4)).off + 3, none⟩ = some (.int .i64 ((rd_T35 x13_67 x15_3).f3))) (ds := []) #[false, false, false, false, false, false, false, false] (by kernel_rfl) rfl rfl ⟨(blk_cell BK139.out 0).trans rfl, (blk_cell BK139.out 1).trans rfl, (blk_cell BK139.out 2).trans rfl, (blk_cell BK139.out 3).trans rfl, hx161_0, hx161_1, hx161_2, hx161_3⟩ (fun hHeld => ?_); refine with_tabW spec_AddJoin.tab17 spec_AddJoin.bits17 (fun HT_ HW_ => ?_)
                generalize wr.drew = w115 at HO_13 HO_14 HO_139000 HO_139001 HO_149000 HO_149001 BK138 BK139 BK140 BK148 HB hx161_0 hx161_1 hx161_2 hx161_3 hHeld ⊢
                refine pure_ (i := 1) (N := some 59) (v := ?_) (a' := ?_) #[false, true, false, false, false, false, false, false] rfl rfl (any_of HT_.out (by kernel_rfl)) (fun _ _ _ h => h) (Or.inl ⟨by rfl, ?_⟩) ?_ ?_
                rotate_left
                · intro w'
                  go_simp
                  with_reducible rfl
                rotate_left
                · simp only [Act.put, List.setIfInBounds_toArray, List.set_cons_zero, List.set_cons_succ, i64_w, i32_w]
                  rfl
                refine pure_ (i := 2) (N := some 60) (v := ?_) (a' := ?_) #[false, true, true, false, false, false, false, false] rfl rfl (any_of HT_.out (by kernel_rfl)) (fun _ _ _ h => h) (Or.inl ⟨by rfl, ?_⟩) ?_ ?_
                rotate_left
                · intro w'
                  go_simp
                  with_reducible rfl
                rotate_left
                · simp only [Act.put, List.setIfInBounds_toArray, List.set_cons_zero, List.set_cons_succ, i64_w, i32_w]
                  rfl
                refine pure_ (i := 3) (N := some 61) (v := ?_) (a' := ?_) #[false, true, true, true, false, false, false, false] rfl rfl (any_of HT_.out (by kernel_rfl)) (fun _ _ _ h => h) (Or.inl ⟨by rfl, ?_⟩) ?_ ?_
                rotate_left
                · intro w'
                  go_simp
                  with_reducible rfl
                rotate_left
                · simp only [Act.put, List.setIfInBounds_toArray, List.set_cons_zero, List.set_cons_succ, i64_w, i32_w]
                  rfl
                refine pure_ (i := 5) (N := some 63) (v := ?_) (a' := ?_) #[false, true, true, true, false, true, false, false] rfl rfl (any_of HT_.out (by kernel_rfl)) (fun _ _ _ h => h) (Or.inl ⟨by rfl, ?_⟩) ?_ ?_
                rotate_left
                · intro w'
                  go_simp
                  with_reducible rfl
                rotate_left
                · simp only [Act.put, List.setIfInBounds_toArray, List.set_cons_zero, List.set_cons_succ, i64_w, i32_w]
                  rfl
                refine take_ (i := 0) (N := some 58) (v := ?_) (a' := ?_) #[true, true, true, true, false, true, false, false] rfl rfl (take_ofW HT_.out HW_.out (by kernel_rfl)) (fun _ _ _ h => h) (Or.inl ⟨by rfl, ?_⟩) hHeld ?_ ?_
                rotate_left
                · rintro w' ⟨s0, s1, s2, s3, s4, s5, s6, s7⟩
                  go_simp
                  with_reducible rfl
                rotate_left
                · simp only [Act.put, List.setIfInBounds_toArray, List.set_cons_zero, List.set_cons_succ, i64_w, i32_w]
                  rfl
                refine take_ (i := 4) (N := some 62) (v := ?_) (a' := ?_) #[true, true, true, true, true, true, false, false] rfl rfl (take_ofW HT_.out HW_.out (by kernel_rfl)) (fun _ _ _ h => h) (Or.inl ⟨by rfl, ?_⟩) hHeld ?_ ?_
                rotate_left
                · rintro w' ⟨s0, s1, s2, s3, s4, s5, s6, s7⟩
                  go_simp
                  with_reducible rfl
                rotate_left
                · simp only [Act.put, List.setIfInBounds_toArray, List.set_cons_zero, List.set_cons_succ, i64_w, i32_w]
                  rfl
                refine one_ (i := 6) (N := some 64) #[true, true, true, true, true, true, true, false] rfl rfl (one_of HT_.out (by kernel_rfl)) (by decide) (fun K hK => ?_)
                refine goes_ Try.func47 (by kernel_rfl) rfl #[.agg #[.int .i64 a3_0, .int .i64 a3_1, .int .i64 a3_2, .int .i64 a3_3], .agg #[.int .i64 ((rd_T35 x13_67 x15_3).f0), .int .i64 ((rd_T35 x13_67 x15_3).f1), .int .i64 ((rd_T35 x13_67 x15_3).f2), .int .i64 ((rd_T35 x13_67 x15_3).f3)], .int .i64 a1] (by rfl) rfl rfl (by (try simp only [List.map_toArray, List.map_cons, List.map_nil]); first | done | rfl | (simp only [List.length_drop, List.length_take]; rfl)) ?_
                with_reducible refine (spec_l12Meet.calls a3_0 a3_1 a3_2 a3_3 ((rd_T35 x13_67 x15_3).f0) ((rd_T35 x13_67 x15_3).f1) ((rd_T35 x13_67 x15_3).f2) ((rd_T35 x13_67 x15_3).f3) a1 false _ A95.out).mono ?_
                rintro e w116 ⟨rfl, hb⟩
                have HS4_ := (hb.cell (World.block_lt_of_cell? _ _ (hHeld.2.2.2.2.1))).trans (hHeld.2.2.2.2.1)
                have HS5_ := (hb.cell (World.block_lt_of_cell? _ _ (hHeld.2.2.2.2.2.1))).trans (hHeld.2.2.2.2.2.1)
                have HS6_ := (hb.cell (World.block_lt_of_cell? _ _ (hHeld.2.2.2.2.2.2.1))).trans (hHeld.2.2.2.2.2.2.1)
                have HS7_ := (hb.cell (World.block_lt_of_cell? _ _ (hHeld.2.2.2.2.2.2.2))).trans (hHeld.2.2.2.2.2.2.2)
                refine ⟨_, rfl, ?_⟩
                replace HO_13 := am (Kd.V_below (by (with_reducible repeat (first | apply Kd.V_alloc | apply Kd.V_drewN | apply Kd.V_drew)); exact HO_13.out) hb)
                replace HO_14 := am (Kd.R_below (rq HO_14.out) hb)
                replace HO_139000 := am (Kd.V_below (by (with_reducible repeat (first | apply Kd.V_alloc | apply Kd.V_drewN | apply Kd.V_drew)); exact HO_139000.out) hb)
                replace HO_139001 := am (Kd.V_below (by (with_reducible repeat (first | apply Kd.V_alloc | apply Kd.V_drewN | apply Kd.V_drew)); exact HO_139001.out) hb)
                replace HO_149000 := am (Kd.R_below (rq HO_149000.out) hb)
                replace HO_149001 := am (Kd.R_below (rq HO_149001.out) hb)
                replace BK138 := am (blk_below (blkq BK138.out) hb)
                replace BK139 := am (blk_below (blkq BK139.out) hb)
                replace BK140 := am (blk_below (blkq BK140.out) hb)
                replace BK148 := am (blk_below (blkq BK148.out) hb)
                replace HB := am (below_step bel hb)
                (try clear hb)
                refine hK.out _ _ ⟨(blk_cell BK139.out 0).trans rfl, (blk_cell BK139.out 1).trans rfl, (blk_cell BK139.out 2).trans rfl, (blk_cell BK139.out 3).trans rfl, HS4_, HS5_, HS6_, HS7_⟩ (fun hHeld => ?_)
                clear hK K
                refine norm_ (a' := ?_) ?_ ?_
                rotate_left
                · show Act.put _ (some 64) _ = _
                  simp only [Act.put, List.setIfInBounds_toArray, List.set_cons_zero, List.set_cons_succ, i64_w, i32_w]
                  rfl
                refine pure_ (i := 7) (N := some 65) (v := ?_) (a' := ?_) #[true, true, true, true, true, true, true, true] rfl rfl (any_of HT_.out (by kernel_rfl)) (fun _ _ _ h => h) (Or.inl ⟨by rfl, ?_⟩) ?_ ?_
                rotate_left
                · intro w'
                  go_simp
                  with_reducible rfl
                rotate_left
                · simp only [Act.put, List.setIfInBounds_toArray, List.set_cons_zero, List.set_cons_succ, i64_w, i32_w]
                  rfl
                refine done_ (done_of HT_.out (by kernel_rfl)) ?_
                try go_wp2
                go_roundg k3
                case measure => have := HJ5.out; have := HJ67.out; have := HK3.out; omega
                case rel => exact ⟨(x14_3), (wrap64 (x15_3 + 1)), (by first | rfl | (simp; done) | (simp [*]; done)), H', ⟨by have := HJ5.out; have := HJ67.out; have := HK3.out; omega⟩, ⟨by (with_reducible repeat (first | apply Kd.V_alloc | apply Kd.V_drewN | apply Kd.V_drew)); exact HO_13.out⟩, ⟨by (with_reducible repeat (first | apply Kd.R_alloc | apply Kd.R_drewN | apply Kd.R_drew)); exact HO_14.out⟩, ⟨by (with_reducible repeat (first | apply Kd.V_alloc | apply Kd.V_drewN | apply Kd.V_drew)); exact HO_139000.out⟩, ⟨by (with_reducible repeat (first | apply Kd.V_alloc | apply Kd.V_drewN | apply Kd.V_drew)); exact HO_139001.out⟩, ⟨by (with_reducible repeat (first | apply Kd.R_alloc | apply Kd.R_drewN | apply Kd.R_drew)); exact HO_149000.out⟩, ⟨by (with_reducible repeat (first | apply Kd.R_alloc | apply Kd.R_drewN | apply Kd.R_drew)); exact HO_149001.out⟩, ⟨by (with_reducible repeat (first | refine blk_drewN ?_ _ | refine blk_drew ?_ | refine blk_alloc ?_ _)); exact BK138.out⟩, ⟨by (with_reducible repeat (first | refine blk_drewN ?_ _ | refine blk_drew ?_ | refine blk_alloc ?_ _)); exact BK139.out⟩, ⟨by (with_reducible repeat (first | refine blk_drewN ?_ _ | refine blk_drew ?_ | refine blk_alloc ?_ _)); exact BK140.out⟩, ⟨by (with_reducible repeat (first | refine blk_drewN ?_ _ | refine blk_drew ?_ | refine blk_alloc ?_ _)); exact BK148.out⟩, ⟨by repeat (first | (with_reducible first | exact HB.out | apply below_alloc | apply pw_below_drewN | apply below_drew1 | refine below_set ?_ GE138.out | refine below_set ?_ GE139.out | refine below_set ?_ GE140.out | refine below_set ?_ GE148.out) | exact HB.out)⟩⟩
              subst c96
              have H1 : (if a2 = true then ((spec_l12Pair.f a3_0 a3_1 a3_2 a3_3 ((rd_T35 x13_67 x15_3).f0) ((rd_T35 x13_67 x15_3).f1) ((rd_T35 x13_67 x15_3).f2) ((rd_T35 x13_67 x15_3).f3)).bind fun bt164 => (if x14_3.length < 3518437208883 then (spec_AddJoin.l0 k3 a1 a2 x13_67 (x14_3 ++ [(⟨bt164.1, bt164.2.1, bt164.2.2.1, bt164.2.2.2.1, bt164.2.2.2.2⟩ : S75)]) (wrap64 (x15_3 + 1)) a3_0 a3_1 a3_2 a3_3 t141 t144 t147) else (none))) else ((spec_l12Pair.f ((rd_T35 x13_67 x15_3).f0) ((rd_T35 x13_67 x15_3).f1) ((rd_T35 x13_67 x15_3).f2) ((rd_T35 x13_67 x15_3).f3) a3_0 a3_1 a3_2 a3_3).bind fun bt173 => (if x14_3.length < 3518437208883 then (spec_AddJoin.l0 k3 a1 a2 x13_67 (x14_3 ++ [(⟨bt173.1, bt173.2.1, bt173.2.2.1, bt173.2.2.2.1, bt173.2.2.2.2⟩ : S75)]) (wrap64 (x15_3 + 1)) a3_0 a3_1 a3_2 a3_3 t141 t144 t147) else (none)))) = some (r1, r2, r3, r4, r5) := by rw [if_pos rfl] at H; exact H
              clear H
              have H := H1
              clear H1
              by_cases c97 : a2 = true
              · subst c97
                have H1 : ((spec_l12Pair.f a3_0 a3_1 a3_2 a3_3 ((rd_T35 x13_67 x15_3).f0) ((rd_T35 x13_67 x15_3).f1) ((rd_T35 x13_67 x15_3).f2) ((rd_T35 x13_67 x15_3).f3)).bind fun bt164 => (if x14_3.length < 3518437208883 then (spec_AddJoin.l0 k3 a1 true x13_67 (x14_3 ++ [(⟨bt164.1, bt164.2.1, bt164.2.2.1, bt164.2.2.2.1, bt164.2.2.2.2⟩ : S75)]) (wrap64 (x15_3 + 1)) a3_0 a3_1 a3_2 a3_3 t141 t144 t147) else (none))) = some (r1, r2, r3, r4, r5) := by rw [if_pos rfl] at H; exact H
                clear H
                have H := H1
                clear H1
                replace H := Option.bind_eq_some_iff.mp H
                obtain ⟨⟨t164, t165, t166, t167, t168⟩, A980, H⟩ := H
                (try dsimp only at H)
                have A98 := Aside0.mk A980
                clear A980
                by_cases c99 : x14_3.length < 3518437208883
                rotate_left
                · rw [if_neg c99] at H
                  exact absurd H (by simp)
                rw [if_pos c99] at H
                have LMc99 := Aside0.mk c99
                clear c99
                obtain ⟨y169, hy169⟩ : ∃ y_ : List (S75), y_ = (x14_3 ++ [(⟨t164, t165, t166, t167, t168⟩ : S75)]) := ⟨_, rfl⟩
                replace H : (spec_AddJoin.l0 k3 a1 true x13_67 y169 (wrap64 (x15_3 + 1)) a3_0 a3_1 a3_2 a3_3 t141 t144 t147) = some (r1, r2, r3, r4, r5) := by first | (rw [hy169]; with_reducible exact H) | (have H2_ := (Option.bind_some _ _).symm.trans H; rw [hy169]; with_reducible exact H2_) | (have H2_ := (Option.bind_some _ _).symm.trans H; with_reducible exact H2_) | with_reducible exact H | (rw [hy169]; exact H) | exact H
                have Ny169 := Aside0.mk hy169
                clear hy169
                have H' := Aside0.mk H
                clear H
                obtain ⟨Ao100, co100, eo100⟩ := Kd.V_slice HO_13.out
                subst eo100
                try go_wp2
                replace HO_13 := am (Kd.V_drew HO_13.out)
                replace HO_14 := am (Kd.R_drew HO_14.out)
                replace HO_139000 := am (Kd.V_drew HO_139000.out)
                replace HO_139001 := am (Kd.V_drew HO_139001.out)
                replace HO_149000 := am (Kd.R_drew HO_149000.out)
                replace HO_149001 := am (Kd.R_drew HO_149001.out)
                replace BK138 := am (blk_drew BK138.out)
                replace BK139 := am (blk_drew BK139.out)
                replace BK140 := am (blk_drew BK140.out)
                replace BK148 := am (blk_drew BK148.out)
                replace HB := am (below_drew1 HB.out)
                have p161 : 0 ≤ (x15_3 : Int) := of_decide_eq_true (by first | (with_reducible assumption) | assumption)
                have q161 : x15_3 < (x13_67.length : Int) := of_decide_eq_true (by first | (with_reducible assumption) | assumption)
                obtain ⟨ad161, e161, hx161_0, hx161_1, hx161_2, hx161_3⟩ := at_T35 (Kd.V_reads' HO_13.out).2.2 x15_3 p161 q161
                cases e161
                replace p161 := eq_true p161
                replace q161 := eq_true q161
                refine start_ (n := 8) (S := fun w' => w'.cell? ⟨gb139, 0, none⟩ = some (.int .i64 a3_0) ∧ w'.cell? ⟨gb139, 1, none⟩ = some (.int .i64 a3_1) ∧ w'.cell? ⟨gb139, 2, none⟩ = some (.int .i64 a3_2) ∧ w'.cell? ⟨gb139, 3, none⟩ = some (.int .i64 a3_3) ∧ w'.cell? (ad161.add ((x15_3).toNat * 4)) = some (.int .i64 ((rd_T35 x13_67 x15_3).f0)) ∧ w'.cell? ⟨(ad161.add ((x15_3).toNat * 4)).block, (ad161.add ((x15_3).toNat * 4)).off + 1, none⟩ = some (.int .i64 ((rd_T35 x13_67 x15_3).f1)) ∧ w'.cell? ⟨(ad161.add ((x15_3).toNat * 4)).block, (ad161.add ((x15_3).toNat * 4)).off + 2, none⟩ = some (.int .i64 ((rd_T35 x13_67 x15_3).f2)) ∧ w'.cell? ⟨(ad161.add ((x15_3).toNat * 4)).block, (ad161.add ((x15_3).toNat * 4)).off + 3, none⟩ = some (.int .i64 ((rd_T35 x13_67 x15_3).f3))) (ds := []) #[false, false, false, false, false, false, false, false] (by kernel_rfl) rfl rfl ⟨(blk_cell BK139.out 0).trans rfl, (blk_cell BK139.out 1).trans rfl, (blk_cell BK139.out 2).trans rfl, (blk_cell BK139.out 3).trans rfl, hx161_0, hx161_1, hx161_2, hx161_3⟩ (fun hHeld => ?_); refine with_tabW spec_AddJoin.tab17 spec_AddJoin.bits17 (fun HT_ HW_ => ?_)
                generalize wr.drew = w101 at HO_13 HO_14 HO_139000 HO_139001 HO_149000 HO_149001 BK138 BK139 BK140 BK148 HB hx161_0 hx161_1 hx161_2 hx161_3 hHeld ⊢
                refine pure_ (i := 1) (N := some 59) (v := ?_) (a' := ?_) #[false, true, false, false, false, false, false, false] rfl rfl (any_of HT_.out (by kernel_rfl)) (fun _ _ _ h => h) (Or.inl ⟨by rfl, ?_⟩) ?_ ?_
                rotate_left
                · intro w'
                  go_simp
                  with_reducible rfl
                rotate_left
                · simp only [Act.put, List.setIfInBounds_toArray, List.set_cons_zero, List.set_cons_succ, i64_w, i32_w]
                  rfl
                refine pure_ (i := 2) (N := some 60) (v := ?_) (a' := ?_) #[false, true, true, false, false, false, false, false] rfl rfl (any_of HT_.out (by kernel_rfl)) (fun _ _ _ h => h) (Or.inl ⟨by rfl, ?_⟩) ?_ ?_
                rotate_left
                · intro w'
                  go_simp
                  with_reducible rfl
                rotate_left
                · simp only [Act.put, List.setIfInBounds_toArray, List.set_cons_zero, List.set_cons_succ, i64_w, i32_w]
                  rfl
                refine pure_ (i := 3) (N := some 61) (v := ?_) (a' := ?_) #[false, true, true, true, false, false, false, false] rfl rfl (any_of HT_.out (by kernel_rfl)) (fun _ _ _ h => h) (Or.inl ⟨by rfl, ?_⟩) ?_ ?_
                rotate_left
                · intro w'
                  go_simp
                  with_reducible rfl
                rotate_left
                · simp only [Act.put, List.setIfInBounds_toArray, List.set_cons_zero, List.set_cons_succ, i64_w, i32_w]
                  rfl
                refine pure_ (i := 5) (N := some 63) (v := ?_) (a' := ?_) #[false, true, true, true, false, true, false, false] rfl rfl (any_of HT_.out (by kernel_rfl)) (fun _ _ _ h => h) (Or.inl ⟨by rfl, ?_⟩) ?_ ?_
                rotate_left
                · intro w'
                  go_simp
                  with_reducible rfl
                rotate_left
                · simp only [Act.put, List.setIfInBounds_toArray, List.set_cons_zero, List.set_cons_succ, i64_w, i32_w]
                  rfl
                refine take_ (i := 0) (N := some 58) (v := ?_) (a' := ?_) #[true, true, true, true, false, true, false, false] rfl rfl (take_ofW HT_.out HW_.out (by kernel_rfl)) (fun _ _ _ h => h) (Or.inl ⟨by rfl, ?_⟩) hHeld ?_ ?_
                rotate_left
                · rintro w' ⟨s0, s1, s2, s3, s4, s5, s6, s7⟩
                  go_simp
                  with_reducible rfl
                rotate_left
                · simp only [Act.put, List.setIfInBounds_toArray, List.set_cons_zero, List.set_cons_succ, i64_w, i32_w]
                  rfl
                refine take_ (i := 4) (N := some 62) (v := ?_) (a' := ?_) #[true, true, true, true, true, true, false, false] rfl rfl (take_ofW HT_.out HW_.out (by kernel_rfl)) (fun _ _ _ h => h) (Or.inl ⟨by rfl, ?_⟩) hHeld ?_ ?_
                rotate_left
                · rintro w' ⟨s0, s1, s2, s3, s4, s5, s6, s7⟩
                  go_simp
                  with_reducible rfl
                rotate_left
                · simp only [Act.put, List.setIfInBounds_toArray, List.set_cons_zero, List.set_cons_succ, i64_w, i32_w]
                  rfl
                refine one_ (i := 6) (N := some 64) #[true, true, true, true, true, true, true, false] rfl rfl (one_of HT_.out (by kernel_rfl)) (by decide) (fun K hK => ?_)
                refine goes_ Try.func47 (by kernel_rfl) rfl #[.agg #[.int .i64 a3_0, .int .i64 a3_1, .int .i64 a3_2, .int .i64 a3_3], .agg #[.int .i64 ((rd_T35 x13_67 x15_3).f0), .int .i64 ((rd_T35 x13_67 x15_3).f1), .int .i64 ((rd_T35 x13_67 x15_3).f2), .int .i64 ((rd_T35 x13_67 x15_3).f3)], .int .i64 a1] (by rfl) rfl rfl (by (try simp only [List.map_toArray, List.map_cons, List.map_nil]); first | done | rfl | (simp only [List.length_drop, List.length_take]; rfl)) ?_
                with_reducible refine (spec_l12Meet.calls a3_0 a3_1 a3_2 a3_3 ((rd_T35 x13_67 x15_3).f0) ((rd_T35 x13_67 x15_3).f1) ((rd_T35 x13_67 x15_3).f2) ((rd_T35 x13_67 x15_3).f3) a1 true _ A95.out).mono ?_
                rintro e w102 ⟨rfl, hb⟩
                have HS4_ := (hb.cell (World.block_lt_of_cell? _ _ (hHeld.2.2.2.2.1))).trans (hHeld.2.2.2.2.1)
                have HS5_ := (hb.cell (World.block_lt_of_cell? _ _ (hHeld.2.2.2.2.2.1))).trans (hHeld.2.2.2.2.2.1)
                have HS6_ := (hb.cell (World.block_lt_of_cell? _ _ (hHeld.2.2.2.2.2.2.1))).trans (hHeld.2.2.2.2.2.2.1)
                have HS7_ := (hb.cell (World.block_lt_of_cell? _ _ (hHeld.2.2.2.2.2.2.2))).trans (hHeld.2.2.2.2.2.2.2)
                refine ⟨_, rfl, ?_⟩
                replace HO_13 := am (Kd.V_below (by (with_reducible repeat (first | apply Kd.V_alloc | apply Kd.V_drewN | apply Kd.V_drew)); exact HO_13.out) hb)
                replace HO_14 := am (Kd.R_below (rq HO_14.out) hb)
                replace HO_139000 := am (Kd.V_below (by (with_reducible repeat (first | apply Kd.V_alloc | apply Kd.V_drewN | apply Kd.V_drew)); exact HO_139000.out) hb)
                replace HO_139001 := am (Kd.V_below (by (with_reducible repeat (first | apply Kd.V_alloc | apply Kd.V_drewN | apply Kd.V_drew)); exact HO_139001.out) hb)
                replace HO_149000 := am (Kd.R_below (rq HO_149000.out) hb)
                replace HO_149001 := am (Kd.R_below (rq HO_149001.out) hb)
                replace BK138 := am (blk_below (blkq BK138.out) hb)
                replace BK139 := am (blk_below (blkq BK139.out) hb)
                replace BK140 := am (blk_below (blkq BK140.out) hb)
                replace BK148 := am (blk_below (blkq BK148.out) hb)
                replace HB := am (below_step bel hb)
                (try clear hb)
                refine hK.out _ _ ⟨(blk_cell BK139.out 0).trans rfl, (blk_cell BK139.out 1).trans rfl, (blk_cell BK139.out 2).trans rfl, (blk_cell BK139.out 3).trans rfl, HS4_, HS5_, HS6_, HS7_⟩ (fun hHeld => ?_)
                clear hK K
                refine norm_ (a' := ?_) ?_ ?_
                rotate_left
                · show Act.put _ (some 64) _ = _
                  simp only [Act.put, List.setIfInBounds_toArray, List.set_cons_zero, List.set_cons_succ, i64_w, i32_w]
                  rfl
                refine pure_ (i := 7) (N := some 65) (v := ?_) (a' := ?_) #[true, true, true, true, true, true, true, true] rfl rfl (any_of HT_.out (by kernel_rfl)) (fun _ _ _ h => h) (Or.inl ⟨by rfl, ?_⟩) ?_ ?_
                rotate_left
                · intro w'
                  go_simp
                  with_reducible rfl
                rotate_left
                · simp only [Act.put, List.setIfInBounds_toArray, List.set_cons_zero, List.set_cons_succ, i64_w, i32_w]
                  rfl
                refine done_ (done_of HT_.out (by kernel_rfl)) ?_
                try go_wp2
                replace HO_13 := am (Kd.V_drew HO_13.out)
                replace HO_14 := am (Kd.R_drew HO_14.out)
                replace HO_139000 := am (Kd.V_drew HO_139000.out)
                replace HO_139001 := am (Kd.V_drew HO_139001.out)
                replace HO_149000 := am (Kd.R_drew HO_149000.out)
                replace HO_149001 := am (Kd.R_drew HO_149001.out)
                replace BK138 := am (blk_drew BK138.out)
                replace BK139 := am (blk_drew BK139.out)
                replace BK140 := am (blk_drew BK140.out)
                replace BK148 := am (blk_drew BK148.out)
                replace HB := am (below_drew1 HB.out)
                have p163 : 0 ≤ (x15_3 : Int) := of_decide_eq_true (by first | (with_reducible assumption) | assumption)
                have q163 : x15_3 < (x13_67.length : Int) := of_decide_eq_true (by first | (with_reducible assumption) | assumption)
                obtain ⟨ad163, e163, hx163_0, hx163_1, hx163_2, hx163_3⟩ := at_T35 (Kd.V_reads' HO_13.out).2.2 x15_3 p163 q163
                obtain rfl : ad161 = ad163 := (by injection e163)
                replace p163 := eq_true p163
                replace q163 := eq_true q163
                refine start_ (n := 10) (S := fun w' => w'.cell? ⟨gb139, 0, none⟩ = some (.int .i64 a3_0) ∧ w'.cell? ⟨gb139, 1, none⟩ = some (.int .i64 a3_1) ∧ w'.cell? ⟨gb139, 2, none⟩ = some (.int .i64 a3_2) ∧ w'.cell? ⟨gb139, 3, none⟩ = some (.int .i64 a3_3) ∧ w'.cell? (ad161.add ((x15_3).toNat * 4)) = some (.int .i64 ((rd_T35 x13_67 x15_3).f0)) ∧ w'.cell? ⟨(ad161.add ((x15_3).toNat * 4)).block, (ad161.add ((x15_3).toNat * 4)).off + 1, none⟩ = some (.int .i64 ((rd_T35 x13_67 x15_3).f1)) ∧ w'.cell? ⟨(ad161.add ((x15_3).toNat * 4)).block, (ad161.add ((x15_3).toNat * 4)).off + 2, none⟩ = some (.int .i64 ((rd_T35 x13_67 x15_3).f2)) ∧ w'.cell? ⟨(ad161.add ((x15_3).toNat * 4)).block, (ad161.add ((x15_3).toNat * 4)).off + 3, none⟩ = some (.int .i64 ((rd_T35 x13_67 x15_3).f3))) (ds := [7, 8]) #[false, false, false, false, false, false, false, false, false, false] (by kernel_rfl) rfl rfl ⟨(blk_cell BK139.out 0).trans rfl, (blk_cell BK139.out 1).trans rfl, (blk_cell BK139.out 2).trans rfl, (blk_cell BK139.out 3).trans rfl, hx163_0, hx163_1, hx163_2, hx163_3⟩ (fun hHeld => ?_); refine with_tabW spec_AddJoin.tab19 spec_AddJoin.bits19 (fun HT_ HW_ => ?_)
                generalize w102.drew = w103 at HO_13 HO_14 HO_139000 HO_139001 HO_149000 HO_149001 BK138 BK139 BK140 BK148 HB hx163_0 hx163_1 hx163_2 hx163_3 hHeld ⊢
                refine pure_ (i := 0) (N := some 67) (v := ?_) (a' := ?_) #[true, false, false, false, false, false, false, false, false, false] rfl rfl (any_of HT_.out (by kernel_rfl)) (fun _ _ _ h => h) (Or.inl ⟨by rfl, ?_⟩) ?_ ?_
                rotate_left
                · intro w'
                  go_simp
                  with_reducible rfl
                rotate_left
                · simp only [Act.put, List.setIfInBounds_toArray, List.set_cons_zero, List.set_cons_succ, i64_w, i32_w]
                  rfl
                refine pure_ (i := 2) (N := some 69) (v := ?_) (a' := ?_) #[true, false, true, false, false, false, false, false, false, false] rfl rfl (any_of HT_.out (by kernel_rfl)) (fun _ _ _ h => h) (Or.inl ⟨by rfl, ?_⟩) ?_ ?_
                rotate_left
                · intro w'
                  go_simp
                  with_reducible rfl
                rotate_left
                · simp only [Act.put, List.setIfInBounds_toArray, List.set_cons_zero, List.set_cons_succ, i64_w, i32_w]
                  rfl
                refine pure_ (i := 3) (N := some 70) (v := ?_) (a' := ?_) #[true, false, true, true, false, false, false, false, false, false] rfl rfl (any_of HT_.out (by kernel_rfl)) (fun _ _ _ h => h) (Or.inl ⟨by rfl, ?_⟩) ?_ ?_
                rotate_left
                · intro w'
                  go_simp
                  with_reducible rfl
                rotate_left
                · simp only [Act.put, List.setIfInBounds_toArray, List.set_cons_zero, List.set_cons_succ, i64_w, i32_w]
                  rfl
                refine pure_ (i := 4) (N := some 71) (v := ?_) (a' := ?_) #[true, false, true, true, true, false, false, false, false, false] rfl rfl (any_of HT_.out (by kernel_rfl)) (fun _ _ _ h => h) (Or.inl ⟨by rfl, ?_⟩) ?_ ?_
                rotate_left
                · intro w'
                  go_simp
                  with_reducible rfl
                rotate_left
                · simp only [Act.put, List.setIfInBounds_toArray, List.set_cons_zero, List.set_cons_succ, i64_w, i32_w]
                  rfl
                refine take_ (i := 1) (N := some 68) (v := ?_) (a' := ?_) #[true, true, true, true, true, false, false, false, false, false] rfl rfl (take_ofW HT_.out HW_.out (by kernel_rfl)) (fun _ _ _ h => h) (Or.inl ⟨by rfl, ?_⟩) hHeld ?_ ?_
                rotate_left
                · rintro w' ⟨s0, s1, s2, s3, s4, s5, s6, s7⟩
                  go_simp
                  with_reducible rfl
                rotate_left
                · simp only [Act.put, List.setIfInBounds_toArray, List.set_cons_zero, List.set_cons_succ, i64_w, i32_w]
                  rfl
                refine take_ (i := 5) (N := some 72) (v := ?_) (a' := ?_) #[true, true, true, true, true, true, false, false, false, false] rfl rfl (take_ofW HT_.out HW_.out (by kernel_rfl)) (fun _ _ _ h => h) (Or.inl ⟨by rfl, ?_⟩) hHeld ?_ ?_
                rotate_left
                · rintro w' ⟨s0, s1, s2, s3, s4, s5, s6, s7⟩
                  go_simp
                  with_reducible rfl
                rotate_left
                · simp only [Act.put, List.setIfInBounds_toArray, List.set_cons_zero, List.set_cons_succ, i64_w, i32_w]
                  rfl
                refine one_ (i := 6) (N := some 73) #[true, true, true, true, true, true, true, false, false, false] rfl rfl (one_of HT_.out (by kernel_rfl)) (by decide) (fun K hK => ?_)
                refine goes_ Try.func48 (by kernel_rfl) rfl #[.agg #[.int .i64 a3_0, .int .i64 a3_1, .int .i64 a3_2, .int .i64 a3_3], .agg #[.int .i64 ((rd_T35 x13_67 x15_3).f0), .int .i64 ((rd_T35 x13_67 x15_3).f1), .int .i64 ((rd_T35 x13_67 x15_3).f2), .int .i64 ((rd_T35 x13_67 x15_3).f3)]] (by rfl) rfl rfl (by (try simp only [List.map_toArray, List.map_cons, List.map_nil]); first | done | rfl | (simp only [List.length_drop, List.length_take]; rfl)) ?_
                with_reducible refine (spec_l12Pair.calls a3_0 a3_1 a3_2 a3_3 ((rd_T35 x13_67 x15_3).f0) ((rd_T35 x13_67 x15_3).f1) ((rd_T35 x13_67 x15_3).f2) ((rd_T35 x13_67 x15_3).f3) t164 t165 t166 t167 t168 _ A98.out).mono ?_
                rintro e w104 ⟨rfl, hb⟩
                have HS4_ := (hb.cell (World.block_lt_of_cell? _ _ (hHeld.2.2.2.2.1))).trans (hHeld.2.2.2.2.1)
                have HS5_ := (hb.cell (World.block_lt_of_cell? _ _ (hHeld.2.2.2.2.2.1))).trans (hHeld.2.2.2.2.2.1)
                have HS6_ := (hb.cell (World.block_lt_of_cell? _ _ (hHeld.2.2.2.2.2.2.1))).trans (hHeld.2.2.2.2.2.2.1)
                have HS7_ := (hb.cell (World.block_lt_of_cell? _ _ (hHeld.2.2.2.2.2.2.2))).trans (hHeld.2.2.2.2.2.2.2)
                refine ⟨_, rfl, ?_⟩
                replace HO_13 := am (Kd.V_below (by (with_reducible repeat (first | apply Kd.V_alloc | apply Kd.V_drewN | apply Kd.V_drew)); exact HO_13.out) hb)
                replace HO_14 := am (Kd.R_below (rq HO_14.out) hb)
                replace HO_139000 := am (Kd.V_below (by (with_reducible repeat (first | apply Kd.V_alloc | apply Kd.V_drewN | apply Kd.V_drew)); exact HO_139000.out) hb)
                replace HO_139001 := am (Kd.V_below (by (with_reducible repeat (first | apply Kd.V_alloc | apply Kd.V_drewN | apply Kd.V_drew)); exact HO_139001.out) hb)
                replace HO_149000 := am (Kd.R_below (rq HO_149000.out) hb)
                replace HO_149001 := am (Kd.R_below (rq HO_149001.out) hb)
                replace BK138 := am (blk_below (blkq BK138.out) hb)
                replace BK139 := am (blk_below (blkq BK139.out) hb)
                replace BK140 := am (blk_below (blkq BK140.out) hb)
                replace BK148 := am (blk_below (blkq BK148.out) hb)
                replace HB := am (below_step bel hb)
                (try clear hb)
                refine hK.out _ _ ⟨(blk_cell BK139.out 0).trans rfl, (blk_cell BK139.out 1).trans rfl, (blk_cell BK139.out 2).trans rfl, (blk_cell BK139.out 3).trans rfl, HS4_, HS5_, HS6_, HS7_⟩ (fun hHeld => ?_)
                clear hK K
                refine norm_ (a' := ?_) ?_ ?_
                rotate_left
                · show Act.put _ (some 73) _ = _
                  simp only [Act.put, List.setIfInBounds_toArray, List.set_cons_zero, List.set_cons_succ, i64_w, i32_w]
                  rfl
                refine last_ (i := 7) (N := some 74) #[true, true, true, true, true, true, true, true, false, false] rfl rfl (one_of HT_.out (by kernel_rfl)) (by decide) (fun K hK => ?_)
                refine value_ (w1 := ?_) (v := ?_) (by rfl) rfl ?_ ?_
                rotate_left 2
                · go_simp
                  constructor
                  · rfl
                  · rfl
                refine hK.out _ _ ?_
                clear hK K
                refine norm_ (a' := ?_) ?_ ?_
                rotate_left
                · show Act.put _ (some 74) _ = _
                  simp only [Act.put, List.setIfInBounds_toArray, List.set_cons_zero, List.set_cons_succ, i64_w, i32_w]
                  rfl
                refine last_ (i := 8) (N := some 75) #[true, true, true, true, true, true, true, true, true, false] rfl rfl (one_of HT_.out (by kernel_rfl)) (by decide) (fun K hK => ?_)
                refine Kd.R_append_step k75 (w0 := w) w.heap.size (by rfl) (.tmp 67) (.tmp 74) 31 75 (.agg #[(.int .i64 0), (.int .i64 0), (.int .i64 0), (.int .i64 0), (.int .i64 0)]) 40 rfl Try.underlying31 info75 rfl (by decide) (by omega) u14 x14_3 (⟨t164, t165, t166, t167, t168⟩ : S75) [.int .i64 t164, .int .i64 t165, .int .i64 t166, .int .i64 t167, .int .i64 t168] (fun k_ => (w.heap.size ≤ k_)) (fun _ => False) rfl rfl ?aP (fun _ hk => hk.elim) ?aF ?aO ?aB ?aS ?aL ?_
                (case aP => exact k75_mkM _ _ _ (⟨t164, t165, t166, t167, t168⟩ : S75))
                (case aB => exact bel)
                (case aF => exact (fun k_ hk => (Nat.le_trans (below_size bel) hk)))
                (case aO => exact (rq HO_14.out))
                (case aS => exact (below_size bel))
                (case aL => have := LMc99.out; omega)
                intro v170 w105 ho hb hg hat
                rw [← Ny169.out] at ho
                replace HO_13 := am (Kd.V_afterv (ok := (fun k_ => ((P0_0_ k_ ∨ P0_1_ k_) ∨ w.heap.size ≤ k_) ∧ nb k_ (sv Ao15 t141 co15) ∧ nb k_ (sv Ao20 t144 co20) ∧ k_ ≠ gb138 ∧ k_ ≠ gb139 ∧ k_ ≠ gb140 ∧ k_ ≠ gb148)) (by (with_reducible repeat (first | apply Kd.V_alloc | apply Kd.V_drewN | apply Kd.V_drew)); exact Kd.V_mono HO_13.out (fun _ hk => ⟨⟨hk.1, ⟨hk.2.2.1, ⟨hk.2.2.2.1, ⟨hk.2.2.2.2.1, ⟨hk.2.2.2.2.2.1, ⟨hk.2.2.2.2.2.2.1, hk.2.2.2.2.2.2.2⟩⟩⟩⟩⟩⟩, hk.2.1⟩)) hg hat)
                replace HO_139000 := am (Kd.V_afterv (ok := (fun k_ => ((P0_0_ k_ ∨ P0_1_ k_) ∨ w.heap.size ≤ k_) ∧ nb k_ (sv Ao15 t141 co15) ∧ nb k_ (sv Ao20 t144 co20) ∧ k_ ≠ gb138 ∧ k_ ≠ gb139 ∧ k_ ≠ gb140 ∧ k_ ≠ gb148)) (by (with_reducible repeat (first | apply Kd.V_alloc | apply Kd.V_drewN | apply Kd.V_drew)); exact Kd.V_mono HO_139000.out (fun _ hk => ⟨⟨hk.1, ⟨hk.2.2.1, ⟨hk.2.2.2.1, ⟨hk.2.2.2.2.1, ⟨hk.2.2.2.2.2.1, ⟨hk.2.2.2.2.2.2.1, hk.2.2.2.2.2.2.2⟩⟩⟩⟩⟩⟩, hk.2.1⟩)) hg hat)
                replace HO_139001 := am (Kd.V_afterv (ok := (fun k_ => ((P0_0_ k_ ∨ P0_1_ k_) ∨ w.heap.size ≤ k_) ∧ nb k_ (sv Ao15 t141 co15) ∧ nb k_ (sv Ao20 t144 co20) ∧ k_ ≠ gb138 ∧ k_ ≠ gb139 ∧ k_ ≠ gb140 ∧ k_ ≠ gb148)) (by (with_reducible repeat (first | apply Kd.V_alloc | apply Kd.V_drewN | apply Kd.V_drew)); exact Kd.V_mono HO_139001.out (fun _ hk => ⟨⟨hk.1, ⟨hk.2.2.1, ⟨hk.2.2.2.1, ⟨hk.2.2.2.2.1, ⟨hk.2.2.2.2.2.1, ⟨hk.2.2.2.2.2.2.1, hk.2.2.2.2.2.2.2⟩⟩⟩⟩⟩⟩, hk.2.1⟩)) hg hat)
                replace HO_149000 := am (Kd.R_over' (rq HO_149000.out) (Kd.R_typed (rq HO_14.out)) (by decide) hg)
                replace HO_149001 := am (Kd.R_over' (rq HO_149001.out) (Kd.R_typed (rq HO_14.out)) (by decide) hg)
                replace BK138 := am (blk_grown (blkq BK138.out) hg (Kd.R_ne HO_14.out BK138.out (by decide)))
                replace BK139 := am (blk_grown (blkq BK139.out) hg (Kd.R_ne HO_14.out BK139.out (by decide)))
                replace BK140 := am (blk_grown (blkq BK140.out) hg (Kd.R_ne HO_14.out BK140.out (by decide)))
                replace BK148 := am (blk_grown (blkq BK148.out) hg (Kd.R_ne HO_14.out BK148.out (by decide)))
                replace HB := am (hb)
                have HO171 := am (ho)
                clear HO_14 ho hb hg hat
                refine hK.out _ _ ?_
                clear hK K
                refine norm_ (a' := ?_) ?_ ?_
                rotate_left
                · show Act.put _ (some 75) _ = _
                  simp only [Act.put, List.setIfInBounds_toArray, List.set_cons_zero, List.set_cons_succ, i64_w, i32_w]
                  rfl
                refine pure_ (i := 9) (N := some 14) (v := ?_) (a' := ?_) #[true, true, true, true, true, true, true, true, true, true] rfl rfl (any_of HT_.out (by kernel_rfl)) (fun _ _ _ h => h) (Or.inl ⟨by rfl, ?_⟩) ?_ ?_
                rotate_left
                · intro w'
                  go_simp
                  with_reducible rfl
                rotate_left
                · simp only [Act.put, List.setIfInBounds_toArray, List.set_cons_zero, List.set_cons_succ, i64_w, i32_w]
                  rfl
                refine done_ (done_of HT_.out (by kernel_rfl)) ?_
                try go_wp2
                go_roundg k3
                case measure => have := HJ5.out; have := HJ67.out; have := HK3.out; omega
                case rel => exact ⟨(y169), (wrap64 (x15_3 + 1)), (by first | rfl | (simp; done) | (simp [*]; done)), H', ⟨by have := HJ5.out; have := HJ67.out; have := HK3.out; omega⟩, ⟨by (with_reducible repeat (first | apply Kd.V_alloc | apply Kd.V_drewN | apply Kd.V_drew)); exact Kd.V_mono HO_13.out (fun _ hk => ⟨hk.1.1, ⟨hk.2, ⟨hk.1.2.1, ⟨hk.1.2.2.1, ⟨hk.1.2.2.2.1, ⟨hk.1.2.2.2.2.1, ⟨hk.1.2.2.2.2.2.1, hk.1.2.2.2.2.2.2⟩⟩⟩⟩⟩⟩⟩)⟩, ⟨by (with_reducible repeat (first | apply Kd.R_alloc | apply Kd.R_drewN | apply Kd.R_drew)); exact HO171.out⟩, ⟨by (with_reducible repeat (first | apply Kd.V_alloc | apply Kd.V_drewN | apply Kd.V_drew)); exact Kd.V_mono HO_139000.out (fun _ hk => ⟨hk.1.1, ⟨hk.2, ⟨hk.1.2.1, ⟨hk.1.2.2.1, ⟨hk.1.2.2.2.1, ⟨hk.1.2.2.2.2.1, ⟨hk.1.2.2.2.2.2.1, hk.1.2.2.2.2.2.2⟩⟩⟩⟩⟩⟩⟩)⟩, ⟨by (with_reducible repeat (first | apply Kd.V_alloc | apply Kd.V_drewN | apply Kd.V_drew)); exact Kd.V_mono HO_139001.out (fun _ hk => ⟨hk.1.1, ⟨hk.2, ⟨hk.1.2.1, ⟨hk.1.2.2.1, ⟨hk.1.2.2.2.1, ⟨hk.1.2.2.2.2.1, ⟨hk.1.2.2.2.2.2.1, hk.1.2.2.2.2.2.2⟩⟩⟩⟩⟩⟩⟩)⟩, ⟨by (with_reducible repeat (first | apply Kd.R_alloc | apply Kd.R_drewN | apply Kd.R_drew)); exact HO_149000.out⟩, ⟨by (with_reducible repeat (first | apply Kd.R_alloc | apply Kd.R_drewN | apply Kd.R_drew)); exact HO_149001.out⟩, ⟨by (with_reducible repeat (first | refine blk_drewN ?_ _ | refine blk_drew ?_ | refine blk_alloc ?_ _)); exact BK138.out⟩, ⟨by (with_reducible repeat (first | refine blk_drewN ?_ _ | refine blk_drew ?_ | refine blk_alloc ?_ _)); exact BK139.out⟩, ⟨by (with_reducible repeat (first | refine blk_drewN ?_ _ | refine blk_drew ?_ | refine blk_alloc ?_ _)); exact BK140.out⟩, ⟨by (with_reducible repeat (first | refine blk_drewN ?_ _ | refine blk_drew ?_ | refine blk_alloc ?_ _)); exact BK148.out⟩, ⟨by repeat (first | (with_reducible first | exact HB.out | apply below_alloc | apply pw_below_drewN | apply below_drew1 | refine below_set ?_ GE138.out | refine below_set ?_ GE139.out | refine below_set ?_ GE140.out | refine below_set ?_ GE148.out) | exact HB.out)⟩⟩
              replace c97 := Bool.eq_false_iff.mpr c97
              subst c97
              have H1 : ((spec_l12Pair.f ((rd_T35 x13_67 x15_3).f0) ((rd_T35 x13_67 x15_3).f1) ((rd_T35 x13_67 x15_3).f2) ((rd_T35 x13_67 x15_3).f3) a3_0 a3_1 a3_2 a3_3).bind fun bt173 => (if x14_3.length < 3518437208883 then (spec_AddJoin.l0 k3 a1 false x13_67 (x14_3 ++ [(⟨bt173.1, bt173.2.1, bt173.2.2.1, bt173.2.2.2.1, bt173.2.2.2.2⟩ : S75)]) (wrap64 (x15_3 + 1)) a3_0 a3_1 a3_2 a3_3 t141 t144 t147) else (none))) = some (r1, r2, r3, r4, r5) := by rw [if_neg (show ¬ (false = true) by decide)] at H; exact H
              clear H
              have H := H1
              clear H1
              replace H := Option.bind_eq_some_iff.mp H
              obtain ⟨⟨t173, t174, t175, t176, t177⟩, A1060, H⟩ := H
              (try dsimp only at H)
              have A106 := Aside0.mk A1060
              clear A1060
              by_cases c107 : x14_3.length < 3518437208883
              rotate_left
              · rw [if_neg c107] at H
                exact absurd H (by simp)
              rw [if_pos c107] at H
              have LMc107 := Aside0.mk c107
              clear c107
              obtain ⟨y178, hy178⟩ : ∃ y_ : List (S75), y_ = (x14_3 ++ [(⟨t173, t174, t175, t176, t177⟩ : S75)]) := ⟨_, rfl⟩
              replace H : (spec_AddJoin.l0 k3 a1 false x13_67 y178 (wrap64 (x15_3 + 1)) a3_0 a3_1 a3_2 a3_3 t141 t144 t147) = some (r1, r2, r3, r4, r5) := by first | (rw [hy178]; with_reducible exact H) | (have H2_ := (Option.bind_some _ _).symm.trans H; rw [hy178]; with_reducible exact H2_) | (have H2_ := (Option.bind_some _ _).symm.trans H; with_reducible exact H2_) | with_reducible exact H | (rw [hy178]; exact H) | exact H
              have Ny178 := Aside0.mk hy178
              clear hy178
              have H' := Aside0.mk H
              clear H
              obtain ⟨Ao108, co108, eo108⟩ := Kd.V_slice HO_13.out
              subst eo108
              try go_wp2
              replace HO_13 := am (Kd.V_drew HO_13.out)
              replace HO_14 := am (Kd.R_drew HO_14.out)
              replace HO_139000 := am (Kd.V_drew HO_139000.out)
              replace HO_139001 := am (Kd.V_drew HO_139001.out)
              replace HO_149000 := am (Kd.R_drew HO_149000.out)
              replace HO_149001 := am (Kd.R_drew HO_149001.out)
              replace BK138 := am (blk_drew BK138.out)
              replace BK139 := am (blk_drew BK139.out)
              replace BK140 := am (blk_drew BK140.out)
              replace BK148 := am (blk_drew BK148.out)
              replace HB := am (below_drew1 HB.out)
              have p161 : 0 ≤ (x15_3 : Int) := of_decide_eq_true (by first | (with_reducible assumption) | assumption)
              have q161 : x15_3 < (x13_67.length : Int) := of_decide_eq_true (by first | (with_reducible assumption) | assumption)
              obtain ⟨ad161, e161, hx161_0, hx161_1, hx161_2, hx161_3⟩ := at_T35 (Kd.V_reads' HO_13.out).2.2 x15_3 p161 q161
              cases e161
              replace p161 := eq_true p161
              replace q161 := eq_true q161
              refine start_ (n := 8) (S := fun w' => w'.cell? ⟨gb139, 0, none⟩ = some (.int .i64 a3_0) ∧ w'.cell? ⟨gb139, 1, none⟩ = some (.int .i64 a3_1) ∧ w'.cell? ⟨gb139, 2, none⟩ = some (.int .i64 a3_2) ∧ w'.cell? ⟨gb139, 3, none⟩ = some (.int .i64 a3_3) ∧ w'.cell? (ad161.add ((x15_3).toNat * 4)) = some (.int .i64 ((rd_T35 x13_67 x15_3).f0)) ∧ w'.cell? ⟨(ad161.add ((x15_3).toNat * 4)).block, (ad161.add ((x15_3).toNat * 4)).off + 1, none⟩ = some (.int .i64 ((rd_T35 x13_67 x15_3).f1)) ∧ w'.cell? ⟨(ad161.add ((x15_3).toNat * 4)).block, (ad161.add ((x15_3).toNat * 4)).off + 2, none⟩ = some (.int .i64 ((rd_T35 x13_67 x15_3).f2)) ∧ w'.cell? ⟨(ad161.add ((x15_3).toNat * 4)).block, (ad161.add ((x15_3).toNat * 4)).off + 3, none⟩ = some (.int .i64 ((rd_T35 x13_67 x15_3).f3))) (ds := []) #[false, false, false, false, false, false, false, false] (by kernel_rfl) rfl rfl ⟨(blk_cell BK139.out 0).trans rfl, (blk_cell BK139.out 1).trans rfl, (blk_cell BK139.out 2).trans rfl, (blk_cell BK139.out 3).trans rfl, hx161_0, hx161_1, hx161_2, hx161_3⟩ (fun hHeld => ?_); refine with_tabW spec_AddJoin.tab17 spec_AddJoin.bits17 (fun HT_ HW_ => ?_)
              generalize wr.drew = w109 at HO_13 HO_14 HO_139000 HO_139001 HO_149000 HO_149001 BK138 BK139 BK140 BK148 HB hx161_0 hx161_1 hx161_2 hx161_3 hHeld ⊢
              refine pure_ (i := 1) (N := some 59) (v := ?_) (a' := ?_) #[false, true, false, false, false, false, false, false] rfl rfl (any_of HT_.out (by kernel_rfl)) (fun _ _ _ h => h) (Or.inl ⟨by rfl, ?_⟩) ?_ ?_
              rotate_left
              · intro w'
                go_simp
                with_reducible rfl
              rotate_left
              · simp only [Act.put, List.setIfInBounds_toArray, List.set_cons_zero, List.set_cons_succ, i64_w, i32_w]
                rfl
              refine pure_ (i := 2) (N := some 60) (v := ?_) (a' := ?_) #[false, true, true, false, false, false, false, false] rfl rfl (any_of HT_.out (by kernel_rfl)) (fun _ _ _ h => h) (Or.inl ⟨by rfl, ?_⟩) ?_ ?_
              rotate_left
              · intro w'
                go_simp
                with_reducible rfl
              rotate_left
              · simp only [Act.put, List.setIfInBounds_toArray, List.set_cons_zero, List.set_cons_succ, i64_w, i32_w]
                rfl
              refine pure_ (i := 3) (N := some 61) (v := ?_) (a' := ?_) #[false, true, true, true, false, false, false, false] rfl rfl (any_of HT_.out (by kernel_rfl)) (fun _ _ _ h => h) (Or.inl ⟨by rfl, ?_⟩) ?_ ?_
              rotate_left
              · intro w'
                go_simp
                with_reducible rfl
              rotate_left
              · simp only [Act.put, List.setIfInBounds_toArray, List.set_cons_zero, List.set_cons_succ, i64_w, i32_w]
                rfl
              refine pure_ (i := 5) (N := some 63) (v := ?_) (a' := ?_) #[false, true, true, true, false, true, false, false] rfl rfl (any_of HT_.out (by kernel_rfl)) (fun _ _ _ h => h) (Or.inl ⟨by rfl, ?_⟩) ?_ ?_
              rotate_left
              · intro w'
                go_simp
                with_reducible rfl
              rotate_left
              · simp only [Act.put, List.setIfInBounds_toArray, List.set_cons_zero, List.set_cons_succ, i64_w, i32_w]
                rfl
              refine take_ (i := 0) (N := some 58) (v := ?_) (a' := ?_) #[true, true, true, true, false, true, false, false] rfl rfl (take_ofW HT_.out HW_.out (by kernel_rfl)) (fun _ _ _ h => h) (Or.inl ⟨by rfl, ?_⟩) hHeld ?_ ?_
              rotate_left
              · rintro w' ⟨s0, s1, s2, s3, s4, s5, s6, s7⟩
                go_simp
                with_reducible rfl
              rotate_left
              · simp only [Act.put, List.setIfInBounds_toArray, List.set_cons_zero, List.set_cons_succ, i64_w, i32_w]
                rfl
              refine take_ (i := 4) (N := some 62) (v := ?_) (a' := ?_) #[true, true, true, true, true, true, false, false] rfl rfl (take_ofW HT_.out HW_.out (by kernel_rfl)) (fun _ _ _ h => h) (Or.inl ⟨by rfl, ?_⟩) hHeld ?_ ?_
              rotate_left
              · rintro w' ⟨s0, s1, s2, s3, s4, s5, s6, s7⟩
                go_simp
                with_reducible rfl
              rotate_left
              · simp only [Act.put, List.setIfInBounds_toArray, List.set_cons_zero, List.set_cons_succ, i64_w, i32_w]
                rfl
              refine one_ (i := 6) (N := some 64) #[true, true, true, true, true, true, true, false] rfl rfl (one_of HT_.out (by kernel_rfl)) (by decide) (fun K hK => ?_)
              refine goes_ Try.func47 (by kernel_rfl) rfl #[.agg #[.int .i64 a3_0, .int .i64 a3_1, .int .i64 a3_2, .int .i64 a3_3], .agg #[.int .i64 ((rd_T35 x13_67 x15_3).f0), .int .i64 ((rd_T35 x13_67 x15_3).f1), .int .i64 ((rd_T35 x13_67 x15_3).f2), .int .i64 ((rd_T35 x13_67 x15_3).f3)], .int .i64 a1] (by rfl) rfl rfl (by (try simp only [List.map_toArray, List.map_cons, List.map_nil]); first | done | rfl | (simp only [List.length_drop, List.length_take]; rfl)) ?_
              with_reducible refine (spec_l12Meet.calls a3_0 a3_1 a3_2 a3_3 ((rd_T35 x13_67 x15_3).f0) ((rd_T35 x13_67 x15_3).f1) ((rd_T35 x13_67 x15_3).f2) ((rd_T35 x13_67 x15_3).f3) a1 true _ A95.out).mono ?_
              rintro e w110 ⟨rfl, hb⟩
              have HS4_ := (hb.cell (World.block_lt_of_cell? _ _ (hHeld.2.2.2.2.1))).trans (hHeld.2.2.2.2.1)
              have HS5_ := (hb.cell (World.block_lt_of_cell? _ _ (hHeld.2.2.2.2.2.1))).trans (hHeld.2.2.2.2.2.1)
              have HS6_ := (hb.cell (World.block_lt_of_cell? _ _ (hHeld.2.2.2.2.2.2.1))).trans (hHeld.2.2.2.2.2.2.1)
              have HS7_ := (hb.cell (World.block_lt_of_cell? _ _ (hHeld.2.2.2.2.2.2.2))).trans (hHeld.2.2.2.2.2.2.2)
              refine ⟨_, rfl, ?_⟩
              replace HO_13 := am (Kd.V_below (by (with_reducible repeat (first | apply Kd.V_alloc | apply Kd.V_drewN | apply Kd.V_drew)); exact HO_13.out) hb)
              replace HO_14 := am (Kd.R_below (rq HO_14.out) hb)
              replace HO_139000 := am (Kd.V_below (by (with_reducible repeat (first | apply Kd.V_alloc | apply Kd.V_drewN | apply Kd.V_drew)); exact HO_139000.out) hb)
              replace HO_139001 := am (Kd.V_below (by (with_reducible repeat (first | apply Kd.V_alloc | apply Kd.V_drewN | apply Kd.V_drew)); exact HO_139001.out) hb)
              replace HO_149000 := am (Kd.R_below (rq HO_149000.out) hb)
              replace HO_149001 := am (Kd.R_below (rq HO_149001.out) hb)
              replace BK138 := am (blk_below (blkq BK138.out) hb)
              replace BK139 := am (blk_below (blkq BK139.out) hb)
              replace BK140 := am (blk_below (blkq BK140.out) hb)
              replace BK148 := am (blk_below (blkq BK148.out) hb)
              replace HB := am (below_step bel hb)
              (try clear hb)
              refine hK.out _ _ ⟨(blk_cell BK139.out 0).trans rfl, (blk_cell BK139.out 1).trans rfl, (blk_cell BK139.out 2).trans rfl, (blk_cell BK139.out 3).trans rfl, HS4_, HS5_, HS6_, HS7_⟩ (fun hHeld => ?_)
              clear hK K
              refine norm_ (a' := ?_) ?_ ?_
              rotate_left
              · show Act.put _ (some 64) _ = _
                simp only [Act.put, List.setIfInBounds_toArray, List.set_cons_zero, List.set_cons_succ, i64_w, i32_w]
                rfl
              refine pure_ (i := 7) (N := some 65) (v := ?_) (a' := ?_) #[true, true, true, true, true, true, true, true] rfl rfl (any_of HT_.out (by kernel_rfl)) (fun _ _ _ h => h) (Or.inl ⟨by rfl, ?_⟩) ?_ ?_
              rotate_left
              · intro w'
                go_simp
                with_reducible rfl
              rotate_left
              · simp only [Act.put, List.setIfInBounds_toArray, List.set_cons_zero, List.set_cons_succ, i64_w, i32_w]
                rfl
              refine done_ (done_of HT_.out (by kernel_rfl)) ?_
              try go_wp2
              replace HO_13 := am (Kd.V_drew HO_13.out)
              replace HO_14 := am (Kd.R_drew HO_14.out)
              replace HO_139000 := am (Kd.V_drew HO_139000.out)
              replace HO_139001 := am (Kd.V_drew HO_139001.out)
              replace HO_149000 := am (Kd.R_drew HO_149000.out)
              replace HO_149001 := am (Kd.R_drew HO_149001.out)
              replace BK138 := am (blk_drew BK138.out)
              replace BK139 := am (blk_drew BK139.out)
              replace BK140 := am (blk_drew BK140.out)
              replace BK148 := am (blk_drew BK148.out)
              replace HB := am (below_drew1 HB.out)
              have p172 : 0 ≤ (x15_3 : Int) := of_decide_eq_true (by first | (with_reducible assumption) | assumption)
              have q172 : x15_3 < (x13_67.length : Int) := of_decide_eq_true (by first | (with_reducible assumption) | assumption)
              obtain ⟨ad172, e172, hx172_0, hx172_1, hx172_2, hx172_3⟩ := at_T35 (Kd.V_reads' HO_13.out).2.2 x15_3 p172 q172
              obtain rfl : ad161 = ad172 := (by injection e172)
              replace p172 := eq_true p172
              replace q172 := eq_true q172
              refine start_ (n := 10) (S := fun w' => w'.cell? ⟨gb139, 0, none⟩ = some (.int .i64 a3_0) ∧ w'.cell? ⟨gb139, 1, none⟩ = some (.int .i64 a3_1) ∧ w'.cell? ⟨gb139, 2, none⟩ = some (.int .i64 a3_2) ∧ w'.cell? ⟨gb139, 3, none⟩ = some (.int .i64 a3_3) ∧ w'.cell? (ad161.add ((x15_3).toNat * 4)) = some (.int .i64 ((rd_T35 x13_67 x15_3).f0)) ∧ w'.cell? ⟨(ad161.add ((x15_3).toNat * 4)).block, (ad161.add ((x15_3).toNat * 4)).off + 1, none⟩ = some (.int .i64 ((rd_T35 x13_67 x15_3).f1)) ∧ w'.cell? ⟨(ad161.add ((x15_3).toNat * 4)).block, (ad161.add ((x15_3).toNat * 4)).off + 2, none⟩ = some (.int .i64 ((rd_T35 x13_67 x15_3).f2)) ∧ w'.cell? ⟨(ad161.add ((x15_3).toNat * 4)).block, (ad161.add ((x15_3).toNat * 4)).off + 3, none⟩ = some (.int .i64 ((rd_T35 x13_67 x15_3).f3))) (ds := [7, 8]) #[false, false, false, false, false, false, false, false, false, false] (by kernel_rfl) rfl rfl ⟨(blk_cell BK139.out 0).trans rfl, (blk_cell BK139.out 1).trans rfl, (blk_cell BK139.out 2).trans rfl, (blk_cell BK139.out 3).trans rfl, hx172_0, hx172_1, hx172_2, hx172_3⟩ (fun hHeld => ?_); refine with_tabW spec_AddJoin.tab20 spec_AddJoin.bits20 (fun HT_ HW_ => ?_)
              generalize w110.drew = w111 at HO_13 HO_14 HO_139000 HO_139001 HO_149000 HO_149001 BK138 BK139 BK140 BK148 HB hx172_0 hx172_1 hx172_2 hx172_3 hHeld ⊢
              refine pure_ (i := 0) (N := some 76) (v := ?_) (a' := ?_) #[true, false, false, false, false, false, false, false, false, false] rfl rfl (any_of HT_.out (by kernel_rfl)) (fun _ _ _ h => h) (Or.inl ⟨by rfl, ?_⟩) ?_ ?_
              rotate_left
              · intro w'
                go_simp
                with_reducible rfl
              rotate_left
              · simp only [Act.put, List.setIfInBounds_toArray, List.set_cons_zero, List.set_cons_succ, i64_w, i32_w]
                rfl
              refine pure_ (i := 1) (N := some 77) (v := ?_) (a' := ?_) #[true, true, false, false, false, false, false, false, false, false] rfl rfl (any_of HT_.out (by kernel_rfl)) (fun _ _ _ h => h) (Or.inl ⟨by rfl, ?_⟩) ?_ ?_
              rotate_left
              · intro w'
                go_simp
                with_reducible rfl
              rotate_left
              · simp only [Act.put, List.setIfInBounds_toArray, List.set_cons_zero, List.set_cons_succ, i64_w, i32_w]
                rfl
              refine pure_ (i := 2) (N := some 78) (v := ?_) (a' := ?_) #[true, true, true, false, false, false, false, false, false, false] rfl rfl (any_of HT_.out (by kernel_rfl)) (fun _ _ _ h => h) (Or.inl ⟨by rfl, ?_⟩) ?_ ?_
              rotate_left
              · intro w'
                go_simp
                with_reducible rfl
              rotate_left
              · simp only [Act.put, List.setIfInBounds_toArray, List.set_cons_zero, List.set_cons_succ, i64_w, i32_w]
                rfl
              refine pure_ (i := 3) (N := some 79) (v := ?_) (a' := ?_) #[true, true, true, true, false, false, false, false, false, false] rfl rfl (any_of HT_.out (by kernel_rfl)) (fun _ _ _ h => h) (Or.inl ⟨by rfl, ?_⟩) ?_ ?_
              rotate_left
              · intro w'
                go_simp
                with_reducible rfl
              rotate_left
              · simp only [Act.put, List.setIfInBounds_toArray, List.set_cons_zero, List.set_cons_succ, i64_w, i32_w]
                rfl
              refine take_ (i := 4) (N := some 80) (v := ?_) (a' := ?_) #[true, true, true, true, true, false, false, false, false, false] rfl rfl (take_ofW HT_.out HW_.out (by kernel_rfl)) (fun _ _ _ h => h) (Or.inl ⟨by rfl, ?_⟩) hHeld ?_ ?_
              rotate_left
              · rintro w' ⟨s0, s1, s2, s3, s4, s5, s6, s7⟩
                go_simp
                with_reducible rfl
              rotate_left
              · simp only [Act.put, List.setIfInBounds_toArray, List.set_cons_zero, List.set_cons_succ, i64_w, i32_w]
                rfl
              refine take_ (i := 5) (N := some 81) (v := ?_) (a' := ?_) #[true, true, true, true, true, true, false, false, false, false] rfl rfl (take_ofW HT_.out HW_.out (by kernel_rfl)) (fun _ _ _ h => h) (Or.inl ⟨by rfl, ?_⟩) hHeld ?_ ?_
              rotate_left
              · rintro w' ⟨s0, s1, s2, s3, s4, s5, s6, s7⟩
                go_simp
                with_reducible rfl
              rotate_left
              · simp only [Act.put, List.setIfInBounds_toArray, List.set_cons_zero, List.set_cons_succ, i64_w, i32_w]
                rfl
              refine one_ (i := 6) (N := some 82) #[true, true, true, true, true, true, true, false, false, false] rfl rfl (one_of HT_.out (by kernel_rfl)) (by decide) (fun K hK => ?_)
              refine goes_ Try.func48 (by kernel_rfl) rfl #[.agg #[.int .i64 ((rd_T35 x13_67 x15_3).f0), .int .i64 ((rd_T35 x13_67 x15_3).f1), .int .i64 ((rd_T35 x13_67 x15_3).f2), .int .i64 ((rd_T35 x13_67 x15_3).f3)], .agg #[.int .i64 a3_0, .int .i64 a3_1, .int .i64 a3_2, .int .i64 a3_3]] (by rfl) rfl rfl (by (try simp only [List.map_toArray, List.map_cons, List.map_nil]); first | done | rfl | (simp only [List.length_drop, List.length_take]; rfl)) ?_
              with_reducible refine (spec_l12Pair.calls ((rd_T35 x13_67 x15_3).f0) ((rd_T35 x13_67 x15_3).f1) ((rd_T35 x13_67 x15_3).f2) ((rd_T35 x13_67 x15_3).f3) a3_0 a3_1 a3_2 a3_3 t173 t174 t175 t176 t177 _ A106.out).mono ?_
              rintro e w112 ⟨rfl, hb⟩
              have HS4_ := (hb.cell (World.block_lt_of_cell? _ _ (hHeld.2.2.2.2.1))).trans (hHeld.2.2.2.2.1)
              have HS5_ := (hb.cell (World.block_lt_of_cell? _ _ (hHeld.2.2.2.2.2.1))).trans (hHeld.2.2.2.2.2.1)
              have HS6_ := (hb.cell (World.block_lt_of_cell? _ _ (hHeld.2.2.2.2.2.2.1))).trans (hHeld.2.2.2.2.2.2.1)
              have HS7_ := (hb.cell (World.block_lt_of_cell? _ _ (hHeld.2.2.2.2.2.2.2))).trans (hHeld.2.2.2.2.2.2.2)
              refine ⟨_, rfl, ?_⟩
              replace HO_13 := am (Kd.V_below (by (with_reducible repeat (first | apply Kd.V_alloc | apply Kd.V_drewN | apply Kd.V_drew)); exact HO_13.out) hb)
              replace HO_14 := am (Kd.R_below (rq HO_14.out) hb)
              replace HO_139000 := am (Kd.V_below (by (with_reducible repeat (first | apply Kd.V_alloc | apply Kd.V_drewN | apply Kd.V_drew)); exact HO_139000.out) hb)
              replace HO_139001 := am (Kd.V_below (by (with_reducible repeat (first | apply Kd.V_alloc | apply Kd.V_drewN | apply Kd.V_drew)); exact HO_139001.out) hb)
              replace HO_149000 := am (Kd.R_below (rq HO_149000.out) hb)
              replace HO_149001 := am (Kd.R_below (rq HO_149001.out) hb)
              replace BK138 := am (blk_below (blkq BK138.out) hb)
              replace BK139 := am (blk_below (blkq BK139.out) hb)
              replace BK140 := am (blk_below (blkq BK140.out) hb)
              replace BK148 := am (blk_below (blkq BK148.out) hb)
              replace HB := am (below_step bel hb)
              (try clear hb)
              refine hK.out _ _ ⟨(blk_cell BK139.out 0).trans rfl, (blk_cell BK139.out 1).trans rfl, (blk_cell BK139.out 2).trans rfl, (blk_cell BK139.out 3).trans rfl, HS4_, HS5_, HS6_, HS7_⟩ (fun hHeld => ?_)
              clear hK K
              refine norm_ (a' := ?_) ?_ ?_
              rotate_left
              · show Act.put _ (some 82) _ = _
                simp only [Act.put, List.setIfInBounds_toArray, List.set_cons_zero, List.set_cons_succ, i64_w, i32_w]
                rfl
              refine last_ (i := 7) (N := some 83) #[true, true, true, true, true, true, true, true, false, false] rfl rfl (one_of HT_.out (by kernel_rfl)) (by decide) (fun K hK => ?_)
              refine value_ (w1 := ?_) (v := ?_) (by rfl) rfl ?_ ?_
              rotate_left 2
              · go_simp
                constructor
                · rfl
                · rfl
              refine hK.out _ _ ?_
              clear hK K
              refine norm_ (a' := ?_) ?_ ?_
              rotate_left
              · show Act.put _ (some 83) _ = _
                simp only [Act.put, List.setIfInBounds_toArray, List.set_cons_zero, List.set_cons_succ, i64_w, i32_w]
                rfl
              refine last_ (i := 8) (N := some 84) #[true, true, true, true, true, true, true, true, true, false] rfl rfl (one_of HT_.out (by kernel_rfl)) (by decide) (fun K hK => ?_)
              refine Kd.R_append_step k75 (w0 := w) w.heap.size (by rfl) (.tmp 76) (.tmp 83) 31 75 (.agg #[(.int .i64 0), (.int .i64 0), (.int .i64 0), (.int .i64 0), (.int .i64 0)]) 40 rfl Try.underlying31 info75 rfl (by decide) (by omega) u14 x14_3 (⟨t173, t174, t175, t176, t177⟩ : S75) [.int .i64 t173, .int .i64 t174, .int .i64 t175, .int .i64 t176, .int .i64 t177] (fun k_ => (w.heap.size ≤ k_)) (fun _ => False) rfl rfl ?aP (fun _ hk => hk.elim) ?aF ?aO ?aB ?aS ?aL ?_
              (case aP => exact k75_mkM _ _ _ (⟨t173, t174, t175, t176, t177⟩ : S75))
              (case aB => exact bel)
              (case aF => exact (fun k_ hk => (Nat.le_trans (below_size bel) hk)))
              (case aO => exact (rq HO_14.out))
              (case aS => exact (below_size bel))
              (case aL => have := LMc107.out; omega)
              intro v179 w113 ho hb hg hat
              rw [← Ny178.out] at ho
              replace HO_13 := am (Kd.V_afterv (ok := (fun k_ => ((P0_0_ k_ ∨ P0_1_ k_) ∨ w.heap.size ≤ k_) ∧ nb k_ (sv Ao15 t141 co15) ∧ nb k_ (sv Ao20 t144 co20) ∧ k_ ≠ gb138 ∧ k_ ≠ gb139 ∧ k_ ≠ gb140 ∧ k_ ≠ gb148)) (by (with_reducible repeat (first | apply Kd.V_alloc | apply Kd.V_drewN | apply Kd.V_drew)); exact Kd.V_mono HO_13.out (fun _ hk => ⟨⟨hk.1, ⟨hk.2.2.1, ⟨hk.2.2.2.1, ⟨hk.2.2.2.2.1, ⟨hk.2.2.2.2.2.1, ⟨hk.2.2.2.2.2.2.1, hk.2.2.2.2.2.2.2⟩⟩⟩⟩⟩⟩, hk.2.1⟩)) hg hat)
              replace HO_139000 := am (Kd.V_afterv (ok := (fun k_ => ((P0_0_ k_ ∨ P0_1_ k_) ∨ w.heap.size ≤ k_) ∧ nb k_ (sv Ao15 t141 co15) ∧ nb k_ (sv Ao20 t144 co20) ∧ k_ ≠ gb138 ∧ k_ ≠ gb139 ∧ k_ ≠ gb140 ∧ k_ ≠ gb148)) (by (with_reducible repeat (first | apply Kd.V_alloc | apply Kd.V_drewN | apply Kd.V_drew)); exact Kd.V_mono HO_139000.out (fun _ hk => ⟨⟨hk.1, ⟨hk.2.2.1, ⟨hk.2.2.2.1, ⟨hk.2.2.2.2.1, ⟨hk.2.2.2.2.2.1, ⟨hk.2.2.2.2.2.2.1, hk.2.2.2.2.2.2.2⟩⟩⟩⟩⟩⟩, hk.2.1⟩)) hg hat)
              replace HO_139001 := am (Kd.V_afterv (ok := (fun k_ => ((P0_0_ k_ ∨ P0_1_ k_) ∨ w.heap.size ≤ k_) ∧ nb k_ (sv Ao15 t141 co15) ∧ nb k_ (sv Ao20 t144 co20) ∧ k_ ≠ gb138 ∧ k_ ≠ gb139 ∧ k_ ≠ gb140 ∧ k_ ≠ gb148)) (by (with_reducible repeat (first | apply Kd.V_alloc | apply Kd.V_drewN | apply Kd.V_drew)); exact Kd.V_mono HO_139001.out (fun _ hk => ⟨⟨hk.1, ⟨hk.2.2.1, ⟨hk.2.2.2.1, ⟨hk.2.2.2.2.1, ⟨hk.2.2.2.2.2.1, ⟨hk.2.2.2.2.2.2.1, hk.2.2.2.2.2.2.2⟩⟩⟩⟩⟩⟩, hk.2.1⟩)) hg hat)
              replace HO_149000 := am (Kd.R_over' (rq HO_149000.out) (Kd.R_typed (rq HO_14.out)) (by decide) hg)
              replace HO_149001 := am (Kd.R_over' (rq HO_149001.out) (Kd.R_typed (rq HO_14.out)) (by decide) hg)
              replace BK138 := am (blk_grown (blkq BK138.out) hg (Kd.R_ne HO_14.out BK138.out (by decide)))
              replace BK139 := am (blk_grown (blkq BK139.out) hg (Kd.R_ne HO_14.out BK139.out (by decide)))
              replace BK140 := am (blk_grown (blkq BK140.out) hg (Kd.R_ne HO_14.out BK140.out (by decide)))
              replace BK148 := am (blk_grown (blkq BK148.out) hg (Kd.R_ne HO_14.out BK148.out (by decide)))
              replace HB := am (hb)
              have HO180 := am (ho)
              clear HO_14 ho hb hg hat
              refine hK.out _ _ ?_
              clear hK K
              refine norm_ (a' := ?_) ?_ ?_
              rotate_left
              · show Act.put _ (some 84) _ = _
                simp only [Act.put, List.setIfInBounds_toArray, List.set_cons_zero, List.set_cons_succ, i64_w, i32_w]
                rfl
              refine pure_ (i := 9) (N := some 14) (v := ?_) (a' := ?_) #[true, true, true, true, true, true, true, true, true, true] rfl rfl (any_of HT_.out (by kernel_rfl)) (fun _ _ _ h => h) (Or.inl ⟨by rfl, ?_⟩) ?_ ?_
              rotate_left
              · intro w'
                go_simp
                with_reducible rfl
              rotate_left
              · simp only [Act.put, List.setIfInBounds_toArray, List.set_cons_zero, List.set_cons_succ, i64_w, i32_w]
                rfl
              refine done_ (done_of HT_.out (by kernel_rfl)) ?_
              try go_wp2
              go_roundg k3
              case measure => have := HJ5.out; have := HJ67.out; have := HK3.out; omega
              case rel => exact ⟨(y178), (wrap64 (x15_3 + 1)), (by first | rfl | (simp; done) | (simp [*]; done)), H', ⟨by have := HJ5.out; have := HJ67.out; have := HK3.out; omega⟩, ⟨by (with_reducible repeat (first | apply Kd.V_alloc | apply Kd.V_drewN | apply Kd.V_drew)); exact Kd.V_mono HO_13.out (fun _ hk => ⟨hk.1.1, ⟨hk.2, ⟨hk.1.2.1, ⟨hk.1.2.2.1, ⟨hk.1.2.2.2.1, ⟨hk.1.2.2.2.2.1, ⟨hk.1.2.2.2.2.2.1, hk.1.2.2.2.2.2.2⟩⟩⟩⟩⟩⟩⟩)⟩, ⟨by (with_reducible repeat (first | apply Kd.R_alloc | apply Kd.R_drewN | apply Kd.R_drew)); exact HO180.out⟩, ⟨by (with_reducible repeat (first | apply Kd.V_alloc | apply Kd.V_drewN | apply Kd.V_drew)); exact Kd.V_mono HO_139000.out (fun _ hk => ⟨hk.1.1, ⟨hk.2, ⟨hk.1.2.1, ⟨hk.1.2.2.1, ⟨hk.1.2.2.2.1, ⟨hk.1.2.2.2.2.1, ⟨hk.1.2.2.2.2.2.1, hk.1.2.2.2.2.2.2⟩⟩⟩⟩⟩⟩⟩)⟩, ⟨by (with_reducible repeat (first | apply Kd.V_alloc | apply Kd.V_drewN | apply Kd.V_drew)); exact Kd.V_mono HO_139001.out (fun _ hk => ⟨hk.1.1, ⟨hk.2, ⟨hk.1.2.1, ⟨hk.1.2.2.1, ⟨hk.1.2.2.2.1, ⟨hk.1.2.2.2.2.1, ⟨hk.1.2.2.2.2.2.1, hk.1.2.2.2.2.2.2⟩⟩⟩⟩⟩⟩⟩)⟩, ⟨by (with_reducible repeat (first | apply Kd.R_alloc | apply Kd.R_drewN | apply Kd.R_drew)); exact HO_149000.out⟩, ⟨by (with_reducible repeat (first | apply Kd.R_alloc | apply Kd.R_drewN | apply Kd.R_drew)); exact HO_149001.out⟩, ⟨by (with_reducible repeat (first | refine blk_drewN ?_ _ | refine blk_drew ?_ | refine blk_alloc ?_ _)); exact BK138.out⟩, ⟨by (with_reducible repeat (first | refine blk_drewN ?_ _ | refine blk_drew ?_ | refine blk_alloc ?_ _)); exact BK139.out⟩, ⟨by (with_reducible repeat (first | refine blk_drewN ?_ _ | refine blk_drew ?_ | refine blk_alloc ?_ _)); exact BK140.out⟩, ⟨by (with_reducible repeat (first | refine blk_drewN ?_ _ | refine blk_drew ?_ | refine blk_alloc ?_ _)); exact BK148.out⟩, ⟨by repeat (first | (with_reducible first | exact HB.out | apply below_alloc | apply pw_below_drewN | apply below_drew1 | refine below_set ?_ GE138.out | refine below_set ?_ GE139.out | refine below_set ?_ GE140.out | refine below_set ?_ GE148.out) | exact HB.out)⟩⟩
end Go.Proofs.Ythjdjknlcknkdaa.K
namespace Go.Proofs.Ythjdjknlcknkdaa.K
open Go.RowKit Go.Proofs.YthjdjknlcknkdaaW.PrintWords Go.Proofs.YthjdjknlcknkdaaW.PrintLast Go.Proofs.YthjdjknlcknkdaaW.PrintMore Go.Proofs.YthjdjknlcknkdaaV
attribute [local go_sem] isSome_setCell max2_int min2_int max_two min_two max_three min_three max_four min_four   
set_option linter.unusedVariables false
set_option linter.unusedSimpArgs false
def laws_toFrame.f (a0_0 : Int) (a0_1 : Int) (a0_2 : Int) (a0_3 : Int) : Option (Int × Int × Int × Int) := some (a0_0, a0_1, a0_2, a0_3)
set_option maxHeartbeats 8000000 in
set_option maxRecDepth 100000 in
theorem laws_toFrame.calls (a0_0 : Int) (a0_1 : Int) (a0_2 : Int) (a0_3 : Int) (r1 : Int) (r2 : Int) (r3 : Int) (r4 : Int) (w : World) (h : laws_toFrame.f a0_0 a0_1 a0_2 a0_3 = some (r1, r2, r3, r4)) :
    Calls Try.prog 11 #[.agg #[.int .i64 a0_0, .int .i64 a0_1, .int .i64 a0_2, .int .i64 a0_3]] w fun e w' => e = .returned (.agg #[.int .i64 r1, .int .i64 r2, .int .i64 r3, .int .i64 r4]) ∧ Below w.heap.size w w' := by
  have hu26 := Try.underlying26
  have hu35 := Try.underlying35
  have HB := am (Below.refl w.heap.size w)
  have H : (some (a0_0, a0_1, a0_2, a0_3)) = some (r1, r2, r3, r4) := h
  clear h
  simp only [Option.some.injEq, Prod.mk.injEq] at H
  obtain ⟨rfl, rfl, rfl, rfl⟩ := H
  go_enter Try.func11, Try.ntmps11
  go_wp2_with (first | ((with_reducible refine gate_dst (N := 1) rfl ?_); refine box_event ?hg (N := 1) ?hd (cs := #[.int .i64 a0_0, .int .i64 a0_1, .int .i64 a0_2, .int .i64 a0_3]) (t := 26) ?hr ?_; (case hd => rfl); (case hg => rfl); (case hr => first | (go_simp; done) | (go_simp; rfl)); intro gb181 hg w2 hbox hb; have BK181 := am (hbox); have GW181 := am ((by rw [hg]; exact (below_size bel) : w.heap.size ≤ gb181)); have GE181 := am ((by rw [hg]; exact (below_size bel) : w.heap.size ≤ gb181)); replace HB := am (below_step bel hb); clear hb hbox hg) | ((with_reducible refine gate_dst (N := 2) rfl ?_); refine box_event ?hg (N := 2) ?hd (cs := #[.int .i64 0, .int .i64 0, .int .i64 0, .int .i64 0]) (t := 35) ?hr ?_; (case hd => rfl); (case hg => rfl); (case hr => first | (go_simp; done) | (go_simp; rfl)); intro gb182 hg w3 hbox hb; have BK182 := am (hbox); have GW182 := am ((by rw [hg]; exact (below_size bel) : w.heap.size ≤ gb182)); have GE182 := am ((by rw [hg]; exact (below_size bel) : w.heap.size ≤ gb182)); replace HB := am (below_step bel hb); have NB181_182 := am ((by rw [hg]; exact Nat.ne_of_lt (blk_lt (blkq BK181.out)) : gb181 ≠ gb182)); have NB182_181 := am ((by rw [hg]; exact Nat.ne_of_gt (blk_lt (blkq BK181.out)) : gb182 ≠ gb181)); replace BK181 := am (blk_below (blkq BK181.out) hb); clear hb hbox hg) | ((with_reducible refine gate_dst (N := 3) rfl ?_); refine box_event ?hg (N := 3) ?hd (cs := #[.int .i64 0, .int .i64 0, .int .i64 0, .int .i64 0]) (t := 35) ?hr ?_; (case hd => rfl); (case hg => rfl); (case hr => first | (go_simp; done) | (go_simp; rfl)); intro gb183 hg w4 hbox hb; have BK183 := am (hbox); have GW183 := am ((by rw [hg]; exact (below_size bel) : w.heap.size ≤ gb183)); have GE183 := am ((by rw [hg]; exact (below_size bel) : w.heap.size ≤ gb183)); replace HB := am (below_step bel hb); have NB181_183 := am ((by rw [hg]; exact Nat.ne_of_lt (blk_lt (blkq BK181.out)) : gb181 ≠ gb183)); have NB183_181 := am ((by rw [hg]; exact Nat.ne_of_gt (blk_lt (blkq BK181.out)) : gb183 ≠ gb181)); replace BK181 := am (blk_below (blkq BK181.out) hb); have NB182_183 := am ((by rw [hg]; exact Nat.ne_of_lt (blk_lt (blkq BK182.out)) : gb182 ≠ gb183)); have NB183_182 := am ((by rw [hg]; exact Nat.ne_of_gt (blk_lt (blkq BK182.out)) : gb183 ≠ gb182)); replace BK182 := am (blk_below (blkq BK182.out) hb); clear hb hbox hg; have hnb5 := NB181_182.out; have hnc5 := NB182_181.out; have hnb6 := NB181_183.out; have hnc6 := NB183_181.out; obtain ⟨hcz7_0, hcz7_1, hcz7_2, hcz7_3, hfz7_0, hfz7_1, hfz7_2, hfz7_3⟩ := blkc4 BK181.out; have hnb8 := NB183_182.out; have hnc8 := NB182_183.out; obtain ⟨hcz9_0, hcz9_1, hcz9_2, hcz9_3, hfz9_0, hfz9_1, hfz9_2, hfz9_3⟩ := blkc4 BK183.out; obtain ⟨hcz10_0, hcz10_1, hcz10_2, hcz10_3, hfz10_0, hfz10_1, hfz10_2, hfz10_3⟩ := blkc4 BK182.out))
  refine bodyPost_ret (results_cell_row rfl _ _ gb182 35 #[.int .i64 a0_0, .int .i64 a0_1, .int .i64 a0_2, .int .i64 a0_3] (0, 0) _ rfl (by (with_reducible repeat (first | refine blk_drewN ?_ _ | refine blk_drew ?_ | refine blk_alloc ?_ _)); refine blk_put (cs := #[.int .i64 a0_0, .int .i64 a0_1, .int .i64 a0_2, .int .i64 0]) ?_ 3 _ rfl; (with_reducible repeat (first | refine blk_drewN ?_ _ | refine blk_drew ?_ | refine blk_alloc ?_ _)); refine blk_put (cs := #[.int .i64 a0_0, .int .i64 a0_1, .int .i64 0, .int .i64 0]) ?_ 2 _ rfl; (with_reducible repeat (first | refine blk_drewN ?_ _ | refine blk_drew ?_ | refine blk_alloc ?_ _)); refine blk_put (cs := #[.int .i64 a0_0, .int .i64 0, .int .i64 0, .int .i64 0]) ?_ 1 _ rfl; (with_reducible repeat (first | refine blk_drewN ?_ _ | refine blk_drew ?_ | refine blk_alloc ?_ _)); refine blk_put (cs := #[.int .i64 0, .int .i64 0, .int .i64 0, .int .i64 0]) ?_ 0 _ rfl; (with_reducible repeat (first | refine blk_drewN ?_ _ | refine blk_drew ?_ | refine blk_alloc ?_ _)); refine blk_far ?_ NB182_183.out _; (with_reducible repeat (first | refine blk_drewN ?_ _ | refine blk_drew ?_ | refine blk_alloc ?_ _)); refine blk_far ?_ NB182_183.out _; (with_reducible repeat (first | refine blk_drewN ?_ _ | refine blk_drew ?_ | refine blk_alloc ?_ _)); refine blk_far ?_ NB182_183.out _; (with_reducible repeat (first | refine blk_drewN ?_ _ | refine blk_drew ?_ | refine blk_alloc ?_ _)); refine blk_far ?_ NB182_183.out _; (with_reducible repeat (first | refine blk_drewN ?_ _ | refine blk_drew ?_ | refine blk_alloc ?_ _)); exact BK182.out) Try.underlying35 rfl (by kernel_rfl)) rfl ?_
  exact ⟨by first | rfl | (simp [errW_none, errW_some] <;> rfl) | (simp [*, errW_none, errW_some] <;> rfl), by repeat (first | (with_reducible first | exact HB.out | apply below_alloc | apply pw_below_drewN | apply below_drew1 | refine below_set ?_ GE181.out | refine below_set ?_ GE182.out | refine below_set ?_ GE183.out) | exact HB.out)⟩
end Go.Proofs.Ythjdjknlcknkdaa.K
