/- Part 2 of a proof: a logic of walks over a heap, contracts of the given functions, and the law walked.  -/
import Derived.Test.YtbmoifddenagiaaDa1
import Derived.Deep.Slices
import Derived.ChangeArms
import Derived.ChangeReads
import Derived.Test.YtbmoifddenagiaaRows
import Derived.ProofKit
import Derived.OpenShut
import Derived.ShutString
import Derived.ChangeOld
import Derived.SizedLaws
import Derived.Carry
open Go Go.HL Go.Proofs
namespace Go.Proofs.Ytbmoifddenagiaa.C
set_option linter.unusedVariables false
set_option maxRecDepth 100000
set_option linter.unusedSimpArgs false
variable {H : Hp} {Q : Value → Hp → Prop}
/-- A copied element: its cells, its row in a block of its own. -/
def CpSv (H0 H : Hp) (b : Nat) (x : Save) (cs : List Value) : Prop := ∃ bi, cs = encSv (sl bi x.sh.aggs.length) x ∧ bi ≠ b ∧ H0.Fresh bi ∧ H.own bi = some (x.sh.aggs.flatMap encA, 81)
def MkSv (H0 H : Hp) (v : Value) (l : List Save) : Prop :=
  H0.le H ∧ ∃ (b : Nat) (css : List (List Value)), v = sl b l.length ∧ H0.Fresh b ∧ H.own b = some (css.flatten, 27) ∧ css.length = l.length ∧ ∀ (i : Nat) (x : Save), l[i]? = some x → ∃ cs, css[i]? = some cs ∧ CpSv H0 H b x cs
abbrev z5 : List Value := [vi 0, .slice none 0 0, vi 0, vi 0, vi 0]
theorem toSaveS_c {l : List Save} {v : Value} (ha : RdG RSv H v l) (h20 : szSv l ≤ 1048576) (h : ∀ v' H', MkSv H H' v' l → Q v' H') : CallR Try.prog 22 [v] H Q := by
  obtain ⟨A, ca, csl, rfl, hl, hel, hA⟩ := ha
  have hn : l.length ≤ 1048576 := by unfold szSv at h20; omega
  refine callR_body Try.func22 t22 rfl ?_
  dsimp only [c22]
  repeat' first
    | ((with_reducible apply S_ms); (· rfl); (· rfl); (· omega); (· omega); (intro b hb))
    | ((with_reducible apply S_pv); · rfl)
    | ((with_reducible apply S_sv); · rfl)
    | with_reducible apply S_nil2
    | with_reducible apply S_nil
    | with_reducible apply S_sq
    | with_reducible apply S_rg
    | ((with_reducible apply S_nv); · rfl)
    | ((with_reducible apply S_gt); · rfl)
    | ((with_reducible apply S_gf); · rfl)
    | ((with_reducible apply S_gu); · rfl)
    | ((with_reducible apply S_gs); (· rfl); all_goals (intro hc; rw [hc]; (try simp only [decide_eq_true_eq, decide_eq_false_iff_not, bne_iff_ne, bne_eq_false_iff_eq, beq_iff_eq, beq_eq_false_iff_ne, Bool.not_eq_true', Bool.not_eq_false', Bool.not_not, ne_eq, gt_iff_lt, ge_iff_le] at hc); (try (exfalso; omega)); (try exact absurd rfl hc)))
    | ((with_reducible apply S_pks); (· rfl); all_goals (intro hc; rw [hc]; (try simp only [decide_eq_true_eq, decide_eq_false_iff_not, bne_iff_ne, bne_eq_false_iff_eq, beq_iff_eq, beq_eq_false_iff_ne, Bool.not_eq_true', Bool.not_eq_false', Bool.not_not, ne_eq, gt_iff_lt, ge_iff_le] at hc); (try (exfalso; omega)); (try exact absurd rfl hc)))
    | ((with_reducible apply S_cdt); · rfl)
    | ((with_reducible apply S_cdf); · rfl)
    | ((with_reducible apply S_cd); (· rfl); all_goals (intro hc; (try simp only [decide_eq_true_eq, decide_eq_false_iff_not, bne_iff_ne, bne_eq_false_iff_eq, beq_iff_eq, beq_eq_false_iff_ne, Bool.not_eq_true', Bool.not_eq_false', Bool.not_not, ne_eq, gt_iff_lt, ge_iff_le] at hc); (try (exfalso; omega)); (try exact absurd rfl hc)))
    | with_reducible apply S_rt
    | with_reducible apply S_bk
    | with_reducible apply S_sk
    | with_reducible apply S_xt
    | with_reducible apply S_q2
    | with_reducible apply S_q7
    | with_reducible apply S_q1
    | with_reducible apply S_q3
    | with_reducible apply S_q4
    | with_reducible apply S_q6
    | ((with_reducible apply S_q5); · rfl)
    | ((with_reducible apply S_fin); · rfl)
    | ((with_reducible apply S_fin'); · rfl)
  refine S_lpE (fun i : Nat => [(0, .v (.slice A l.length ca)), (3, .v (sl b l.length)), (4, .v (vi i))]) (fun _ => [])
    (fun i H' => i ≤ l.length ∧ H.le H' ∧ ∃ css : List (List Value), H'.own b = some (css.flatten ++ (List.replicate (l.length - i) z5).flatten, 27) ∧ css.length = i ∧ (∀ cs ∈ css, cs.length = 5) ∧ ∀ (j : Nat) (x : Save), j < i → l[j]? = some x → ∃ cs, css[j]? = some cs ∧ CpSv H H' b x cs)
    (fun i => l.length - i) 0 (EL_r rfl (EL_r rfl (EL_r rfl EL_nil))) ⟨by omega, hb.le _, [], set_own _ _ _, rfl, by simp, by omega⟩ ?_
  rintro i H' ⟨hi, hle, css, hown, hcl, hc5, hcp⟩
  rcases Nat.lt_or_ge i l.length with hlt | hge
  · obtain ⟨x, hx⟩ := get_lt hlt
    obtain ⟨ad, cs, rfl, ⟨vx, rfl, rx, mx⟩, hr⟩ := RdG.get (fun h => h.len) (by decide) hl hel hA hx
    have hr := fun j u hu => hle.has (hr j u hu)
    have hx20 : x.sh.aggs.length ≤ 1048576 := by
      have e1 := sumL_take (f := lenSv) hx
      have e2 := sumL_le lenSv l (i + 1)
      unfold szSv lenSv at *; omega
    have hz : (List.replicate (l.length - i) z5).flatten = z5 ++ (List.replicate (l.length - (i + 1)) z5).flatten := by
      rw [show l.length - i = (l.length - (i + 1)) + 1 by omega, List.replicate_succ, List.flatten_cons]
    rw [hz] at hown
    have hP : css.flatten.length = i * 5 := by rw [flatten_len hc5, hcl]
    repeat' first
      | ((with_reducible apply S_ia); (· rfl); (· rfl); (· omega))
      | ((with_reducible apply S_inc); (· rfl); (· omega))
      | ((with_reducible apply S_ld (vs := encSv vx x) (v := vSv vx x)); (· rfl); (· rfl); (· exact hr); (· rfl))
      | ((with_reducible apply S_stF); (· rfl); (· exact add0 _ _); (· exact (set_own_ne _ _ (fresh_ne hbi hown).symm).trans hown); (· (simp only [List.length_append, hP]; show i * 5 + 5 ≤ i * 5 + (5 + _); omega)); (· exact splice_mid hP rfl))
      | ((with_reducible apply S_pv); · rfl)
      | ((with_reducible apply S_sv); · rfl)
      | with_reducible apply S_nil2
      | with_reducible apply S_nil
      | with_reducible apply S_sq
      | with_reducible apply S_rg
      | ((with_reducible apply S_nv); · rfl)
      | ((with_reducible apply S_gt); · rfl)
      | ((with_reducible apply S_gf); · rfl)
      | ((with_reducible apply S_gu); · rfl)
      | ((with_reducible apply S_gs); (· rfl); all_goals (intro hc; rw [hc]; (try simp only [decide_eq_true_eq, decide_eq_false_iff_not, bne_iff_ne, bne_eq_false_iff_eq, beq_iff_eq, beq_eq_false_iff_ne, Bool.not_eq_true', Bool.not_eq_false', Bool.not_not, ne_eq, gt_iff_lt, ge_iff_le] at hc); (try (exfalso; omega)); (try exact absurd rfl hc)))
      | ((with_reducible apply S_pks); (· rfl); all_goals (intro hc; rw [hc]; (try simp only [decide_eq_true_eq, decide_eq_false_iff_not, bne_iff_ne, bne_eq_false_iff_eq, beq_iff_eq, beq_eq_false_iff_ne, Bool.not_eq_true', Bool.not_eq_false', Bool.not_not, ne_eq, gt_iff_lt, ge_iff_le] at hc); (try (exfalso; omega)); (try exact absurd rfl hc)))
      | ((with_reducible apply S_ca); (· rfl); first | refine toSave_c (rx.le hle) hx20 (fun bi hbi => ?_))
      | ((with_reducible apply S_cdt); · rfl)
      | ((with_reducible apply S_cdf); · rfl)
      | ((with_reducible apply S_cd); (· rfl); all_goals (intro hc; (try simp only [decide_eq_true_eq, decide_eq_false_iff_not, bne_iff_ne, bne_eq_false_iff_eq, beq_iff_eq, beq_eq_false_iff_ne, Bool.not_eq_true', Bool.not_eq_false', Bool.not_not, ne_eq, gt_iff_lt, ge_iff_le] at hc); (try (exfalso; omega)); (try exact absurd rfl hc)))
      | with_reducible apply S_rt
      | with_reducible apply S_bk
      | with_reducible apply S_sk
      | with_reducible apply S_xt
      | with_reducible apply S_q2
      | with_reducible apply S_q7
      | with_reducible apply S_q1
      | with_reducible apply S_q3
      | with_reducible apply S_q4
      | with_reducible apply S_q6
      | ((with_reducible apply S_q5); · rfl)
      | ((with_reducible apply S_fin); · rfl)
      | ((with_reducible apply S_fin'); · rfl)
    have hne : bi ≠ b := fresh_ne hbi hown
    refine ⟨i + 1, by dsimp only; omega, EL_r rfl (EL_r rfl (EL_r rfl EL_nil)), hlt, (hle.trans (hbi.le _)).setF hb _, css ++ [encSv (sl bi x.sh.aggs.length) x], ?_, by simp [hcl], ?_, ?_⟩
    · rw [set_own]; simp only [List.flatten_append, List.flatten_cons, List.flatten_nil, List.append_nil, List.append_assoc]; rfl
    · intro cs hcs
      rcases List.mem_append.1 hcs with hcs | hcs
      · exact hc5 cs hcs
      · obtain rfl := List.mem_singleton.1 hcs; rfl
    · intro j y hj hy
      rcases Nat.lt_or_ge j i with hji | hji
      · obtain ⟨cs, h1, bj, h2, h3, h4, h5⟩ := hcp j y hji hy
        refine ⟨cs, by rw [List.getElem?_append_left (by omega)]; exact h1, bj, h2, h3, h4, ?_⟩
        rw [set_own_ne _ _ h3, set_own_ne _ _ (fresh_ne hbi h5).symm]; exact h5
      · obtain rfl : j = i := by omega
        obtain rfl : x = y := Option.some.inj (hx.symm.trans hy)
        refine ⟨_, by rw [List.getElem?_append_right (by omega), hcl, Nat.sub_self]; rfl, bi, rfl, hne, hle.fresh hbi, ?_⟩
        rw [set_own_ne _ _ hne, set_own]
  · skip
    repeat' first
      | ((with_reducible apply S_pv); · rfl)
      | ((with_reducible apply S_sv); · rfl)
      | with_reducible apply S_nil2
      | with_reducible apply S_nil
      | with_reducible apply S_sq
      | with_reducible apply S_rg
      | ((with_reducible apply S_nv); · rfl)
      | ((with_reducible apply S_gt); · rfl)
      | ((with_reducible apply S_gf); · rfl)
      | ((with_reducible apply S_gu); · rfl)
      | ((with_reducible apply S_gs); (· rfl); all_goals (intro hc; rw [hc]; (try simp only [decide_eq_true_eq, decide_eq_false_iff_not, bne_iff_ne, bne_eq_false_iff_eq, beq_iff_eq, beq_eq_false_iff_ne, Bool.not_eq_true', Bool.not_eq_false', Bool.not_not, ne_eq, gt_iff_lt, ge_iff_le] at hc); (try (exfalso; omega)); (try exact absurd rfl hc)))
      | ((with_reducible apply S_pks); (· rfl); all_goals (intro hc; rw [hc]; (try simp only [decide_eq_true_eq, decide_eq_false_iff_not, bne_iff_ne, bne_eq_false_iff_eq, beq_iff_eq, beq_eq_false_iff_ne, Bool.not_eq_true', Bool.not_eq_false', Bool.not_not, ne_eq, gt_iff_lt, ge_iff_le] at hc); (try (exfalso; omega)); (try exact absurd rfl hc)))
      | ((with_reducible apply S_cdt); · rfl)
      | ((with_reducible apply S_cdf); · rfl)
      | ((with_reducible apply S_cd); (· rfl); all_goals (intro hc; (try simp only [decide_eq_true_eq, decide_eq_false_iff_not, bne_iff_ne, bne_eq_false_iff_eq, beq_iff_eq, beq_eq_false_iff_ne, Bool.not_eq_true', Bool.not_eq_false', Bool.not_not, ne_eq, gt_iff_lt, ge_iff_le] at hc); (try (exfalso; omega)); (try exact absurd rfl hc)))
      | with_reducible apply S_rt
      | with_reducible apply S_bk
      | with_reducible apply S_sk
      | with_reducible apply S_xt
      | with_reducible apply S_q2
      | with_reducible apply S_q7
      | with_reducible apply S_q1
      | with_reducible apply S_q3
      | with_reducible apply S_q4
      | with_reducible apply S_q6
      | ((with_reducible apply S_q5); · rfl)
      | ((with_reducible apply S_fin); · rfl)
      | ((with_reducible apply S_fin'); · rfl)
    rw [show l.length - i = 0 by omega] at hown
    simp only [List.replicate_zero, List.flatten_nil, List.append_nil] at hown
    exact h _ _ ⟨hle, b, css, rfl, hb, hown, by omega, fun j x hx => hcp j x (by have := (List.getElem?_eq_some_iff.1 hx).1; omega) hx⟩
theorem MkSv.rd {H0 H : Hp} {v : Value} {l : List Save} (h : MkSv H0 H v l) (h20 : szSv l ≤ 1048576) : RdG RSv H v l := by
  obtain ⟨hle, b, css, rfl, hb, ho, hl, hel⟩ := h
  refine ⟨_, _, css, rfl, hl, fun i x hx => ?_, HasAll.of_own (rest := []) (t := 27) (by rw [List.append_nil]; exact ho)⟩
  obtain ⟨cs, h1, bi, h2, h3, h4, h5⟩ := hel i x hx
  refine ⟨cs, h1, _, h2, ⟨_, _, rfl, HasAll.of_own (rest := []) (t := 81) (by rw [List.append_nil]; exact h5)⟩, ?_⟩
  have e1 := sumL_take (f := lenSv) hx
  have e2 := sumL_le lenSv l (i + 1)
  unfold szSv lenSv at *; omega
end Go.Proofs.Ytbmoifddenagiaa.C
open Go Go.HL Go.Proofs
namespace Go.Proofs.Ytbmoifddenagiaa.C
set_option linter.unusedVariables false
set_option maxRecDepth 100000
set_option linter.unusedSimpArgs false
variable {H : Hp} {Q : Value → Hp → Prop}
def ElSv (S : Nat → Prop) (H : Hp) (b : Nat) (cs : List Value) : Prop :=
  ∃ (a0 a2 a3 a4 : Value) (bi m : Nat) (cells : List Value), cs = [a0, sl bi m, a2, a3, a4] ∧ bi ≠ b ∧ S bi ∧ m ≤ 1048576 ∧ H.own bi = some (cells, 81) ∧ cells.length = m * 6
def ShSv (S : Nat → Prop) (H : Hp) (v : Value) (n : Nat) : Prop :=
  ∃ (b : Nat) (css : List (List Value)), v = sl b n ∧ S b ∧ H.own b = some (css.flatten, 27) ∧ css.length = n ∧ ∀ cs ∈ css, ElSv S H b cs
theorem ElSv.msk {S S' : Nat → Prop} {H H' : Hp} {b : Nat} {cs : List Value} (h : ElSv S H b cs) (k : Msk S' H H') : ElSv S H' b cs := by
  obtain ⟨a0, a2, a3, a4, bi, m, cells, h1, h2, h3, h4, h5, h6⟩ := h
  obtain ⟨cells', h7, h8⟩ := k.2.2 bi cells 81 h5
  exact ⟨a0, a2, a3, a4, bi, m, cells', h1, h2, h3, h4, h7, h8.trans h6⟩
theorem MkSv.shape {S : Nat → Prop} {H0 H : Hp} {v : Value} {l : List Save} (h : MkSv H0 H v l) (h20 : szSv l ≤ 1048576) (hS : ∀ b, H0.Fresh b → H.own b ≠ none → S b) : ShSv S H v l.length := by
  obtain ⟨hle, b, css, rfl, hb, ho, hl, hel⟩ := h
  refine ⟨b, css, rfl, hS b hb (by rw [ho]; simp), ho, hl, fun cs hcs => ?_⟩
  obtain ⟨i, hi, e⟩ := List.getElem_of_mem hcs
  obtain ⟨x, hx⟩ := get_lt (l := l) (i := i) (by omega)
  obtain ⟨cs', h1, bi, h2, h3, h4, h5⟩ := hel i x hx
  rw [List.getElem?_eq_getElem hi, e] at h1
  obtain rfl := Option.some.inj h1
  refine ⟨_, _, _, _, bi, _, _, h2, h3, hS bi h4 (by rw [h5]; simp), ?_, h5, flat_len encA_len _⟩
  have e1 := sumL_take (f := lenSv) hx
  have e2 := sumL_le lenSv l (i + 1)
  unfold szSv lenSv at *; omega
theorem markSaveS_c {S : Nat → Prop} {v : Value} {n k : Nat} (hs : ShSv S H v n) (hn : n ≤ 1048576) (hk : k ≤ 1048576) (h : ∀ H' (k' : Nat), Msk S H H' → Q (vi (k' : Int)) H') : CallR Try.prog 25 [v, vi k] H Q := by
  obtain ⟨b, css, rfl, hSb, hown, hl, hel⟩ := hs
  refine callR_body Try.func25 t25 rfl ?_
  dsimp only [c25]
  repeat' first
    | ((with_reducible apply S_pv); · rfl)
    | ((with_reducible apply S_sv); · rfl)
    | with_reducible apply S_nil2
    | with_reducible apply S_nil
    | with_reducible apply S_sq
    | with_reducible apply S_rg
    | ((with_reducible apply S_nv); · rfl)
    | ((with_reducible apply S_gt); · rfl)
    | ((with_reducible apply S_gf); · rfl)
    | ((with_reducible apply S_gu); · rfl)
    | ((with_reducible apply S_gs); (· rfl); all_goals (intro hc; rw [hc]; (try simp only [decide_eq_true_eq, decide_eq_false_iff_not, bne_iff_ne, bne_eq_false_iff_eq, beq_iff_eq, beq_eq_false_iff_ne, Bool.not_eq_true', Bool.not_eq_false', Bool.not_not, ne_eq, gt_iff_lt, ge_iff_le] at hc); (try (exfalso; omega)); (try exact absurd rfl hc)))
    | ((with_reducible apply S_pks); (· rfl); all_goals (intro hc; rw [hc]; (try simp only [decide_eq_true_eq, decide_eq_false_iff_not, bne_iff_ne, bne_eq_false_iff_eq, beq_iff_eq, beq_eq_false_iff_ne, Bool.not_eq_true', Bool.not_eq_false', Bool.not_not, ne_eq, gt_iff_lt, ge_iff_le] at hc); (try (exfalso; omega)); (try exact absurd rfl hc)))
    | ((with_reducible apply S_cdt); · rfl)
    | ((with_reducible apply S_cdf); · rfl)
    | ((with_reducible apply S_cd); (· rfl); all_goals (intro hc; (try simp only [decide_eq_true_eq, decide_eq_false_iff_not, bne_iff_ne, bne_eq_false_iff_eq, beq_iff_eq, beq_eq_false_iff_ne, Bool.not_eq_true', Bool.not_eq_false', Bool.not_not, ne_eq, gt_iff_lt, ge_iff_le] at hc); (try (exfalso; omega)); (try exact absurd rfl hc)))
    | with_reducible apply S_rt
    | with_reducible apply S_bk
    | with_reducible apply S_sk
    | with_reducible apply S_xt
    | with_reducible apply S_q2
    | with_reducible apply S_q7
    | with_reducible apply S_q1
    | with_reducible apply S_q3
    | with_reducible apply S_q4
    | with_reducible apply S_q6
    | ((with_reducible apply S_q5); · rfl)
    | ((with_reducible apply S_fin); · rfl)
    | ((with_reducible apply S_fin'); · rfl)
  refine S_lpE (ι := Nat × Nat) (fun p => [(0, .v (sl b n)), (1, .v (vi p.2)), (5, .v (vi p.1))]) (fun _ => [])
    (fun p H' => p.1 ≤ n ∧ p.2 ≤ 1048576 + p.1 * 6291460 ∧ Msk S H H' ∧ ∃ css : List (List Value), H'.own b = some (css.flatten, 27) ∧ css.length = n ∧ ∀ cs ∈ css, ElSv S H' b cs)
    (fun p => n - p.1) (0, k) (EL_r rfl (EL_r rfl (EL_r rfl EL_nil))) ⟨by omega, by dsimp only; omega, Msk.refl _ _, css, hown, hl, hel⟩ ?_
  clear hown hl hel css
  rintro ⟨i, k⟩ H' ⟨hi, hk, hmsk, css, hown, hl, hel⟩
  dsimp only at hi hk
  dsimp only
  rcases Nat.lt_or_ge i n with hlt | hge
  · obtain ⟨cs, hcs⟩ := get_lt (l := css) (i := i) (by omega)
    obtain ⟨a0, a2, a3, a4, bi, m, cells, rfl, hne, hSi, hm, hoi, hci⟩ := hel cs (List.mem_of_getElem? hcs)
    have hc5 : ∀ cs ∈ css, cs.length = 5 := fun cs h => by obtain ⟨_, _, _, _, _, _, _, rfl, _⟩ := hel cs h; rfl
    have hP : (css.take i).flatten.length = i * 5 := by rw [flatten_len (fun c h => hc5 c (List.mem_of_mem_take h)), List.length_take, Nat.min_eq_left (by omega)]
    rw [flatten_split hcs] at hown
    repeat' first
      | ((with_reducible apply S_ia); (· rfl); (· rfl); (· omega))
      | ((with_reducible apply S_inc); (· rfl); (· omega))
      | ((with_reducible apply S_stQ hP); (· rfl); (· rw [add0, addk]); (· exact hown); (· simp))
      | ((with_reducible apply S_pv); · rfl)
      | ((with_reducible apply S_sv); · rfl)
      | with_reducible apply S_nil2
      | with_reducible apply S_nil
      | with_reducible apply S_sq
      | with_reducible apply S_rg
      | ((with_reducible apply S_nv); · rfl)
      | ((with_reducible apply S_gt); · rfl)
      | ((with_reducible apply S_gf); · rfl)
      | ((with_reducible apply S_gu); · rfl)
      | ((with_reducible apply S_gs); (· rfl); all_goals (intro hc; rw [hc]; (try simp only [decide_eq_true_eq, decide_eq_false_iff_not, bne_iff_ne, bne_eq_false_iff_eq, beq_iff_eq, beq_eq_false_iff_ne, Bool.not_eq_true', Bool.not_eq_false', Bool.not_not, ne_eq, gt_iff_lt, ge_iff_le] at hc); (try (exfalso; omega)); (try exact absurd rfl hc)))
      | ((with_reducible apply S_pks); (· rfl); all_goals (intro hc; rw [hc]; (try simp only [decide_eq_true_eq, decide_eq_false_iff_not, bne_iff_ne, bne_eq_false_iff_eq, beq_iff_eq, beq_eq_false_iff_ne, Bool.not_eq_true', Bool.not_eq_false', Bool.not_not, ne_eq, gt_iff_lt, ge_iff_le] at hc); (try (exfalso; omega)); (try exact absurd rfl hc)))
      | ((with_reducible apply S_cdt); · rfl)
      | ((with_reducible apply S_cdf); · rfl)
      | ((with_reducible apply S_cd); (· rfl); all_goals (intro hc; (try simp only [decide_eq_true_eq, decide_eq_false_iff_not, bne_iff_ne, bne_eq_false_iff_eq, beq_iff_eq, beq_eq_false_iff_ne, Bool.not_eq_true', Bool.not_eq_false', Bool.not_not, ne_eq, gt_iff_lt, ge_iff_le] at hc); (try (exfalso; omega)); (try exact absurd rfl hc)))
      | with_reducible apply S_rt
      | with_reducible apply S_bk
      | with_reducible apply S_sk
      | with_reducible apply S_xt
      | with_reducible apply S_q2
      | with_reducible apply S_q7
      | with_reducible apply S_q1
      | with_reducible apply S_q3
      | with_reducible apply S_q4
      | with_reducible apply S_q6
      | ((with_reducible apply S_q5); · rfl)
      | ((with_reducible apply S_fin); · rfl)
      | ((with_reducible apply S_fin'); · rfl)
    refine S_ld1 (u := sl bi m) rfl (by rw [add0, addk, addk]; exact Has.of_own (set_own _ _ _) (mid_get (k := i * 5) (j := 1) hP rfl)) ?_
    refine S_pv rfl ?_
    refine S_ca rfl (markAggS_c (cells := cells) ⟨hci, .inr ⟨bi, m, [], rfl, ?_, Nat.le_refl _, by simp [hci]⟩⟩ hm (by omega) (fun H2 ho2 hm2 => ?_))
    · rw [set_own_ne _ _ hne, List.append_nil]; exact hoi
    have hown2 := (hm2.2.1 b (fun e => hne (Option.some.inj e))).trans (set_own _ _ _)
    have m1 : Msk S H' H2 := by
      refine Msk.trans (Msk.set hSb hown ?_) (Msk.mono hm2 fun b' e => by obtain rfl := Option.some.inj e; exact hSi)
      simp
    repeat' first
      | ((with_reducible apply S_ia); (· rfl); (· rfl); (· omega))
      | ((with_reducible apply S_inc); (· rfl); (· omega))
      | ((with_reducible apply S_stQ hP); (· rfl); (· rw [add0, addk, addk, Nat.add_assoc]); (· first | exact hown2 | exact set_own _ _ _); (· simp))
      | ((with_reducible apply S_pv); · rfl)
      | ((with_reducible apply S_sv); · rfl)
      | with_reducible apply S_nil2
      | with_reducible apply S_nil
      | with_reducible apply S_sq
      | with_reducible apply S_rg
      | ((with_reducible apply S_nv); · rfl)
      | ((with_reducible apply S_gt); · rfl)
      | ((with_reducible apply S_gf); · rfl)
      | ((with_reducible apply S_gu); · rfl)
      | ((with_reducible apply S_gs); (· rfl); all_goals (intro hc; rw [hc]; (try simp only [decide_eq_true_eq, decide_eq_false_iff_not, bne_iff_ne, bne_eq_false_iff_eq, beq_iff_eq, beq_eq_false_iff_ne, Bool.not_eq_true', Bool.not_eq_false', Bool.not_not, ne_eq, gt_iff_lt, ge_iff_le] at hc); (try (exfalso; omega)); (try exact absurd rfl hc)))
      | ((with_reducible apply S_pks); (· rfl); all_goals (intro hc; rw [hc]; (try simp only [decide_eq_true_eq, decide_eq_false_iff_not, bne_iff_ne, bne_eq_false_iff_eq, beq_iff_eq, beq_eq_false_iff_ne, Bool.not_eq_true', Bool.not_eq_false', Bool.not_not, ne_eq, gt_iff_lt, ge_iff_le] at hc); (try (exfalso; omega)); (try exact absurd rfl hc)))
      | ((with_reducible apply S_cdt); · rfl)
      | ((with_reducible apply S_cdf); · rfl)
      | ((with_reducible apply S_cd); (· rfl); all_goals (intro hc; (try simp only [decide_eq_true_eq, decide_eq_false_iff_not, bne_iff_ne, bne_eq_false_iff_eq, beq_iff_eq, beq_eq_false_iff_ne, Bool.not_eq_true', Bool.not_eq_false', Bool.not_not, ne_eq, gt_iff_lt, ge_iff_le] at hc); (try (exfalso; omega)); (try exact absurd rfl hc)))
      | with_reducible apply S_rt
      | with_reducible apply S_bk
      | with_reducible apply S_sk
      | with_reducible apply S_xt
      | with_reducible apply S_q2
      | with_reducible apply S_q7
      | with_reducible apply S_q1
      | with_reducible apply S_q3
      | with_reducible apply S_q4
      | with_reducible apply S_q6
      | ((with_reducible apply S_q5); · rfl)
      | ((with_reducible apply S_fin); · rfl)
      | ((with_reducible apply S_fin'); · rfl)
    have m2 := m1.trans (Msk.set (S := S) (cs' := (List.take i css).flatten ++ ([vi k, sl bi m, vi ((k + 1 + 6 * m : Nat) : Int), vi ((k + 1 + 6 * m + 1 : Nat) : Int), vi ((k + 1 + 6 * m + 1 + 1 : Nat) : Int)] ++ (List.drop (i + 1) css).flatten)) hSb hown2 (by simp))
    refine ⟨(i + 1, k + 1 + 6 * m + 1 + 1 + 1), by dsimp only; omega, EL_r rfl (EL_r rfl (EL_r rfl EL_nil)), hlt, by dsimp only; omega, ?_⟩
    simp only [set_set]
    refine ⟨hmsk.trans m2, css.set i [vi k, sl bi m, vi ((k + 1 + 6 * m : Nat) : Int), vi ((k + 1 + 6 * m + 1 : Nat) : Int), vi ((k + 1 + 6 * m + 1 + 1 : Nat) : Int)], ?_, by simp [hl], ?_⟩
    · rw [set_own, flatten_set (by omega)]; rfl
    · intro cs hcs'
      rcases List.mem_or_eq_of_mem_set hcs' with hc | rfl
      · exact (hel cs hc).msk m2
      · obtain ⟨cells', h7, h8⟩ := m2.2.2 bi cells 81 hoi
        exact ⟨_, _, _, _, bi, m, cells', rfl, hne, hSi, hm, h7, h8.trans hci⟩
  · skip
    repeat' first
      | ((with_reducible apply S_pv); · rfl)
      | ((with_reducible apply S_sv); · rfl)
      | with_reducible apply S_nil2
      | with_reducible apply S_nil
      | with_reducible apply S_sq
      | with_reducible apply S_rg
      | ((with_reducible apply S_nv); · rfl)
      | ((with_reducible apply S_gt); · rfl)
      | ((with_reducible apply S_gf); · rfl)
      | ((with_reducible apply S_gu); · rfl)
      | ((with_reducible apply S_gs); (· rfl); all_goals (intro hc; rw [hc]; (try simp only [decide_eq_true_eq, decide_eq_false_iff_not, bne_iff_ne, bne_eq_false_iff_eq, beq_iff_eq, beq_eq_false_iff_ne, Bool.not_eq_true', Bool.not_eq_false', Bool.not_not, ne_eq, gt_iff_lt, ge_iff_le] at hc); (try (exfalso; omega)); (try exact absurd rfl hc)))
      | ((with_reducible apply S_pks); (· rfl); all_goals (intro hc; rw [hc]; (try simp only [decide_eq_true_eq, decide_eq_false_iff_not, bne_iff_ne, bne_eq_false_iff_eq, beq_iff_eq, beq_eq_false_iff_ne, Bool.not_eq_true', Bool.not_eq_false', Bool.not_not, ne_eq, gt_iff_lt, ge_iff_le] at hc); (try (exfalso; omega)); (try exact absurd rfl hc)))
      | ((with_reducible apply S_cdt); · rfl)
      | ((with_reducible apply S_cdf); · rfl)
      | ((with_reducible apply S_cd); (· rfl); all_goals (intro hc; (try simp only [decide_eq_true_eq, decide_eq_false_iff_not, bne_iff_ne, bne_eq_false_iff_eq, beq_iff_eq, beq_eq_false_iff_ne, Bool.not_eq_true', Bool.not_eq_false', Bool.not_not, ne_eq, gt_iff_lt, ge_iff_le] at hc); (try (exfalso; omega)); (try exact absurd rfl hc)))
      | with_reducible apply S_rt
      | with_reducible apply S_bk
      | with_reducible apply S_sk
      | with_reducible apply S_xt
      | with_reducible apply S_q2
      | with_reducible apply S_q7
      | with_reducible apply S_q1
      | with_reducible apply S_q3
      | with_reducible apply S_q4
      | with_reducible apply S_q6
      | ((with_reducible apply S_q5); · rfl)
      | ((with_reducible apply S_fin); · rfl)
      | ((with_reducible apply S_fin'); · rfl)
    exact h _ _ hmsk
end Go.Proofs.Ytbmoifddenagiaa.C
open Go Go.HL Go.Proofs
namespace Go.Proofs.Ytbmoifddenagiaa.C
set_option linter.unusedVariables false
set_option maxRecDepth 100000
set_option linter.unusedSimpArgs false
variable {H : Hp} {Q : Value → Hp → Prop}
def goodTo (l : List Agg) (i : Nat) : Prop := ∀ (j : Nat) (x : Agg), j < i → l[j]? = some x → aggOk x = true ∧ ∀ y, 0 < j → l[j - 1]? = some y → ahead y x = true
def SOk (s : Shard) : Prop := s.aggs.length ≤ 40 ∧ inR s.mark (-1) 1000000 = true ∧ inR s.late 0 1000000000 = true ∧ inR s.over 0 1000000000 = true ∧ goodTo s.aggs s.aggs.length
def SvOk (s : Save) : Prop := inR s.at_ 0 300 = true ∧ SOk s.sh

theorem good_lt {l : List Agg} {i : Nat} {x : Agg} (hx : l[i]? = some x) : i < l.length := (List.getElem?_eq_some_iff.1 hx).1
theorem bad1 {s : Shard} {i : Nat} {x : Agg} (hx : s.aggs[i]? = some x) (h : aggOk x = false) : false = true ↔ SOk s :=
  ⟨fun e => (by cases e), fun k => by have := (k.2.2.2.2 i x (good_lt hx) hx).1; rw [h] at this; cases this⟩
theorem bad2 {s : Shard} {i : Nat} {x y : Agg} (hx : s.aggs[i]? = some x) (hy : s.aggs[i - 1]? = some y) (hp : 0 < i) (h : ahead y x = false) : false = true ↔ SOk s :=
  ⟨fun e => (by cases e), fun k => by have := (k.2.2.2.2 i x (good_lt hx) hx).2 y hp hy; rw [h] at this; cases this⟩
theorem good1 {l : List Agg} {i : Nat} {x : Agg} (hg : goodTo l i) (hx : l[i]? = some x) (h : aggOk x = true) (h' : ∀ y, 0 < i → l[i - 1]? = some y → ahead y x = true) : goodTo l (i + 1) := fun j z hj hz => by
  rcases Nat.lt_or_ge j i with hji | hji
  · exact hg j z hji hz
  · obtain rfl : j = i := by omega
    obtain rfl := Option.some.inj (hx.symm.trans hz)
    exact ⟨h, h'⟩
theorem shardOkS_c {s : Shard} {v : Value} (ha : RdS encA H v s.aggs) (h : ∀ b : Bool, (b = true ↔ SOk s) → Q (vb b) H) : CallR Try.prog 44 [vSh v s] H Q := by
  obtain ⟨A, ca, rfl, hA⟩ := ha
  refine callR_body Try.func44 t44 rfl ?_
  dsimp only [c44]
  repeat' first
    | ((with_reducible apply S_pv); · rfl)
    | ((with_reducible apply S_sv); · rfl)
    | with_reducible apply S_nil2
    | with_reducible apply S_nil
    | with_reducible apply S_sq
    | with_reducible apply S_rg
    | ((with_reducible apply S_nv); · rfl)
    | ((with_reducible apply S_gt); · rfl)
    | ((with_reducible apply S_gf); · rfl)
    | ((with_reducible apply S_gu); · rfl)
    | ((with_reducible apply S_gs); (· rfl); all_goals (intro hc; rw [hc]; (try simp only [decide_eq_true_eq, decide_eq_false_iff_not, bne_iff_ne, bne_eq_false_iff_eq, beq_iff_eq, beq_eq_false_iff_ne, Bool.not_eq_true', Bool.not_eq_false', Bool.not_not, ne_eq, gt_iff_lt, ge_iff_le] at hc); (try (exfalso; omega)); (try exact absurd rfl hc)))
    | ((with_reducible apply S_pks); (· rfl); all_goals (intro hc; rw [hc]; (try simp only [decide_eq_true_eq, decide_eq_false_iff_not, bne_iff_ne, bne_eq_false_iff_eq, beq_iff_eq, beq_eq_false_iff_ne, Bool.not_eq_true', Bool.not_eq_false', Bool.not_not, ne_eq, gt_iff_lt, ge_iff_le] at hc); (try (exfalso; omega)); (try exact absurd rfl hc)))
    | ((with_reducible apply S_ca); (· rfl); first | refine l04Mark_c ?_ | refine l01In_c ?_)
    | ((with_reducible apply S_cdt); · rfl)
    | ((with_reducible apply S_cdf); · rfl)
    | ((with_reducible apply S_cd); (· rfl); all_goals (intro hc; (try simp only [decide_eq_true_eq, decide_eq_false_iff_not, bne_iff_ne, bne_eq_false_iff_eq, beq_iff_eq, beq_eq_false_iff_ne, Bool.not_eq_true', Bool.not_eq_false', Bool.not_not, ne_eq, gt_iff_lt, ge_iff_le] at hc); (try (exfalso; omega)); (try exact absurd rfl hc)))
    | with_reducible apply S_rt
    | with_reducible apply S_bk
    | with_reducible apply S_sk
    | with_reducible apply S_xt
    | with_reducible apply S_q2
    | with_reducible apply S_q7
    | with_reducible apply S_q1
    | with_reducible apply S_q3
    | with_reducible apply S_q4
    | with_reducible apply S_q6
    | ((with_reducible apply S_q5); · rfl)
    | ((with_reducible apply S_fin); · rfl)
    | ((with_reducible apply S_fin'); · rfl)
  all_goals first
    | (refine h _ ⟨fun e => (by cases e), fun k => ?_⟩; obtain ⟨k1, k2, k3, k4, k5⟩ := k; first | omega | simp_all)
    | skip
  refine S_lpE (fun i : Nat => [(1, .p 1 0), (3, .v (vi i))]) (fun _ => [(1, [.slice A s.aggs.length ca, vi s.mark, vi s.late, vi s.over])]) (fun i H' => H' = H ∧ i ≤ s.aggs.length ∧ goodTo s.aggs i) (fun i => s.aggs.length - i) 0 (EL_r rfl (EL_r rfl (EL_x rfl EL_nil))) ⟨rfl, by omega, fun j x hj => by omega⟩ ?_
  rintro i H' ⟨rfl, hi, hg⟩
  rcases Nat.lt_or_ge i s.aggs.length with hlt | hge
  · obtain ⟨x, hx⟩ := get_lt hlt
    obtain ⟨ad, rfl, hr⟩ := HasAll.get encA_len (by decide) hA hx
    rcases Nat.eq_zero_or_pos i with h0 | hpos
    · subst h0
      repeat' first
        | ((with_reducible apply S_ia); (· rfl); (· rfl); (· omega))
        | ((with_reducible apply S_inc); (· rfl); (· omega))
        | ((with_reducible apply S_ld (vs := encA x) (v := va x)); (· rfl); (· rfl); (· exact hr); (· rfl))
        | ((with_reducible apply S_pv); · rfl)
        | ((with_reducible apply S_sv); · rfl)
        | with_reducible apply S_nil2
        | with_reducible apply S_nil
        | with_reducible apply S_sq
        | with_reducible apply S_rg
        | ((with_reducible apply S_nv); · rfl)
        | ((with_reducible apply S_gt); · rfl)
        | ((with_reducible apply S_gf); · rfl)
        | ((with_reducible apply S_gu); · rfl)
        | ((with_reducible apply S_gs); (· rfl); all_goals (intro hc; rw [hc]; (try simp only [decide_eq_true_eq, decide_eq_false_iff_not, bne_iff_ne, bne_eq_false_iff_eq, beq_iff_eq, beq_eq_false_iff_ne, Bool.not_eq_true', Bool.not_eq_false', Bool.not_not, ne_eq, gt_iff_lt, ge_iff_le] at hc); (try (exfalso; omega)); (try exact absurd rfl hc)))
        | ((with_reducible apply S_pks); (· rfl); all_goals (intro hc; rw [hc]; (try simp only [decide_eq_true_eq, decide_eq_false_iff_not, bne_iff_ne, bne_eq_false_iff_eq, beq_iff_eq, beq_eq_false_iff_ne, Bool.not_eq_true', Bool.not_eq_false', Bool.not_not, ne_eq, gt_iff_lt, ge_iff_le] at hc); (try (exfalso; omega)); (try exact absurd rfl hc)))
        | ((with_reducible apply S_ca); (· rfl); first | refine aggOkS_c ?_)
        | ((with_reducible apply S_cdt); · rfl)
        | ((with_reducible apply S_cdf); · rfl)
        | ((with_reducible apply S_cd); (· rfl); all_goals (intro hc; (try simp only [decide_eq_true_eq, decide_eq_false_iff_not, bne_iff_ne, bne_eq_false_iff_eq, beq_iff_eq, beq_eq_false_iff_ne, Bool.not_eq_true', Bool.not_eq_false', Bool.not_not, ne_eq, gt_iff_lt, ge_iff_le] at hc); (try (exfalso; omega)); (try exact absurd rfl hc)))
        | with_reducible apply S_rt
        | with_reducible apply S_bk
        | with_reducible apply S_sk
        | with_reducible apply S_xt
        | with_reducible apply S_q2
        | with_reducible apply S_q7
        | with_reducible apply S_q1
        | with_reducible apply S_q3
        | with_reducible apply S_q4
        | with_reducible apply S_q6
        | ((with_reducible apply S_q5); · rfl)
        | ((with_reducible apply S_fin); · rfl)
        | ((with_reducible apply S_fin'); · rfl)
      · exact h _ (bad1 hx hc)
      · exact ⟨1, by dsimp only; omega, EL_r rfl (EL_r rfl (EL_x rfl EL_nil)), rfl, hlt, good1 hg hx hc (fun y h0 => by omega)⟩
    · obtain ⟨y, hy⟩ := get_lt (l := s.aggs) (i := i - 1) (by omega)
      obtain ⟨_, e, hr'⟩ := HasAll.get encA_len (by decide) hA hy
      obtain rfl := Option.some.inj e
      repeat' first
        | ((with_reducible apply S_ia); (· rfl); (· rfl); (· omega))
        | ((with_reducible apply S_inc); (· rfl); (· omega))
        | ((with_reducible apply S_dec); (· rfl); (· omega); (· omega))
        | ((with_reducible apply S_ld (vs := encA x) (v := va x)); (· rfl); (· rfl); (· exact hr); (· rfl))
        | ((with_reducible apply S_ld (vs := encA y) (v := va y)); (· rfl); (· rfl); (· exact hr'); (· rfl))
        | ((with_reducible apply S_pv); · rfl)
        | ((with_reducible apply S_sv); · rfl)
        | with_reducible apply S_nil2
        | with_reducible apply S_nil
        | with_reducible apply S_sq
        | with_reducible apply S_rg
        | ((with_reducible apply S_nv); · rfl)
        | ((with_reducible apply S_gt); · rfl)
        | ((with_reducible apply S_gf); · rfl)
        | ((with_reducible apply S_gu); · rfl)
        | ((with_reducible apply S_gs); (· rfl); all_goals (intro hc; rw [hc]; (try simp only [decide_eq_true_eq, decide_eq_false_iff_not, bne_iff_ne, bne_eq_false_iff_eq, beq_iff_eq, beq_eq_false_iff_ne, Bool.not_eq_true', Bool.not_eq_false', Bool.not_not, ne_eq, gt_iff_lt, ge_iff_le] at hc); (try (exfalso; omega)); (try exact absurd rfl hc)))
        | ((with_reducible apply S_pks); (· rfl); all_goals (intro hc; rw [hc]; (try simp only [decide_eq_true_eq, decide_eq_false_iff_not, bne_iff_ne, bne_eq_false_iff_eq, beq_iff_eq, beq_eq_false_iff_ne, Bool.not_eq_true', Bool.not_eq_false', Bool.not_not, ne_eq, gt_iff_lt, ge_iff_le] at hc); (try (exfalso; omega)); (try exact absurd rfl hc)))
        | ((with_reducible apply S_ca); (· rfl); first | refine aggOkS_c ?_ | refine ahead_c ?_)
        | ((with_reducible apply S_cdt); · rfl)
        | ((with_reducible apply S_cdf); · rfl)
        | ((with_reducible apply S_cd); (· rfl); all_goals (intro hc; (try simp only [decide_eq_true_eq, decide_eq_false_iff_not, bne_iff_ne, bne_eq_false_iff_eq, beq_iff_eq, beq_eq_false_iff_ne, Bool.not_eq_true', Bool.not_eq_false', Bool.not_not, ne_eq, gt_iff_lt, ge_iff_le] at hc); (try (exfalso; omega)); (try exact absurd rfl hc)))
        | with_reducible apply S_rt
        | with_reducible apply S_bk
        | with_reducible apply S_sk
        | with_reducible apply S_xt
        | with_reducible apply S_q2
        | with_reducible apply S_q7
        | with_reducible apply S_q1
        | with_reducible apply S_q3
        | with_reducible apply S_q4
        | with_reducible apply S_q6
        | ((with_reducible apply S_q5); · rfl)
        | ((with_reducible apply S_fin); · rfl)
        | ((with_reducible apply S_fin'); · rfl)
      · exact h _ (bad1 hx hc)
      · exact h _ (bad2 hx hy hpos hc)
      · rename_i hok _
        exact ⟨i + 1, by dsimp only; omega, EL_r rfl (EL_r rfl (EL_x rfl EL_nil)), rfl, hlt, good1 hg hx (by assumption) (fun z _ hz => by obtain rfl := Option.some.inj (hy.symm.trans hz); assumption)⟩
  · skip
    repeat' first
      | ((with_reducible apply S_pv); · rfl)
      | ((with_reducible apply S_sv); · rfl)
      | with_reducible apply S_nil2
      | with_reducible apply S_nil
      | with_reducible apply S_sq
      | with_reducible apply S_rg
      | ((with_reducible apply S_nv); · rfl)
      | ((with_reducible apply S_gt); · rfl)
      | ((with_reducible apply S_gf); · rfl)
      | ((with_reducible apply S_gu); · rfl)
      | ((with_reducible apply S_gs); (· rfl); all_goals (intro hc; rw [hc]; (try simp only [decide_eq_true_eq, decide_eq_false_iff_not, bne_iff_ne, bne_eq_false_iff_eq, beq_iff_eq, beq_eq_false_iff_ne, Bool.not_eq_true', Bool.not_eq_false', Bool.not_not, ne_eq, gt_iff_lt, ge_iff_le] at hc); (try (exfalso; omega)); (try exact absurd rfl hc)))
      | ((with_reducible apply S_pks); (· rfl); all_goals (intro hc; rw [hc]; (try simp only [decide_eq_true_eq, decide_eq_false_iff_not, bne_iff_ne, bne_eq_false_iff_eq, beq_iff_eq, beq_eq_false_iff_ne, Bool.not_eq_true', Bool.not_eq_false', Bool.not_not, ne_eq, gt_iff_lt, ge_iff_le] at hc); (try (exfalso; omega)); (try exact absurd rfl hc)))
      | ((with_reducible apply S_cdt); · rfl)
      | ((with_reducible apply S_cdf); · rfl)
      | ((with_reducible apply S_cd); (· rfl); all_goals (intro hc; (try simp only [decide_eq_true_eq, decide_eq_false_iff_not, bne_iff_ne, bne_eq_false_iff_eq, beq_iff_eq, beq_eq_false_iff_ne, Bool.not_eq_true', Bool.not_eq_false', Bool.not_not, ne_eq, gt_iff_lt, ge_iff_le] at hc); (try (exfalso; omega)); (try exact absurd rfl hc)))
      | with_reducible apply S_rt
      | with_reducible apply S_bk
      | with_reducible apply S_sk
      | with_reducible apply S_xt
      | with_reducible apply S_q2
      | with_reducible apply S_q7
      | with_reducible apply S_q1
      | with_reducible apply S_q3
      | with_reducible apply S_q4
      | with_reducible apply S_q6
      | ((with_reducible apply S_q5); · rfl)
      | ((with_reducible apply S_fin); · rfl)
      | ((with_reducible apply S_fin'); · rfl)
    refine h _ ⟨fun _ => ⟨by omega, by simp_all, by simp_all, by simp_all, fun j x hj => hg j x (by omega)⟩, fun _ => rfl⟩
theorem saveOkS_c {s : Save} {v : Value} (ha : RdS encA H v s.sh.aggs) (h : ∀ b : Bool, (b = true ↔ SvOk s) → Q (vb b) H) : CallR Try.prog 58 [vSv v s] H Q := by
  refine callR_body Try.func58 t58 rfl ?_
  dsimp only [c58]
  repeat' first
    | ((with_reducible apply S_pv); · rfl)
    | ((with_reducible apply S_sv); · rfl)
    | with_reducible apply S_nil2
    | with_reducible apply S_nil
    | with_reducible apply S_sq
    | with_reducible apply S_rg
    | ((with_reducible apply S_nv); · rfl)
    | ((with_reducible apply S_gt); · rfl)
    | ((with_reducible apply S_gf); · rfl)
    | ((with_reducible apply S_gu); · rfl)
    | ((with_reducible apply S_gs); (· rfl); all_goals (intro hc; rw [hc]; (try simp only [decide_eq_true_eq, decide_eq_false_iff_not, bne_iff_ne, bne_eq_false_iff_eq, beq_iff_eq, beq_eq_false_iff_ne, Bool.not_eq_true', Bool.not_eq_false', Bool.not_not, ne_eq, gt_iff_lt, ge_iff_le] at hc); (try (exfalso; omega)); (try exact absurd rfl hc)))
    | ((with_reducible apply S_pks); (· rfl); all_goals (intro hc; rw [hc]; (try simp only [decide_eq_true_eq, decide_eq_false_iff_not, bne_iff_ne, bne_eq_false_iff_eq, beq_iff_eq, beq_eq_false_iff_ne, Bool.not_eq_true', Bool.not_eq_false', Bool.not_not, ne_eq, gt_iff_lt, ge_iff_le] at hc); (try (exfalso; omega)); (try exact absurd rfl hc)))
    | ((with_reducible apply S_ca); (· rfl); first | refine l01In_c ?_ | refine shardOkS_c (s := s.sh) ha (fun c hc => ?_))
    | ((with_reducible apply S_cdt); · rfl)
    | ((with_reducible apply S_cdf); · rfl)
    | ((with_reducible apply S_cd); (· rfl); all_goals (intro hc; (try simp only [decide_eq_true_eq, decide_eq_false_iff_not, bne_iff_ne, bne_eq_false_iff_eq, beq_iff_eq, beq_eq_false_iff_ne, Bool.not_eq_true', Bool.not_eq_false', Bool.not_not, ne_eq, gt_iff_lt, ge_iff_le] at hc); (try (exfalso; omega)); (try exact absurd rfl hc)))
    | with_reducible apply S_rt
    | with_reducible apply S_bk
    | with_reducible apply S_sk
    | with_reducible apply S_xt
    | with_reducible apply S_q2
    | with_reducible apply S_q7
    | with_reducible apply S_q1
    | with_reducible apply S_q3
    | with_reducible apply S_q4
    | with_reducible apply S_q6
    | ((with_reducible apply S_q5); · rfl)
    | ((with_reducible apply S_fin); · rfl)
    | ((with_reducible apply S_fin'); · rfl)
  · rename_i h2; exact h _ ⟨fun e => ⟨h2, hc.1 e⟩, fun e => hc.2 e.2⟩
  · exact h _ ⟨fun e => (by cases e), fun e => by have := e.1; rw [hc] at this; cases this⟩

/-! The program's own -/
def cmpI (a b : Int) : Int := if a < b then -1 else if b < a then 1 else 0
theorem isNaN_c {a : Int} (h : Q (vb false) H) : CallR Try.prog 153 [vi a] H Q := by
  refine callR_body Try.func153 t153 rfl ?_
  dsimp only [c153]
  repeat' first
    | ((with_reducible apply S_pv); · rfl)
    | ((with_reducible apply S_sv); · rfl)
    | with_reducible apply S_nil2
    | with_reducible apply S_nil
    | with_reducible apply S_sq
    | with_reducible apply S_rg
    | ((with_reducible apply S_nv); · rfl)
    | ((with_reducible apply S_gt); · rfl)
    | ((with_reducible apply S_gf); · rfl)
    | ((with_reducible apply S_gu); · rfl)
    | ((with_reducible apply S_gs); (· rfl); all_goals (intro hc; rw [hc]; (try simp only [decide_eq_true_eq, decide_eq_false_iff_not, bne_iff_ne, bne_eq_false_iff_eq, beq_iff_eq, beq_eq_false_iff_ne, Bool.not_eq_true', Bool.not_eq_false', Bool.not_not, ne_eq, gt_iff_lt, ge_iff_le] at hc); (try (exfalso; omega)); (try exact absurd rfl hc)))
    | ((with_reducible apply S_pks); (· rfl); all_goals (intro hc; rw [hc]; (try simp only [decide_eq_true_eq, decide_eq_false_iff_not, bne_iff_ne, bne_eq_false_iff_eq, beq_iff_eq, beq_eq_false_iff_ne, Bool.not_eq_true', Bool.not_eq_false', Bool.not_not, ne_eq, gt_iff_lt, ge_iff_le] at hc); (try (exfalso; omega)); (try exact absurd rfl hc)))
    | ((with_reducible apply S_cdt); · rfl)
    | ((with_reducible apply S_cdf); · rfl)
    | ((with_reducible apply S_cd); (· rfl); all_goals (intro hc; (try simp only [decide_eq_true_eq, decide_eq_false_iff_not, bne_iff_ne, bne_eq_false_iff_eq, beq_iff_eq, beq_eq_false_iff_ne, Bool.not_eq_true', Bool.not_eq_false', Bool.not_not, ne_eq, gt_iff_lt, ge_iff_le] at hc); (try (exfalso; omega)); (try exact absurd rfl hc)))
    | with_reducible apply S_rt
    | with_reducible apply S_bk
    | with_reducible apply S_sk
    | with_reducible apply S_xt
    | with_reducible apply S_q2
    | with_reducible apply S_q7
    | with_reducible apply S_q1
    | with_reducible apply S_q3
    | with_reducible apply S_q4
    | with_reducible apply S_q6
    | ((with_reducible apply S_q5); · rfl)
    | ((with_reducible apply S_fin); · rfl)
    | ((with_reducible apply S_fin'); · rfl)
  rw [show (a != a) = false by simp]; exact h
theorem cmp_c {a b : Int} (h : Q (vi (cmpI a b)) H) : CallR Try.prog 149 [vi a, vi b] H Q := by
  refine callR_body Try.func149 t149 rfl ?_
  dsimp only [c149]
  repeat' first
    | ((with_reducible apply S_pv); · rfl)
    | ((with_reducible apply S_sv); · rfl)
    | with_reducible apply S_nil2
    | with_reducible apply S_nil
    | with_reducible apply S_sq
    | with_reducible apply S_rg
    | ((with_reducible apply S_nv); · rfl)
    | ((with_reducible apply S_gt); · rfl)
    | ((with_reducible apply S_gf); · rfl)
    | ((with_reducible apply S_gu); · rfl)
    | ((with_reducible apply S_gs); (· rfl); all_goals (intro hc; rw [hc]; (try simp only [decide_eq_true_eq, decide_eq_false_iff_not, bne_iff_ne, bne_eq_false_iff_eq, beq_iff_eq, beq_eq_false_iff_ne, Bool.not_eq_true', Bool.not_eq_false', Bool.not_not, ne_eq, gt_iff_lt, ge_iff_le] at hc); (try (exfalso; omega)); (try exact absurd rfl hc)))
    | ((with_reducible apply S_pks); (· rfl); all_goals (intro hc; rw [hc]; (try simp only [decide_eq_true_eq, decide_eq_false_iff_not, bne_iff_ne, bne_eq_false_iff_eq, beq_iff_eq, beq_eq_false_iff_ne, Bool.not_eq_true', Bool.not_eq_false', Bool.not_not, ne_eq, gt_iff_lt, ge_iff_le] at hc); (try (exfalso; omega)); (try exact absurd rfl hc)))
    | ((with_reducible apply S_ca); (· rfl); first | refine isNaN_c ?_)
    | ((with_reducible apply S_cdt); · rfl)
    | ((with_reducible apply S_cdf); · rfl)
    | ((with_reducible apply S_cd); (· rfl); all_goals (intro hc; (try simp only [decide_eq_true_eq, decide_eq_false_iff_not, bne_iff_ne, bne_eq_false_iff_eq, beq_iff_eq, beq_eq_false_iff_ne, Bool.not_eq_true', Bool.not_eq_false', Bool.not_not, ne_eq, gt_iff_lt, ge_iff_le] at hc); (try (exfalso; omega)); (try exact absurd rfl hc)))
    | with_reducible apply S_rt
    | with_reducible apply S_bk
    | with_reducible apply S_sk
    | with_reducible apply S_xt
    | with_reducible apply S_q2
    | with_reducible apply S_q7
    | with_reducible apply S_q1
    | with_reducible apply S_q3
    | with_reducible apply S_q4
    | with_reducible apply S_q6
    | ((with_reducible apply S_q5); · rfl)
    | ((with_reducible apply S_fin); · rfl)
    | ((with_reducible apply S_fin'); · rfl)
  all_goals (unfold cmpI at h; first | (rw [if_pos (by omega)] at h; exact h) | (rw [if_neg (by omega), if_pos (by omega)] at h; exact h) | (rw [if_neg (by omega), if_neg (by omega)] at h; exact h))
theorem or_c {b : Nat} {c1 c2 : Int} {t : TypeId} (ho : H.own b = some ([vi c1, vi c2], t)) (h : Q (vi (if c1 = 0 then c2 else c1)) H) : CallR Try.prog 148 [sl b 2] H Q := by
  have hh : ∀ j u, [vi c1, vi c2][j]? = some u → H.Has ((⟨b, 0, none⟩ : Addr).add (j * 1)) u := fun j u hu => by rw [add0, Nat.mul_one]; exact Has.of_own ho hu
  refine callR_body Try.func148 t148 rfl ?_
  dsimp only [c148]
  repeat' first
    | ((with_reducible apply S_pv); · rfl)
    | ((with_reducible apply S_sv); · rfl)
    | with_reducible apply S_nil2
    | with_reducible apply S_nil
    | with_reducible apply S_sq
    | with_reducible apply S_rg
    | ((with_reducible apply S_nv); · rfl)
    | ((with_reducible apply S_gt); · rfl)
    | ((with_reducible apply S_gf); · rfl)
    | ((with_reducible apply S_gu); · rfl)
    | ((with_reducible apply S_gs); (· rfl); all_goals (intro hc; rw [hc]; (try simp only [decide_eq_true_eq, decide_eq_false_iff_not, bne_iff_ne, bne_eq_false_iff_eq, beq_iff_eq, beq_eq_false_iff_ne, Bool.not_eq_true', Bool.not_eq_false', Bool.not_not, ne_eq, gt_iff_lt, ge_iff_le] at hc); (try (exfalso; omega)); (try exact absurd rfl hc)))
    | ((with_reducible apply S_pks); (· rfl); all_goals (intro hc; rw [hc]; (try simp only [decide_eq_true_eq, decide_eq_false_iff_not, bne_iff_ne, bne_eq_false_iff_eq, beq_iff_eq, beq_eq_false_iff_ne, Bool.not_eq_true', Bool.not_eq_false', Bool.not_not, ne_eq, gt_iff_lt, ge_iff_le] at hc); (try (exfalso; omega)); (try exact absurd rfl hc)))
    | ((with_reducible apply S_cdt); · rfl)
    | ((with_reducible apply S_cdf); · rfl)
    | ((with_reducible apply S_cd); (· rfl); all_goals (intro hc; (try simp only [decide_eq_true_eq, decide_eq_false_iff_not, bne_iff_ne, bne_eq_false_iff_eq, beq_iff_eq, beq_eq_false_iff_ne, Bool.not_eq_true', Bool.not_eq_false', Bool.not_not, ne_eq, gt_iff_lt, ge_iff_le] at hc); (try (exfalso; omega)); (try exact absurd rfl hc)))
    | with_reducible apply S_rt
    | with_reducible apply S_bk
    | with_reducible apply S_sk
    | with_reducible apply S_xt
    | with_reducible apply S_q2
    | with_reducible apply S_q7
    | with_reducible apply S_q1
    | with_reducible apply S_q3
    | with_reducible apply S_q4
    | with_reducible apply S_q6
    | ((with_reducible apply S_q5); · rfl)
    | ((with_reducible apply S_fin); · rfl)
    | ((with_reducible apply S_fin'); · rfl)
  refine S_lpE (fun i : Nat => [(6, .v (sl b 2)), (7, .v (vi 2)), (8, .v (vi i)), (3, .v (vi 0))]) (fun _ => []) (fun i H' => H' = H ∧ i ≤ 2 ∧ (0 < i → c1 = 0) ∧ (1 < i → c2 = 0)) (fun i => 2 - i) 0 (EL_r rfl (EL_r rfl (EL_r rfl (EL_r rfl EL_nil)))) ⟨rfl, by omega, by omega, by omega⟩ ?_
  rintro i H' ⟨rfl, hi, h1, h2⟩
  have hi3 : i = 0 ∨ i = 1 ∨ i = 2 := by omega
  rcases hi3 with rfl | rfl | rfl
  · skip
    repeat' first
      | ((with_reducible apply S_ia); (· rfl); (· rfl); (· omega))
      | ((with_reducible apply S_inc); (· rfl); (· omega))
      | ((with_reducible apply S_ld1); (· rfl); (· exact hh 0 _ rfl))
      | ((with_reducible apply S_pv); · rfl)
      | ((with_reducible apply S_sv); · rfl)
      | with_reducible apply S_nil2
      | with_reducible apply S_nil
      | with_reducible apply S_sq
      | with_reducible apply S_rg
      | ((with_reducible apply S_nv); · rfl)
      | ((with_reducible apply S_gt); · rfl)
      | ((with_reducible apply S_gf); · rfl)
      | ((with_reducible apply S_gu); · rfl)
      | ((with_reducible apply S_gs); (· rfl); all_goals (intro hc; rw [hc]; (try simp only [decide_eq_true_eq, decide_eq_false_iff_not, bne_iff_ne, bne_eq_false_iff_eq, beq_iff_eq, beq_eq_false_iff_ne, Bool.not_eq_true', Bool.not_eq_false', Bool.not_not, ne_eq, gt_iff_lt, ge_iff_le] at hc); (try (exfalso; omega)); (try exact absurd rfl hc)))
      | ((with_reducible apply S_pks); (· rfl); all_goals (intro hc; rw [hc]; (try simp only [decide_eq_true_eq, decide_eq_false_iff_not, bne_iff_ne, bne_eq_false_iff_eq, beq_iff_eq, beq_eq_false_iff_ne, Bool.not_eq_true', Bool.not_eq_false', Bool.not_not, ne_eq, gt_iff_lt, ge_iff_le] at hc); (try (exfalso; omega)); (try exact absurd rfl hc)))
      | ((with_reducible apply S_cdt); · rfl)
      | ((with_reducible apply S_cdf); · rfl)
      | ((with_reducible apply S_cd); (· rfl); all_goals (intro hc; (try simp only [decide_eq_true_eq, decide_eq_false_iff_not, bne_iff_ne, bne_eq_false_iff_eq, beq_iff_eq, beq_eq_false_iff_ne, Bool.not_eq_true', Bool.not_eq_false', Bool.not_not, ne_eq, gt_iff_lt, ge_iff_le] at hc); (try (exfalso; omega)); (try exact absurd rfl hc)))
      | with_reducible apply S_rt
      | with_reducible apply S_bk
      | with_reducible apply S_sk
      | with_reducible apply S_xt
      | with_reducible apply S_q2
      | with_reducible apply S_q7
      | with_reducible apply S_q1
      | with_reducible apply S_q3
      | with_reducible apply S_q4
      | with_reducible apply S_q6
      | ((with_reducible apply S_q5); · rfl)
      | ((with_reducible apply S_fin); · rfl)
      | ((with_reducible apply S_fin'); · rfl)
    · rw [if_neg (by assumption)] at h; exact h
    · exact ⟨1, by dsimp only; omega, EL_r rfl (EL_r rfl (EL_r rfl (EL_r rfl EL_nil))), rfl, by omega, fun _ => by assumption, by omega⟩
  · have hc1 := h1 (by omega)
    repeat' first
      | ((with_reducible apply S_ia); (· rfl); (· rfl); (· omega))
      | ((with_reducible apply S_inc); (· rfl); (· omega))
      | ((with_reducible apply S_ld1); (· rfl); (· exact hh 1 _ rfl))
      | ((with_reducible apply S_pv); · rfl)
      | ((with_reducible apply S_sv); · rfl)
      | with_reducible apply S_nil2
      | with_reducible apply S_nil
      | with_reducible apply S_sq
      | with_reducible apply S_rg
      | ((with_reducible apply S_nv); · rfl)
      | ((with_reducible apply S_gt); · rfl)
      | ((with_reducible apply S_gf); · rfl)
      | ((with_reducible apply S_gu); · rfl)
      | ((with_reducible apply S_gs); (· rfl); all_goals (intro hc; rw [hc]; (try simp only [decide_eq_true_eq, decide_eq_false_iff_not, bne_iff_ne, bne_eq_false_iff_eq, beq_iff_eq, beq_eq_false_iff_ne, Bool.not_eq_true', Bool.not_eq_false', Bool.not_not, ne_eq, gt_iff_lt, ge_iff_le] at hc); (try (exfalso; omega)); (try exact absurd rfl hc)))
      | ((with_reducible apply S_pks); (· rfl); all_goals (intro hc; rw [hc]; (try simp only [decide_eq_true_eq, decide_eq_false_iff_not, bne_iff_ne, bne_eq_false_iff_eq, beq_iff_eq, beq_eq_false_iff_ne, Bool.not_eq_true', Bool.not_eq_false', Bool.not_not, ne_eq, gt_iff_lt, ge_iff_le] at hc); (try (exfalso; omega)); (try exact absurd rfl hc)))
      | ((with_reducible apply S_cdt); · rfl)
      | ((with_reducible apply S_cdf); · rfl)
      | ((with_reducible apply S_cd); (· rfl); all_goals (intro hc; (try simp only [decide_eq_true_eq, decide_eq_false_iff_not, bne_iff_ne, bne_eq_false_iff_eq, beq_iff_eq, beq_eq_false_iff_ne, Bool.not_eq_true', Bool.not_eq_false', Bool.not_not, ne_eq, gt_iff_lt, ge_iff_le] at hc); (try (exfalso; omega)); (try exact absurd rfl hc)))
      | with_reducible apply S_rt
      | with_reducible apply S_bk
      | with_reducible apply S_sk
      | with_reducible apply S_xt
      | with_reducible apply S_q2
      | with_reducible apply S_q7
      | with_reducible apply S_q1
      | with_reducible apply S_q3
      | with_reducible apply S_q4
      | with_reducible apply S_q6
      | ((with_reducible apply S_q5); · rfl)
      | ((with_reducible apply S_fin); · rfl)
      | ((with_reducible apply S_fin'); · rfl)
    · rw [if_pos hc1] at h; exact h
    · exact ⟨2, by dsimp only; omega, EL_r rfl (EL_r rfl (EL_r rfl (EL_r rfl EL_nil))), rfl, by omega, fun _ => hc1, fun _ => by assumption⟩
  · skip
    repeat' first
      | ((with_reducible apply S_pv); · rfl)
      | ((with_reducible apply S_sv); · rfl)
      | with_reducible apply S_nil2
      | with_reducible apply S_nil
      | with_reducible apply S_sq
      | with_reducible apply S_rg
      | ((with_reducible apply S_nv); · rfl)
      | ((with_reducible apply S_gt); · rfl)
      | ((with_reducible apply S_gf); · rfl)
      | ((with_reducible apply S_gu); · rfl)
      | ((with_reducible apply S_gs); (· rfl); all_goals (intro hc; rw [hc]; (try simp only [decide_eq_true_eq, decide_eq_false_iff_not, bne_iff_ne, bne_eq_false_iff_eq, beq_iff_eq, beq_eq_false_iff_ne, Bool.not_eq_true', Bool.not_eq_false', Bool.not_not, ne_eq, gt_iff_lt, ge_iff_le] at hc); (try (exfalso; omega)); (try exact absurd rfl hc)))
      | ((with_reducible apply S_pks); (· rfl); all_goals (intro hc; rw [hc]; (try simp only [decide_eq_true_eq, decide_eq_false_iff_not, bne_iff_ne, bne_eq_false_iff_eq, beq_iff_eq, beq_eq_false_iff_ne, Bool.not_eq_true', Bool.not_eq_false', Bool.not_not, ne_eq, gt_iff_lt, ge_iff_le] at hc); (try (exfalso; omega)); (try exact absurd rfl hc)))
      | ((with_reducible apply S_cdt); · rfl)
      | ((with_reducible apply S_cdf); · rfl)
      | ((with_reducible apply S_cd); (· rfl); all_goals (intro hc; (try simp only [decide_eq_true_eq, decide_eq_false_iff_not, bne_iff_ne, bne_eq_false_iff_eq, beq_iff_eq, beq_eq_false_iff_ne, Bool.not_eq_true', Bool.not_eq_false', Bool.not_not, ne_eq, gt_iff_lt, ge_iff_le] at hc); (try (exfalso; omega)); (try exact absurd rfl hc)))
      | with_reducible apply S_rt
      | with_reducible apply S_bk
      | with_reducible apply S_sk
      | with_reducible apply S_xt
      | with_reducible apply S_q2
      | with_reducible apply S_q7
      | with_reducible apply S_q1
      | with_reducible apply S_q3
      | with_reducible apply S_q4
      | with_reducible apply S_q6
      | ((with_reducible apply S_q5); · rfl)
      | ((with_reducible apply S_fin); · rfl)
      | ((with_reducible apply S_fin'); · rfl)
    rw [if_pos (h1 (by omega)), h2 (by omega)] at h; exact h
end Go.Proofs.Ytbmoifddenagiaa.C
open Go Go.HL Go.Proofs
namespace Go.Proofs.Ytbmoifddenagiaa.C
set_option linter.unusedVariables false
set_option maxRecDepth 100000
set_option linter.unusedSimpArgs false
variable {H : Hp} {Q : Value → Hp → Prop}
theorem order_c {a b : Agg} (h : ∀ (r : Int) H', H.le H' → (r < 0 ↔ ahead a b = true) → Q (vi r) H') : CallR Try.prog 133 [va a, va b] H Q := by
  refine callR_body Try.func133 t133 rfl ?_
  dsimp only [c133]
  repeat' first
    | ((with_reducible apply S_al); (· rfl); (intro bb hb))
    | ((with_reducible apply S_pv); · rfl)
    | ((with_reducible apply S_sv); · rfl)
    | with_reducible apply S_nil2
    | with_reducible apply S_nil
    | with_reducible apply S_sq
    | with_reducible apply S_rg
    | ((with_reducible apply S_nv); · rfl)
    | ((with_reducible apply S_gt); · rfl)
    | ((with_reducible apply S_gf); · rfl)
    | ((with_reducible apply S_gu); · rfl)
    | ((with_reducible apply S_gs); (· rfl); all_goals (intro hc; rw [hc]; (try simp only [decide_eq_true_eq, decide_eq_false_iff_not, bne_iff_ne, bne_eq_false_iff_eq, beq_iff_eq, beq_eq_false_iff_ne, Bool.not_eq_true', Bool.not_eq_false', Bool.not_not, ne_eq, gt_iff_lt, ge_iff_le] at hc); (try (exfalso; omega)); (try exact absurd rfl hc)))
    | ((with_reducible apply S_pks); (· rfl); all_goals (intro hc; rw [hc]; (try simp only [decide_eq_true_eq, decide_eq_false_iff_not, bne_iff_ne, bne_eq_false_iff_eq, beq_iff_eq, beq_eq_false_iff_ne, Bool.not_eq_true', Bool.not_eq_false', Bool.not_not, ne_eq, gt_iff_lt, ge_iff_le] at hc); (try (exfalso; omega)); (try exact absurd rfl hc)))
    | ((with_reducible apply S_ca); (· rfl); first | refine cmp_c ?_ | refine or_c (set_own _ _ _) ?_)
    | ((with_reducible apply S_cdt); · rfl)
    | ((with_reducible apply S_cdf); · rfl)
    | ((with_reducible apply S_cd); (· rfl); all_goals (intro hc; (try simp only [decide_eq_true_eq, decide_eq_false_iff_not, bne_iff_ne, bne_eq_false_iff_eq, beq_iff_eq, beq_eq_false_iff_ne, Bool.not_eq_true', Bool.not_eq_false', Bool.not_not, ne_eq, gt_iff_lt, ge_iff_le] at hc); (try (exfalso; omega)); (try exact absurd rfl hc)))
    | with_reducible apply S_rt
    | with_reducible apply S_bk
    | with_reducible apply S_sk
    | with_reducible apply S_xt
    | with_reducible apply S_q2
    | with_reducible apply S_q7
    | with_reducible apply S_q1
    | with_reducible apply S_q3
    | with_reducible apply S_q4
    | with_reducible apply S_q6
    | ((with_reducible apply S_q5); · rfl)
    | ((with_reducible apply S_fin); · rfl)
    | ((with_reducible apply S_fin'); · rfl)
  refine h _ _ (hb.le _) ?_
  unfold ahead cmpI
  simp only [Bool.or_eq_true, decide_eq_true_eq, Bool.and_eq_true, beq_iff_eq]
  constructor
  · intro e
    repeat' split at e
    all_goals omega
  · intro e
    repeat' split
    all_goals omega
theorem sorted_c {l : List Agg} {v : Value} (ha : RdS encA H v l) (h20 : l.length ≤ 1048576) (h : ∀ (b : Bool) H', H.le H' → (b = true ↔ ∀ (i : Nat) (x y : Agg), 0 < i → l[i - 1]? = some x → l[i]? = some y → ahead x y = true) → Q (vb b) H') : CallR Try.prog 112 [v] H Q := by
  obtain ⟨A, ca, rfl, hA⟩ := ha
  refine callR_body Try.func112 t112 rfl ?_
  dsimp only [c112]
  repeat' first
    | ((with_reducible apply S_pv); · rfl)
    | ((with_reducible apply S_sv); · rfl)
    | with_reducible apply S_nil2
    | with_reducible apply S_nil
    | with_reducible apply S_sq
    | with_reducible apply S_rg
    | ((with_reducible apply S_nv); · rfl)
    | ((with_reducible apply S_gt); · rfl)
    | ((with_reducible apply S_gf); · rfl)
    | ((with_reducible apply S_gu); · rfl)
    | ((with_reducible apply S_gs); (· rfl); all_goals (intro hc; rw [hc]; (try simp only [decide_eq_true_eq, decide_eq_false_iff_not, bne_iff_ne, bne_eq_false_iff_eq, beq_iff_eq, beq_eq_false_iff_ne, Bool.not_eq_true', Bool.not_eq_false', Bool.not_not, ne_eq, gt_iff_lt, ge_iff_le] at hc); (try (exfalso; omega)); (try exact absurd rfl hc)))
    | ((with_reducible apply S_pks); (· rfl); all_goals (intro hc; rw [hc]; (try simp only [decide_eq_true_eq, decide_eq_false_iff_not, bne_iff_ne, bne_eq_false_iff_eq, beq_iff_eq, beq_eq_false_iff_ne, Bool.not_eq_true', Bool.not_eq_false', Bool.not_not, ne_eq, gt_iff_lt, ge_iff_le] at hc); (try (exfalso; omega)); (try exact absurd rfl hc)))
    | ((with_reducible apply S_cdt); · rfl)
    | ((with_reducible apply S_cdf); · rfl)
    | ((with_reducible apply S_cd); (· rfl); all_goals (intro hc; (try simp only [decide_eq_true_eq, decide_eq_false_iff_not, bne_iff_ne, bne_eq_false_iff_eq, beq_iff_eq, beq_eq_false_iff_ne, Bool.not_eq_true', Bool.not_eq_false', Bool.not_not, ne_eq, gt_iff_lt, ge_iff_le] at hc); (try (exfalso; omega)); (try exact absurd rfl hc)))
    | with_reducible apply S_rt
    | with_reducible apply S_bk
    | with_reducible apply S_sk
    | with_reducible apply S_xt
    | with_reducible apply S_q2
    | with_reducible apply S_q7
    | with_reducible apply S_q1
    | with_reducible apply S_q3
    | with_reducible apply S_q4
    | with_reducible apply S_q6
    | ((with_reducible apply S_q5); · rfl)
    | ((with_reducible apply S_fin); · rfl)
    | ((with_reducible apply S_fin'); · rfl)
  refine S_lpE (fun i : Nat => [(0, .v (.slice A l.length ca)), (3, .v (vi ((i + 1 : Nat) : Int)))]) (fun _ => []) (fun i H' => H.le H' ∧ i ≤ l.length ∧ ∀ (j : Nat) (x y : Agg), 0 < j → j ≤ i → l[j - 1]? = some x → l[j]? = some y → ahead x y = true) (fun i => l.length - i) 0 (EL_r rfl (EL_r rfl EL_nil)) ⟨.refl _, by omega, fun j _ _ h1 h2 => by omega⟩ ?_
  rintro i H' ⟨hle, hi, hg⟩
  rcases Nat.lt_or_ge (i + 1) l.length with hlt | hge
  · obtain ⟨x, hx⟩ := get_lt hlt
    obtain ⟨y, hy⟩ := get_lt (l := l) (i := i) (by omega)
    obtain ⟨ad, rfl, hr⟩ := HasAll.get encA_len (by decide) (hA.le hle) hx
    obtain ⟨_, e, hr'⟩ := HasAll.get encA_len (by decide) (hA.le hle) hy
    obtain rfl := Option.some.inj e
    repeat' first
      | ((with_reducible apply S_ia); (· rfl); (· rfl); (· omega))
      | ((with_reducible apply S_inc); (· rfl); (· omega))
      | ((with_reducible apply S_dec); (· rfl); (· omega); (· omega))
      | ((with_reducible apply S_ld (vs := encA x) (v := va x)); (· rfl); (· rfl); (· exact hr); (· rfl))
      | ((with_reducible apply S_ld (vs := encA y) (v := va y)); (· rfl); (· rfl); (· exact hr'); (· rfl))
      | ((with_reducible apply S_pv); · rfl)
      | ((with_reducible apply S_sv); · rfl)
      | with_reducible apply S_nil2
      | with_reducible apply S_nil
      | with_reducible apply S_sq
      | with_reducible apply S_rg
      | ((with_reducible apply S_nv); · rfl)
      | ((with_reducible apply S_gt); · rfl)
      | ((with_reducible apply S_gf); · rfl)
      | ((with_reducible apply S_gu); · rfl)
      | ((with_reducible apply S_gs); (· rfl); all_goals (intro hc; rw [hc]; (try simp only [decide_eq_true_eq, decide_eq_false_iff_not, bne_iff_ne, bne_eq_false_iff_eq, beq_iff_eq, beq_eq_false_iff_ne, Bool.not_eq_true', Bool.not_eq_false', Bool.not_not, ne_eq, gt_iff_lt, ge_iff_le] at hc); (try (exfalso; omega)); (try exact absurd rfl hc)))
      | ((with_reducible apply S_pks); (· rfl); all_goals (intro hc; rw [hc]; (try simp only [decide_eq_true_eq, decide_eq_false_iff_not, bne_iff_ne, bne_eq_false_iff_eq, beq_iff_eq, beq_eq_false_iff_ne, Bool.not_eq_true', Bool.not_eq_false', Bool.not_not, ne_eq, gt_iff_lt, ge_iff_le] at hc); (try (exfalso; omega)); (try exact absurd rfl hc)))
      | ((with_reducible apply S_ca); (· rfl); first | refine order_c (fun r H2 hle2 hr2 => ?_))
      | ((with_reducible apply S_cdt); · rfl)
      | ((with_reducible apply S_cdf); · rfl)
      | ((with_reducible apply S_cd); (· rfl); all_goals (intro hc; (try simp only [decide_eq_true_eq, decide_eq_false_iff_not, bne_iff_ne, bne_eq_false_iff_eq, beq_iff_eq, beq_eq_false_iff_ne, Bool.not_eq_true', Bool.not_eq_false', Bool.not_not, ne_eq, gt_iff_lt, ge_iff_le] at hc); (try (exfalso; omega)); (try exact absurd rfl hc)))
      | with_reducible apply S_rt
      | with_reducible apply S_bk
      | with_reducible apply S_sk
      | with_reducible apply S_xt
      | with_reducible apply S_q2
      | with_reducible apply S_q7
      | with_reducible apply S_q1
      | with_reducible apply S_q3
      | with_reducible apply S_q4
      | with_reducible apply S_q6
      | ((with_reducible apply S_q5); · rfl)
      | ((with_reducible apply S_fin); · rfl)
      | ((with_reducible apply S_fin'); · rfl)
    · refine h _ _ (hle.trans hle2) ⟨fun e => (by cases e), fun k => ?_⟩
      have := hr2.2 (k (i + 1) y x (by omega) hy hx)
      omega
    · refine ⟨i + 1, by dsimp only; omega, EL_r rfl (EL_r rfl EL_nil), hle.trans hle2, by omega, fun j a b h0 hj ha hb => ?_⟩
      rcases Nat.lt_or_ge i j with hji | hji
      · obtain rfl : j = i + 1 := by omega
        obtain rfl := Option.some.inj (hy.symm.trans ha)
        obtain rfl := Option.some.inj (hx.symm.trans hb)
        exact hr2.1 (by omega)
      · exact hg j a b h0 hji ha hb
  · skip
    repeat' first
      | ((with_reducible apply S_pv); · rfl)
      | ((with_reducible apply S_sv); · rfl)
      | with_reducible apply S_nil2
      | with_reducible apply S_nil
      | with_reducible apply S_sq
      | with_reducible apply S_rg
      | ((with_reducible apply S_nv); · rfl)
      | ((with_reducible apply S_gt); · rfl)
      | ((with_reducible apply S_gf); · rfl)
      | ((with_reducible apply S_gu); · rfl)
      | ((with_reducible apply S_gs); (· rfl); all_goals (intro hc; rw [hc]; (try simp only [decide_eq_true_eq, decide_eq_false_iff_not, bne_iff_ne, bne_eq_false_iff_eq, beq_iff_eq, beq_eq_false_iff_ne, Bool.not_eq_true', Bool.not_eq_false', Bool.not_not, ne_eq, gt_iff_lt, ge_iff_le] at hc); (try (exfalso; omega)); (try exact absurd rfl hc)))
      | ((with_reducible apply S_pks); (· rfl); all_goals (intro hc; rw [hc]; (try simp only [decide_eq_true_eq, decide_eq_false_iff_not, bne_iff_ne, bne_eq_false_iff_eq, beq_iff_eq, beq_eq_false_iff_ne, Bool.not_eq_true', Bool.not_eq_false', Bool.not_not, ne_eq, gt_iff_lt, ge_iff_le] at hc); (try (exfalso; omega)); (try exact absurd rfl hc)))
      | ((with_reducible apply S_cdt); · rfl)
      | ((with_reducible apply S_cdf); · rfl)
      | ((with_reducible apply S_cd); (· rfl); all_goals (intro hc; (try simp only [decide_eq_true_eq, decide_eq_false_iff_not, bne_iff_ne, bne_eq_false_iff_eq, beq_iff_eq, beq_eq_false_iff_ne, Bool.not_eq_true', Bool.not_eq_false', Bool.not_not, ne_eq, gt_iff_lt, ge_iff_le] at hc); (try (exfalso; omega)); (try exact absurd rfl hc)))
      | with_reducible apply S_rt
      | with_reducible apply S_bk
      | with_reducible apply S_sk
      | with_reducible apply S_xt
      | with_reducible apply S_q2
      | with_reducible apply S_q7
      | with_reducible apply S_q1
      | with_reducible apply S_q3
      | with_reducible apply S_q4
      | with_reducible apply S_q6
      | ((with_reducible apply S_q5); · rfl)
      | ((with_reducible apply S_fin); · rfl)
      | ((with_reducible apply S_fin'); · rfl)
    exact h _ _ hle ⟨fun _ j x y h0 hx hy => hg j x y h0 (by have := (List.getElem?_eq_some_iff.1 hy).1; omega) hx hy, fun _ => rfl⟩
theorem notAggOk_c {a : Agg} (h : Q (vb (!aggOk a)) H) : CallR Try.prog 131 [va a] H Q := by
  refine callR_body Try.func131 t131 rfl ?_
  dsimp only [c131]
  repeat' first
    | ((with_reducible apply S_pv); · rfl)
    | ((with_reducible apply S_sv); · rfl)
    | with_reducible apply S_nil2
    | with_reducible apply S_nil
    | with_reducible apply S_sq
    | with_reducible apply S_rg
    | ((with_reducible apply S_nv); · rfl)
    | ((with_reducible apply S_gt); · rfl)
    | ((with_reducible apply S_gf); · rfl)
    | ((with_reducible apply S_gu); · rfl)
    | ((with_reducible apply S_gs); (· rfl); all_goals (intro hc; rw [hc]; (try simp only [decide_eq_true_eq, decide_eq_false_iff_not, bne_iff_ne, bne_eq_false_iff_eq, beq_iff_eq, beq_eq_false_iff_ne, Bool.not_eq_true', Bool.not_eq_false', Bool.not_not, ne_eq, gt_iff_lt, ge_iff_le] at hc); (try (exfalso; omega)); (try exact absurd rfl hc)))
    | ((with_reducible apply S_pks); (· rfl); all_goals (intro hc; rw [hc]; (try simp only [decide_eq_true_eq, decide_eq_false_iff_not, bne_iff_ne, bne_eq_false_iff_eq, beq_iff_eq, beq_eq_false_iff_ne, Bool.not_eq_true', Bool.not_eq_false', Bool.not_not, ne_eq, gt_iff_lt, ge_iff_le] at hc); (try (exfalso; omega)); (try exact absurd rfl hc)))
    | ((with_reducible apply S_ca); (· rfl); first | refine aggOkI_c ?_)
    | ((with_reducible apply S_cdt); · rfl)
    | ((with_reducible apply S_cdf); · rfl)
    | ((with_reducible apply S_cd); (· rfl); all_goals (intro hc; (try simp only [decide_eq_true_eq, decide_eq_false_iff_not, bne_iff_ne, bne_eq_false_iff_eq, beq_iff_eq, beq_eq_false_iff_ne, Bool.not_eq_true', Bool.not_eq_false', Bool.not_not, ne_eq, gt_iff_lt, ge_iff_le] at hc); (try (exfalso; omega)); (try exact absurd rfl hc)))
    | with_reducible apply S_rt
    | with_reducible apply S_bk
    | with_reducible apply S_sk
    | with_reducible apply S_xt
    | with_reducible apply S_q2
    | with_reducible apply S_q7
    | with_reducible apply S_q1
    | with_reducible apply S_q3
    | with_reducible apply S_q4
    | with_reducible apply S_q6
    | ((with_reducible apply S_q5); · rfl)
    | ((with_reducible apply S_fin); · rfl)
    | ((with_reducible apply S_fin'); · rfl)
  exact h
theorem idxA_c {l : List Agg} {v : Value} {g : Nat} {p : Agg → Bool} (hg : ∀ (x : Agg) (H : Hp) (Q : Value → Hp → Prop), Q (vb (p x)) H → CallR Try.prog g [va x] H Q) (ha : RdS encA H v l) (h20 : l.length ≤ 1048576) (h : ∀ r : Int, (0 ≤ r ↔ ∃ x, x ∈ l ∧ p x = true) → Q (vi r) H) :
    CallR Try.prog 146 [v, .func (.func g) #[] #[]] H Q := by
  obtain ⟨A, ca, rfl, hA⟩ := ha
  refine callR_body Try.func146 t146 rfl ?_
  dsimp only [c146]
  repeat' first
    | ((with_reducible apply S_pv); · rfl)
    | ((with_reducible apply S_sv); · rfl)
    | with_reducible apply S_nil2
    | with_reducible apply S_nil
    | with_reducible apply S_sq
    | with_reducible apply S_rg
    | ((with_reducible apply S_nv); · rfl)
    | ((with_reducible apply S_gt); · rfl)
    | ((with_reducible apply S_gf); · rfl)
    | ((with_reducible apply S_gu); · rfl)
    | ((with_reducible apply S_gs); (· rfl); all_goals (intro hc; rw [hc]; (try simp only [decide_eq_true_eq, decide_eq_false_iff_not, bne_iff_ne, bne_eq_false_iff_eq, beq_iff_eq, beq_eq_false_iff_ne, Bool.not_eq_true', Bool.not_eq_false', Bool.not_not, ne_eq, gt_iff_lt, ge_iff_le] at hc); (try (exfalso; omega)); (try exact absurd rfl hc)))
    | ((with_reducible apply S_pks); (· rfl); all_goals (intro hc; rw [hc]; (try simp only [decide_eq_true_eq, decide_eq_false_iff_not, bne_iff_ne, bne_eq_false_iff_eq, beq_iff_eq, beq_eq_false_iff_ne, Bool.not_eq_true', Bool.not_eq_false', Bool.not_not, ne_eq, gt_iff_lt, ge_iff_le] at hc); (try (exfalso; omega)); (try exact absurd rfl hc)))
    | ((with_reducible apply S_cdt); · rfl)
    | ((with_reducible apply S_cdf); · rfl)
    | ((with_reducible apply S_cd); (· rfl); all_goals (intro hc; (try simp only [decide_eq_true_eq, decide_eq_false_iff_not, bne_iff_ne, bne_eq_false_iff_eq, beq_iff_eq, beq_eq_false_iff_ne, Bool.not_eq_true', Bool.not_eq_false', Bool.not_not, ne_eq, gt_iff_lt, ge_iff_le] at hc); (try (exfalso; omega)); (try exact absurd rfl hc)))
    | with_reducible apply S_rt
    | with_reducible apply S_bk
    | with_reducible apply S_sk
    | with_reducible apply S_xt
    | with_reducible apply S_q2
    | with_reducible apply S_q7
    | with_reducible apply S_q1
    | with_reducible apply S_q3
    | with_reducible apply S_q4
    | with_reducible apply S_q6
    | ((with_reducible apply S_q5); · rfl)
    | ((with_reducible apply S_fin); · rfl)
    | ((with_reducible apply S_fin'); · rfl)
  refine S_lpE (fun i : Nat => [(0, .v (.slice A l.length ca)), (1, .v (.func (.func g) #[] #[])), (7, .v (vi l.length)), (8, .v (vi i))]) (fun _ => []) (fun i H' => H' = H ∧ i ≤ l.length ∧ ∀ (j : Nat) (x : Agg), j < i → l[j]? = some x → p x = false) (fun i => l.length - i) 0 (EL_r rfl (EL_r rfl (EL_r rfl (EL_r rfl EL_nil)))) ⟨rfl, by omega, fun j _ h1 => by omega⟩ ?_
  rintro i H' ⟨rfl, hi, hn⟩
  rcases Nat.lt_or_ge i l.length with hlt | hge
  · obtain ⟨x, hx⟩ := get_lt hlt
    obtain ⟨ad, rfl, hr⟩ := HasAll.get encA_len (by decide) hA hx
    repeat' first
      | ((with_reducible apply S_ia); (· rfl); (· rfl); (· omega))
      | ((with_reducible apply S_inc); (· rfl); (· omega))
      | ((with_reducible apply S_ld (vs := encA x) (v := va x)); (· rfl); (· rfl); (· exact hr); (· rfl))
      | ((with_reducible apply S_pv); · rfl)
      | ((with_reducible apply S_sv); · rfl)
      | with_reducible apply S_nil2
      | with_reducible apply S_nil
      | with_reducible apply S_sq
      | with_reducible apply S_rg
      | ((with_reducible apply S_nv); · rfl)
      | ((with_reducible apply S_gt); · rfl)
      | ((with_reducible apply S_gf); · rfl)
      | ((with_reducible apply S_gu); · rfl)
      | ((with_reducible apply S_gs); (· rfl); all_goals (intro hc; rw [hc]; (try simp only [decide_eq_true_eq, decide_eq_false_iff_not, bne_iff_ne, bne_eq_false_iff_eq, beq_iff_eq, beq_eq_false_iff_ne, Bool.not_eq_true', Bool.not_eq_false', Bool.not_not, ne_eq, gt_iff_lt, ge_iff_le] at hc); (try (exfalso; omega)); (try exact absurd rfl hc)))
      | ((with_reducible apply S_pks); (· rfl); all_goals (intro hc; rw [hc]; (try simp only [decide_eq_true_eq, decide_eq_false_iff_not, bne_iff_ne, bne_eq_false_iff_eq, beq_iff_eq, beq_eq_false_iff_ne, Bool.not_eq_true', Bool.not_eq_false', Bool.not_not, ne_eq, gt_iff_lt, ge_iff_le] at hc); (try (exfalso; omega)); (try exact absurd rfl hc)))
      | ((with_reducible apply S_ca); (· rfl); first | refine hg x _ _ ?_)
      | ((with_reducible apply S_cdt); · rfl)
      | ((with_reducible apply S_cdf); · rfl)
      | ((with_reducible apply S_cd); (· rfl); all_goals (intro hc; (try simp only [decide_eq_true_eq, decide_eq_false_iff_not, bne_iff_ne, bne_eq_false_iff_eq, beq_iff_eq, beq_eq_false_iff_ne, Bool.not_eq_true', Bool.not_eq_false', Bool.not_not, ne_eq, gt_iff_lt, ge_iff_le] at hc); (try (exfalso; omega)); (try exact absurd rfl hc)))
      | with_reducible apply S_rt
      | with_reducible apply S_bk
      | with_reducible apply S_sk
      | with_reducible apply S_xt
      | with_reducible apply S_q2
      | with_reducible apply S_q7
      | with_reducible apply S_q1
      | with_reducible apply S_q3
      | with_reducible apply S_q4
      | with_reducible apply S_q6
      | ((with_reducible apply S_q5); · rfl)
      | ((with_reducible apply S_fin); · rfl)
      | ((with_reducible apply S_fin'); · rfl)
    · exact h _ ⟨fun _ => ⟨x, List.mem_of_getElem? hx, by assumption⟩, fun _ => by omega⟩
    · refine ⟨i + 1, by dsimp only; omega, EL_r rfl (EL_r rfl (EL_r rfl (EL_r rfl EL_nil))), rfl, hlt, fun j y hj hy => ?_⟩
      rcases Nat.lt_or_ge j i with hji | hji
      · exact hn j y hji hy
      · obtain rfl : j = i := by omega
        obtain rfl := Option.some.inj (hx.symm.trans hy)
        assumption
  · skip
    repeat' first
      | ((with_reducible apply S_pv); · rfl)
      | ((with_reducible apply S_sv); · rfl)
      | with_reducible apply S_nil2
      | with_reducible apply S_nil
      | with_reducible apply S_sq
      | with_reducible apply S_rg
      | ((with_reducible apply S_nv); · rfl)
      | ((with_reducible apply S_gt); · rfl)
      | ((with_reducible apply S_gf); · rfl)
      | ((with_reducible apply S_gu); · rfl)
      | ((with_reducible apply S_gs); (· rfl); all_goals (intro hc; rw [hc]; (try simp only [decide_eq_true_eq, decide_eq_false_iff_not, bne_iff_ne, bne_eq_false_iff_eq, beq_iff_eq, beq_eq_false_iff_ne, Bool.not_eq_true', Bool.not_eq_false', Bool.not_not, ne_eq, gt_iff_lt, ge_iff_le] at hc); (try (exfalso; omega)); (try exact absurd rfl hc)))
      | ((with_reducible apply S_pks); (· rfl); all_goals (intro hc; rw [hc]; (try simp only [decide_eq_true_eq, decide_eq_false_iff_not, bne_iff_ne, bne_eq_false_iff_eq, beq_iff_eq, beq_eq_false_iff_ne, Bool.not_eq_true', Bool.not_eq_false', Bool.not_not, ne_eq, gt_iff_lt, ge_iff_le] at hc); (try (exfalso; omega)); (try exact absurd rfl hc)))
      | ((with_reducible apply S_cdt); · rfl)
      | ((with_reducible apply S_cdf); · rfl)
      | ((with_reducible apply S_cd); (· rfl); all_goals (intro hc; (try simp only [decide_eq_true_eq, decide_eq_false_iff_not, bne_iff_ne, bne_eq_false_iff_eq, beq_iff_eq, beq_eq_false_iff_ne, Bool.not_eq_true', Bool.not_eq_false', Bool.not_not, ne_eq, gt_iff_lt, ge_iff_le] at hc); (try (exfalso; omega)); (try exact absurd rfl hc)))
      | with_reducible apply S_rt
      | with_reducible apply S_bk
      | with_reducible apply S_sk
      | with_reducible apply S_xt
      | with_reducible apply S_q2
      | with_reducible apply S_q7
      | with_reducible apply S_q1
      | with_reducible apply S_q3
      | with_reducible apply S_q4
      | with_reducible apply S_q6
      | ((with_reducible apply S_q5); · rfl)
      | ((with_reducible apply S_fin); · rfl)
      | ((with_reducible apply S_fin'); · rfl)
    refine h _ ⟨fun e => by omega, fun ⟨x, hx, hp⟩ => ?_⟩
    obtain ⟨j, hj, e⟩ := List.getElem_of_mem hx
    have := hn j x (by omega) (by rw [List.getElem?_eq_getElem hj, e])
    rw [hp] at this; cases this
theorem anyA_c {l : List Agg} {v : Value} {g : Nat} {p : Agg → Bool} (hg : ∀ (x : Agg) (H : Hp) (Q : Value → Hp → Prop), Q (vb (p x)) H → CallR Try.prog g [va x] H Q) (ha : RdS encA H v l) (h20 : l.length ≤ 1048576) (h : ∀ b : Bool, (b = true ↔ ∃ x, x ∈ l ∧ p x = true) → Q (vb b) H) :
    CallR Try.prog 130 [v, .func (.func g) #[] #[]] H Q := by
  refine callR_body Try.func130 t130 rfl ?_
  dsimp only [c130]
  repeat' first
    | ((with_reducible apply S_pv); · rfl)
    | ((with_reducible apply S_sv); · rfl)
    | with_reducible apply S_nil2
    | with_reducible apply S_nil
    | with_reducible apply S_sq
    | with_reducible apply S_rg
    | ((with_reducible apply S_nv); · rfl)
    | ((with_reducible apply S_gt); · rfl)
    | ((with_reducible apply S_gf); · rfl)
    | ((with_reducible apply S_gu); · rfl)
    | ((with_reducible apply S_gs); (· rfl); all_goals (intro hc; rw [hc]; (try simp only [decide_eq_true_eq, decide_eq_false_iff_not, bne_iff_ne, bne_eq_false_iff_eq, beq_iff_eq, beq_eq_false_iff_ne, Bool.not_eq_true', Bool.not_eq_false', Bool.not_not, ne_eq, gt_iff_lt, ge_iff_le] at hc); (try (exfalso; omega)); (try exact absurd rfl hc)))
    | ((with_reducible apply S_pks); (· rfl); all_goals (intro hc; rw [hc]; (try simp only [decide_eq_true_eq, decide_eq_false_iff_not, bne_iff_ne, bne_eq_false_iff_eq, beq_iff_eq, beq_eq_false_iff_ne, Bool.not_eq_true', Bool.not_eq_false', Bool.not_not, ne_eq, gt_iff_lt, ge_iff_le] at hc); (try (exfalso; omega)); (try exact absurd rfl hc)))
    | ((with_reducible apply S_ca); (· rfl); first | refine idxA_c hg ha h20 (fun r hr => ?_))
    | ((with_reducible apply S_cdt); · rfl)
    | ((with_reducible apply S_cdf); · rfl)
    | ((with_reducible apply S_cd); (· rfl); all_goals (intro hc; (try simp only [decide_eq_true_eq, decide_eq_false_iff_not, bne_iff_ne, bne_eq_false_iff_eq, beq_iff_eq, beq_eq_false_iff_ne, Bool.not_eq_true', Bool.not_eq_false', Bool.not_not, ne_eq, gt_iff_lt, ge_iff_le] at hc); (try (exfalso; omega)); (try exact absurd rfl hc)))
    | with_reducible apply S_rt
    | with_reducible apply S_bk
    | with_reducible apply S_sk
    | with_reducible apply S_xt
    | with_reducible apply S_q2
    | with_reducible apply S_q7
    | with_reducible apply S_q1
    | with_reducible apply S_q3
    | with_reducible apply S_q4
    | with_reducible apply S_q6
    | ((with_reducible apply S_q5); · rfl)
    | ((with_reducible apply S_fin); · rfl)
    | ((with_reducible apply S_fin'); · rfl)
  exact h _ (by rw [← hr]; simp)
theorem areAggs_c {l : List Agg} {v : Value} (ha : RdS encA H v l) (h20 : l.length ≤ 1048576) (h : ∀ b : Bool, (b = true ↔ ∀ x, x ∈ l → aggOk x = true) → Q (vb b) H) : CallR Try.prog 111 [v] H Q := by
  refine callR_body Try.func111 t111 rfl ?_
  dsimp only [c111]
  repeat' first
    | ((with_reducible apply S_pv); · rfl)
    | ((with_reducible apply S_sv); · rfl)
    | with_reducible apply S_nil2
    | with_reducible apply S_nil
    | with_reducible apply S_sq
    | with_reducible apply S_rg
    | ((with_reducible apply S_nv); · rfl)
    | ((with_reducible apply S_gt); · rfl)
    | ((with_reducible apply S_gf); · rfl)
    | ((with_reducible apply S_gu); · rfl)
    | ((with_reducible apply S_gs); (· rfl); all_goals (intro hc; rw [hc]; (try simp only [decide_eq_true_eq, decide_eq_false_iff_not, bne_iff_ne, bne_eq_false_iff_eq, beq_iff_eq, beq_eq_false_iff_ne, Bool.not_eq_true', Bool.not_eq_false', Bool.not_not, ne_eq, gt_iff_lt, ge_iff_le] at hc); (try (exfalso; omega)); (try exact absurd rfl hc)))
    | ((with_reducible apply S_pks); (· rfl); all_goals (intro hc; rw [hc]; (try simp only [decide_eq_true_eq, decide_eq_false_iff_not, bne_iff_ne, bne_eq_false_iff_eq, beq_iff_eq, beq_eq_false_iff_ne, Bool.not_eq_true', Bool.not_eq_false', Bool.not_not, ne_eq, gt_iff_lt, ge_iff_le] at hc); (try (exfalso; omega)); (try exact absurd rfl hc)))
    | ((with_reducible apply S_ca); (· rfl); first | refine anyA_c (fun x H Q h => notAggOk_c h) ha h20 (fun b hb => ?_))
    | ((with_reducible apply S_cdt); · rfl)
    | ((with_reducible apply S_cdf); · rfl)
    | ((with_reducible apply S_cd); (· rfl); all_goals (intro hc; (try simp only [decide_eq_true_eq, decide_eq_false_iff_not, bne_iff_ne, bne_eq_false_iff_eq, beq_iff_eq, beq_eq_false_iff_ne, Bool.not_eq_true', Bool.not_eq_false', Bool.not_not, ne_eq, gt_iff_lt, ge_iff_le] at hc); (try (exfalso; omega)); (try exact absurd rfl hc)))
    | with_reducible apply S_rt
    | with_reducible apply S_bk
    | with_reducible apply S_sk
    | with_reducible apply S_xt
    | with_reducible apply S_q2
    | with_reducible apply S_q7
    | with_reducible apply S_q1
    | with_reducible apply S_q3
    | with_reducible apply S_q4
    | with_reducible apply S_q6
    | ((with_reducible apply S_q5); · rfl)
    | ((with_reducible apply S_fin); · rfl)
    | ((with_reducible apply S_fin'); · rfl)
  refine h _ ?_
  cases b with
  | true =>
    obtain ⟨x, hx, hp⟩ := hb.1 rfl
    exact ⟨fun e => (by cases e), fun e => by rw [e x hx] at hp; cases hp⟩
  | false =>
    refine ⟨fun _ x hx => ?_, fun _ => rfl⟩
    cases hx2 : aggOk x with
    | true => rfl
    | false => have := hb.2 ⟨x, hx, by rw [hx2]; rfl⟩; cases this
theorem good_iff {l : List Agg} : goodTo l l.length ↔ (∀ x, x ∈ l → aggOk x = true) ∧ ∀ (i : Nat) (x y : Agg), 0 < i → l[i - 1]? = some x → l[i]? = some y → ahead x y = true := by
  constructor
  · refine fun h => ⟨fun x hx => ?_, fun i x y h0 hx hy => (h i y (good_lt hy) hy).2 x h0 hx⟩
    obtain ⟨j, hj, e⟩ := List.getElem_of_mem hx
    exact (h j x hj (by rw [List.getElem?_eq_getElem hj, e])).1
  · exact fun ⟨h1, h2⟩ j x hj hx => ⟨h1 x (List.mem_of_getElem? hx), fun y h0 hy => h2 j y x h0 hy hx⟩
theorem shardOkI_c {s : Shard} {v : Value} (ha : RdS encA H v s.aggs) (h : ∀ (b : Bool) H', H.le H' → (b = true ↔ SOk s) → Q (vb b) H') : CallR Try.prog 79 [vSh v s] H Q := by
  have hv : ∃ A ca, v = .slice A s.aggs.length ca := by obtain ⟨A, ca, e, _⟩ := ha; exact ⟨A, ca, e⟩
  obtain ⟨A, ca, rfl⟩ := hv
  refine callR_body Try.func79 t79 rfl ?_
  dsimp only [c79]
  repeat' first
    | ((with_reducible apply S_pv); · rfl)
    | ((with_reducible apply S_sv); · rfl)
    | with_reducible apply S_nil2
    | with_reducible apply S_nil
    | with_reducible apply S_sq
    | with_reducible apply S_rg
    | ((with_reducible apply S_nv); · rfl)
    | ((with_reducible apply S_gt); · rfl)
    | ((with_reducible apply S_gf); · rfl)
    | ((with_reducible apply S_gu); · rfl)
    | ((with_reducible apply S_gs); (· rfl); all_goals (intro hc; rw [hc]; (try simp only [decide_eq_true_eq, decide_eq_false_iff_not, bne_iff_ne, bne_eq_false_iff_eq, beq_iff_eq, beq_eq_false_iff_ne, Bool.not_eq_true', Bool.not_eq_false', Bool.not_not, ne_eq, gt_iff_lt, ge_iff_le] at hc); (try (exfalso; omega)); (try exact absurd rfl hc)))
    | ((with_reducible apply S_pks); (· rfl); all_goals (intro hc; rw [hc]; (try simp only [decide_eq_true_eq, decide_eq_false_iff_not, bne_iff_ne, bne_eq_false_iff_eq, beq_iff_eq, beq_eq_false_iff_ne, Bool.not_eq_true', Bool.not_eq_false', Bool.not_not, ne_eq, gt_iff_lt, ge_iff_le] at hc); (try (exfalso; omega)); (try exact absurd rfl hc)))
    | ((with_reducible apply S_ca); (· rfl); first | refine areAggs_c ha (by omega) (fun c1 hc1 => ?_) | refine sorted_c ha (by omega) (fun c2 H2 hle2 hc2 => ?_) | refine isMark_c ?_ | refine isMany_c ?_)
    | ((with_reducible apply S_cdt); · rfl)
    | ((with_reducible apply S_cdf); · rfl)
    | ((with_reducible apply S_cd); (· rfl); all_goals (intro hc; (try simp only [decide_eq_true_eq, decide_eq_false_iff_not, bne_iff_ne, bne_eq_false_iff_eq, beq_iff_eq, beq_eq_false_iff_ne, Bool.not_eq_true', Bool.not_eq_false', Bool.not_not, ne_eq, gt_iff_lt, ge_iff_le] at hc); (try (exfalso; omega)); (try exact absurd rfl hc)))
    | with_reducible apply S_rt
    | with_reducible apply S_bk
    | with_reducible apply S_sk
    | with_reducible apply S_xt
    | with_reducible apply S_q2
    | with_reducible apply S_q7
    | with_reducible apply S_q1
    | with_reducible apply S_q3
    | with_reducible apply S_q4
    | with_reducible apply S_q6
    | ((with_reducible apply S_q5); · rfl)
    | ((with_reducible apply S_fin); · rfl)
    | ((with_reducible apply S_fin'); · rfl)
  all_goals first | refine h _ _ hle2 ⟨fun e => ?_, fun e => ?_⟩ | refine h _ _ (.refl _) ⟨fun e => ?_, fun e => ?_⟩
  all_goals first
    | cases e; done
    | (obtain ⟨k1, k2, k3, k4, k5⟩ := e; rw [good_iff] at k5; first | omega | exact k4 | exact absurd (hc2.2 k5.2) (by rw [hc]; simp) | exact absurd (hc1.2 k5.1) (by rw [hc]; simp) | (simp_all; done))
    | exact ⟨by omega, by assumption, by assumption, e, good_iff.2 ⟨hc1.1 (by assumption), hc2.1 (by assumption)⟩⟩
theorem saveOkI_c {s : Save} {v : Value} (ha : RdS encA H v s.sh.aggs) (h : ∀ (b : Bool) H', H.le H' → (b = true ↔ SvOk s) → Q (vb b) H') : CallR Try.prog 98 [vSv v s] H Q := by
  refine callR_body Try.func98 t98 rfl ?_
  dsimp only [c98]
  repeat' first
    | ((with_reducible apply S_pv); · rfl)
    | ((with_reducible apply S_sv); · rfl)
    | with_reducible apply S_nil2
    | with_reducible apply S_nil
    | with_reducible apply S_sq
    | with_reducible apply S_rg
    | ((with_reducible apply S_nv); · rfl)
    | ((with_reducible apply S_gt); · rfl)
    | ((with_reducible apply S_gf); · rfl)
    | ((with_reducible apply S_gu); · rfl)
    | ((with_reducible apply S_gs); (· rfl); all_goals (intro hc; rw [hc]; (try simp only [decide_eq_true_eq, decide_eq_false_iff_not, bne_iff_ne, bne_eq_false_iff_eq, beq_iff_eq, beq_eq_false_iff_ne, Bool.not_eq_true', Bool.not_eq_false', Bool.not_not, ne_eq, gt_iff_lt, ge_iff_le] at hc); (try (exfalso; omega)); (try exact absurd rfl hc)))
    | ((with_reducible apply S_pks); (· rfl); all_goals (intro hc; rw [hc]; (try simp only [decide_eq_true_eq, decide_eq_false_iff_not, bne_iff_ne, bne_eq_false_iff_eq, beq_iff_eq, beq_eq_false_iff_ne, Bool.not_eq_true', Bool.not_eq_false', Bool.not_not, ne_eq, gt_iff_lt, ge_iff_le] at hc); (try (exfalso; omega)); (try exact absurd rfl hc)))
    | ((with_reducible apply S_ca); (· rfl); first | refine within_c ?_ | refine shardOkI_c (s := s.sh) ha (fun c H2 hle hc => ?_))
    | ((with_reducible apply S_cdt); · rfl)
    | ((with_reducible apply S_cdf); · rfl)
    | ((with_reducible apply S_cd); (· rfl); all_goals (intro hc; (try simp only [decide_eq_true_eq, decide_eq_false_iff_not, bne_iff_ne, bne_eq_false_iff_eq, beq_iff_eq, beq_eq_false_iff_ne, Bool.not_eq_true', Bool.not_eq_false', Bool.not_not, ne_eq, gt_iff_lt, ge_iff_le] at hc); (try (exfalso; omega)); (try exact absurd rfl hc)))
    | with_reducible apply S_rt
    | with_reducible apply S_bk
    | with_reducible apply S_sk
    | with_reducible apply S_xt
    | with_reducible apply S_q2
    | with_reducible apply S_q7
    | with_reducible apply S_q1
    | with_reducible apply S_q3
    | with_reducible apply S_q4
    | with_reducible apply S_q6
    | ((with_reducible apply S_q5); · rfl)
    | ((with_reducible apply S_fin); · rfl)
    | ((with_reducible apply S_fin'); · rfl)
  · rename_i h2; exact h _ _ hle ⟨fun e => ⟨h2, hc.1 e⟩, fun e => hc.2 e.2⟩
  · exact h _ _ (.refl _) ⟨fun e => (by cases e), fun e => by have := e.1; rw [hc] at this; cases this⟩
theorem notSaveOk_c {s : Save} {v : Value} (ha : RdS encA H v s.sh.aggs) (h : ∀ (b : Bool) H', H.le H' → (b = true ↔ ¬ SvOk s) → Q (vb b) H') : CallR Try.prog 102 [vSv v s] H Q := by
  refine callR_body Try.func102 t102 rfl ?_
  dsimp only [c102]
  repeat' first
    | ((with_reducible apply S_pv); · rfl)
    | ((with_reducible apply S_sv); · rfl)
    | with_reducible apply S_nil2
    | with_reducible apply S_nil
    | with_reducible apply S_sq
    | with_reducible apply S_rg
    | ((with_reducible apply S_nv); · rfl)
    | ((with_reducible apply S_gt); · rfl)
    | ((with_reducible apply S_gf); · rfl)
    | ((with_reducible apply S_gu); · rfl)
    | ((with_reducible apply S_gs); (· rfl); all_goals (intro hc; rw [hc]; (try simp only [decide_eq_true_eq, decide_eq_false_iff_not, bne_iff_ne, bne_eq_false_iff_eq, beq_iff_eq, beq_eq_false_iff_ne, Bool.not_eq_true', Bool.not_eq_false', Bool.not_not, ne_eq, gt_iff_lt, ge_iff_le] at hc); (try (exfalso; omega)); (try exact absurd rfl hc)))
    | ((with_reducible apply S_pks); (· rfl); all_goals (intro hc; rw [hc]; (try simp only [decide_eq_true_eq, decide_eq_false_iff_not, bne_iff_ne, bne_eq_false_iff_eq, beq_iff_eq, beq_eq_false_iff_ne, Bool.not_eq_true', Bool.not_eq_false', Bool.not_not, ne_eq, gt_iff_lt, ge_iff_le] at hc); (try (exfalso; omega)); (try exact absurd rfl hc)))
    | ((with_reducible apply S_ca); (· rfl); first | refine saveOkI_c ha (fun c H2 hle hc => ?_))
    | ((with_reducible apply S_cdt); · rfl)
    | ((with_reducible apply S_cdf); · rfl)
    | ((with_reducible apply S_cd); (· rfl); all_goals (intro hc; (try simp only [decide_eq_true_eq, decide_eq_false_iff_not, bne_iff_ne, bne_eq_false_iff_eq, beq_iff_eq, beq_eq_false_iff_ne, Bool.not_eq_true', Bool.not_eq_false', Bool.not_not, ne_eq, gt_iff_lt, ge_iff_le] at hc); (try (exfalso; omega)); (try exact absurd rfl hc)))
    | with_reducible apply S_rt
    | with_reducible apply S_bk
    | with_reducible apply S_sk
    | with_reducible apply S_xt
    | with_reducible apply S_q2
    | with_reducible apply S_q7
    | with_reducible apply S_q1
    | with_reducible apply S_q3
    | with_reducible apply S_q4
    | with_reducible apply S_q6
    | ((with_reducible apply S_q5); · rfl)
    | ((with_reducible apply S_fin); · rfl)
    | ((with_reducible apply S_fin'); · rfl)
  exact h _ _ hle (by rw [← hc]; cases c <;> simp)
theorem idxS_c {l : List Save} {v : Value} {g : Nat} {p : Save → Prop} (hg : ∀ (x : Save) (v : Value) (H : Hp) (Q : Value → Hp → Prop), RdS encA H v x.sh.aggs → (∀ (b : Bool) H', H.le H' → (b = true ↔ p x) → Q (vb b) H') → CallR Try.prog g [vSv v x] H Q) (ha : RdG RSv H v l) (h20 : l.length ≤ 1048576) (h : ∀ (r : Int) H', H.le H' → (0 ≤ r ↔ ∃ x, x ∈ l ∧ p x) → Q (vi r) H') :
    CallR Try.prog 125 [v, .func (.func g) #[] #[]] H Q := by
  obtain ⟨A, ca, css, rfl, hl, hel, hA⟩ := ha
  refine callR_body Try.func125 t125 rfl ?_
  dsimp only [c125]
  repeat' first
    | ((with_reducible apply S_pv); · rfl)
    | ((with_reducible apply S_sv); · rfl)
    | with_reducible apply S_nil2
    | with_reducible apply S_nil
    | with_reducible apply S_sq
    | with_reducible apply S_rg
    | ((with_reducible apply S_nv); · rfl)
    | ((with_reducible apply S_gt); · rfl)
    | ((with_reducible apply S_gf); · rfl)
    | ((with_reducible apply S_gu); · rfl)
    | ((with_reducible apply S_gs); (· rfl); all_goals (intro hc; rw [hc]; (try simp only [decide_eq_true_eq, decide_eq_false_iff_not, bne_iff_ne, bne_eq_false_iff_eq, beq_iff_eq, beq_eq_false_iff_ne, Bool.not_eq_true', Bool.not_eq_false', Bool.not_not, ne_eq, gt_iff_lt, ge_iff_le] at hc); (try (exfalso; omega)); (try exact absurd rfl hc)))
    | ((with_reducible apply S_pks); (· rfl); all_goals (intro hc; rw [hc]; (try simp only [decide_eq_true_eq, decide_eq_false_iff_not, bne_iff_ne, bne_eq_false_iff_eq, beq_iff_eq, beq_eq_false_iff_ne, Bool.not_eq_true', Bool.not_eq_false', Bool.not_not, ne_eq, gt_iff_lt, ge_iff_le] at hc); (try (exfalso; omega)); (try exact absurd rfl hc)))
    | ((with_reducible apply S_cdt); · rfl)
    | ((with_reducible apply S_cdf); · rfl)
    | ((with_reducible apply S_cd); (· rfl); all_goals (intro hc; (try simp only [decide_eq_true_eq, decide_eq_false_iff_not, bne_iff_ne, bne_eq_false_iff_eq, beq_iff_eq, beq_eq_false_iff_ne, Bool.not_eq_true', Bool.not_eq_false', Bool.not_not, ne_eq, gt_iff_lt, ge_iff_le] at hc); (try (exfalso; omega)); (try exact absurd rfl hc)))
    | with_reducible apply S_rt
    | with_reducible apply S_bk
    | with_reducible apply S_sk
    | with_reducible apply S_xt
    | with_reducible apply S_q2
    | with_reducible apply S_q7
    | with_reducible apply S_q1
    | with_reducible apply S_q3
    | with_reducible apply S_q4
    | with_reducible apply S_q6
    | ((with_reducible apply S_q5); · rfl)
    | ((with_reducible apply S_fin); · rfl)
    | ((with_reducible apply S_fin'); · rfl)
  refine S_lpE (fun i : Nat => [(0, .v (.slice A l.length ca)), (1, .v (.func (.func g) #[] #[])), (7, .v (vi l.length)), (8, .v (vi i))]) (fun _ => []) (fun i H' => H.le H' ∧ i ≤ l.length ∧ ∀ (j : Nat) (x : Save), j < i → l[j]? = some x → ¬ p x) (fun i => l.length - i) 0 (EL_r rfl (EL_r rfl (EL_r rfl (EL_r rfl EL_nil)))) ⟨.refl _, by omega, fun j _ h1 => by omega⟩ ?_
  rintro i H' ⟨hle, hi, hn⟩
  rcases Nat.lt_or_ge i l.length with hlt | hge
  · obtain ⟨x, hx⟩ := get_lt hlt
    obtain ⟨ad, cs, rfl, ⟨v', rfl, hr', hm'⟩, hr⟩ := RdG.get (fun h => h.len) (by decide) hl hel hA hx
    have hr := fun j u hu => hle.has (hr j u hu)
    repeat' first
      | ((with_reducible apply S_ia); (· rfl); (· rfl); (· omega))
      | ((with_reducible apply S_inc); (· rfl); (· omega))
      | ((with_reducible apply S_ld (vs := encSv v' x) (v := vSv v' x)); (· rfl); (· rfl); (· exact hr); (· rfl))
      | ((with_reducible apply S_pv); · rfl)
      | ((with_reducible apply S_sv); · rfl)
      | with_reducible apply S_nil2
      | with_reducible apply S_nil
      | with_reducible apply S_sq
      | with_reducible apply S_rg
      | ((with_reducible apply S_nv); · rfl)
      | ((with_reducible apply S_gt); · rfl)
      | ((with_reducible apply S_gf); · rfl)
      | ((with_reducible apply S_gu); · rfl)
      | ((with_reducible apply S_gs); (· rfl); all_goals (intro hc; rw [hc]; (try simp only [decide_eq_true_eq, decide_eq_false_iff_not, bne_iff_ne, bne_eq_false_iff_eq, beq_iff_eq, beq_eq_false_iff_ne, Bool.not_eq_true', Bool.not_eq_false', Bool.not_not, ne_eq, gt_iff_lt, ge_iff_le] at hc); (try (exfalso; omega)); (try exact absurd rfl hc)))
      | ((with_reducible apply S_pks); (· rfl); all_goals (intro hc; rw [hc]; (try simp only [decide_eq_true_eq, decide_eq_false_iff_not, bne_iff_ne, bne_eq_false_iff_eq, beq_iff_eq, beq_eq_false_iff_ne, Bool.not_eq_true', Bool.not_eq_false', Bool.not_not, ne_eq, gt_iff_lt, ge_iff_le] at hc); (try (exfalso; omega)); (try exact absurd rfl hc)))
      | ((with_reducible apply S_ca); (· rfl); first | refine hg x v' _ _ (hr'.le hle) (fun b H2 hle2 hb => ?_))
      | ((with_reducible apply S_cdt); · rfl)
      | ((with_reducible apply S_cdf); · rfl)
      | ((with_reducible apply S_cd); (· rfl); all_goals (intro hc; (try simp only [decide_eq_true_eq, decide_eq_false_iff_not, bne_iff_ne, bne_eq_false_iff_eq, beq_iff_eq, beq_eq_false_iff_ne, Bool.not_eq_true', Bool.not_eq_false', Bool.not_not, ne_eq, gt_iff_lt, ge_iff_le] at hc); (try (exfalso; omega)); (try exact absurd rfl hc)))
      | with_reducible apply S_rt
      | with_reducible apply S_bk
      | with_reducible apply S_sk
      | with_reducible apply S_xt
      | with_reducible apply S_q2
      | with_reducible apply S_q7
      | with_reducible apply S_q1
      | with_reducible apply S_q3
      | with_reducible apply S_q4
      | with_reducible apply S_q6
      | ((with_reducible apply S_q5); · rfl)
      | ((with_reducible apply S_fin); · rfl)
      | ((with_reducible apply S_fin'); · rfl)
    · exact h _ _ (hle.trans hle2) ⟨fun _ => ⟨x, List.mem_of_getElem? hx, hb.1 (by assumption)⟩, fun _ => by omega⟩
    · refine ⟨i + 1, by dsimp only; omega, EL_r rfl (EL_r rfl (EL_r rfl (EL_r rfl EL_nil))), hle.trans hle2, hlt, fun j y hj hy => ?_⟩
      rcases Nat.lt_or_ge j i with hji | hji
      · exact hn j y hji hy
      · obtain rfl : j = i := by omega
        obtain rfl := Option.some.inj (hx.symm.trans hy)
        intro hp; rw [hb.2 hp] at *; simp_all
  · skip
    repeat' first
      | ((with_reducible apply S_pv); · rfl)
      | ((with_reducible apply S_sv); · rfl)
      | with_reducible apply S_nil2
      | with_reducible apply S_nil
      | with_reducible apply S_sq
      | with_reducible apply S_rg
      | ((with_reducible apply S_nv); · rfl)
      | ((with_reducible apply S_gt); · rfl)
      | ((with_reducible apply S_gf); · rfl)
      | ((with_reducible apply S_gu); · rfl)
      | ((with_reducible apply S_gs); (· rfl); all_goals (intro hc; rw [hc]; (try simp only [decide_eq_true_eq, decide_eq_false_iff_not, bne_iff_ne, bne_eq_false_iff_eq, beq_iff_eq, beq_eq_false_iff_ne, Bool.not_eq_true', Bool.not_eq_false', Bool.not_not, ne_eq, gt_iff_lt, ge_iff_le] at hc); (try (exfalso; omega)); (try exact absurd rfl hc)))
      | ((with_reducible apply S_pks); (· rfl); all_goals (intro hc; rw [hc]; (try simp only [decide_eq_true_eq, decide_eq_false_iff_not, bne_iff_ne, bne_eq_false_iff_eq, beq_iff_eq, beq_eq_false_iff_ne, Bool.not_eq_true', Bool.not_eq_false', Bool.not_not, ne_eq, gt_iff_lt, ge_iff_le] at hc); (try (exfalso; omega)); (try exact absurd rfl hc)))
      | ((with_reducible apply S_cdt); · rfl)
      | ((with_reducible apply S_cdf); · rfl)
      | ((with_reducible apply S_cd); (· rfl); all_goals (intro hc; (try simp only [decide_eq_true_eq, decide_eq_false_iff_not, bne_iff_ne, bne_eq_false_iff_eq, beq_iff_eq, beq_eq_false_iff_ne, Bool.not_eq_true', Bool.not_eq_false', Bool.not_not, ne_eq, gt_iff_lt, ge_iff_le] at hc); (try (exfalso; omega)); (try exact absurd rfl hc)))
      | with_reducible apply S_rt
      | with_reducible apply S_bk
      | with_reducible apply S_sk
      | with_reducible apply S_xt
      | with_reducible apply S_q2
      | with_reducible apply S_q7
      | with_reducible apply S_q1
      | with_reducible apply S_q3
      | with_reducible apply S_q4
      | with_reducible apply S_q6
      | ((with_reducible apply S_q5); · rfl)
      | ((with_reducible apply S_fin); · rfl)
      | ((with_reducible apply S_fin'); · rfl)
    refine h _ _ hle ⟨fun e => by omega, fun ⟨x, hx, hp⟩ => ?_⟩
    obtain ⟨j, hj, e⟩ := List.getElem_of_mem hx
    exact absurd hp (hn j x (by omega) (by rw [List.getElem?_eq_getElem hj, e]))
theorem anyS_c {l : List Save} {v : Value} {g : Nat} {p : Save → Prop} (hg : ∀ (x : Save) (v : Value) (H : Hp) (Q : Value → Hp → Prop), RdS encA H v x.sh.aggs → (∀ (b : Bool) H', H.le H' → (b = true ↔ p x) → Q (vb b) H') → CallR Try.prog g [vSv v x] H Q) (ha : RdG RSv H v l) (h20 : l.length ≤ 1048576) (h : ∀ (b : Bool) H', H.le H' → (b = true ↔ ∃ x, x ∈ l ∧ p x) → Q (vb b) H') :
    CallR Try.prog 101 [v, .func (.func g) #[] #[]] H Q := by
  refine callR_body Try.func101 t101 rfl ?_
  dsimp only [c101]
  repeat' first
    | ((with_reducible apply S_pv); · rfl)
    | ((with_reducible apply S_sv); · rfl)
    | with_reducible apply S_nil2
    | with_reducible apply S_nil
    | with_reducible apply S_sq
    | with_reducible apply S_rg
    | ((with_reducible apply S_nv); · rfl)
    | ((with_reducible apply S_gt); · rfl)
    | ((with_reducible apply S_gf); · rfl)
    | ((with_reducible apply S_gu); · rfl)
    | ((with_reducible apply S_gs); (· rfl); all_goals (intro hc; rw [hc]; (try simp only [decide_eq_true_eq, decide_eq_false_iff_not, bne_iff_ne, bne_eq_false_iff_eq, beq_iff_eq, beq_eq_false_iff_ne, Bool.not_eq_true', Bool.not_eq_false', Bool.not_not, ne_eq, gt_iff_lt, ge_iff_le] at hc); (try (exfalso; omega)); (try exact absurd rfl hc)))
    | ((with_reducible apply S_pks); (· rfl); all_goals (intro hc; rw [hc]; (try simp only [decide_eq_true_eq, decide_eq_false_iff_not, bne_iff_ne, bne_eq_false_iff_eq, beq_iff_eq, beq_eq_false_iff_ne, Bool.not_eq_true', Bool.not_eq_false', Bool.not_not, ne_eq, gt_iff_lt, ge_iff_le] at hc); (try (exfalso; omega)); (try exact absurd rfl hc)))
    | ((with_reducible apply S_ca); (· rfl); first | refine idxS_c hg ha h20 (fun r H2 hle hr => ?_))
    | ((with_reducible apply S_cdt); · rfl)
    | ((with_reducible apply S_cdf); · rfl)
    | ((with_reducible apply S_cd); (· rfl); all_goals (intro hc; (try simp only [decide_eq_true_eq, decide_eq_false_iff_not, bne_iff_ne, bne_eq_false_iff_eq, beq_iff_eq, beq_eq_false_iff_ne, Bool.not_eq_true', Bool.not_eq_false', Bool.not_not, ne_eq, gt_iff_lt, ge_iff_le] at hc); (try (exfalso; omega)); (try exact absurd rfl hc)))
    | with_reducible apply S_rt
    | with_reducible apply S_bk
    | with_reducible apply S_sk
    | with_reducible apply S_xt
    | with_reducible apply S_q2
    | with_reducible apply S_q7
    | with_reducible apply S_q1
    | with_reducible apply S_q3
    | with_reducible apply S_q4
    | with_reducible apply S_q6
    | ((with_reducible apply S_q5); · rfl)
    | ((with_reducible apply S_fin); · rfl)
    | ((with_reducible apply S_fin'); · rfl)
  exact h _ _ hle (by rw [← hr]; simp)
def Good (l : List Save) : Prop := l.length ≤ 20 ∧ ∀ x, x ∈ l → SvOk x
theorem areSaves_c {l : List Save} {v : Value} (ha : RdG RSv H v l) (h : ∀ (b : Bool) H', H.le H' → (b = true ↔ Good l) → Q (vb b) H') : CallR Try.prog 66 [v] H Q := by
  have hv : ∃ A ca, v = .slice A l.length ca := by obtain ⟨A, ca, _, e, _⟩ := ha; exact ⟨A, ca, e⟩
  obtain ⟨A, ca, rfl⟩ := hv
  refine callR_body Try.func66 t66 rfl ?_
  dsimp only [c66]
  repeat' first
    | ((with_reducible apply S_pv); · rfl)
    | ((with_reducible apply S_sv); · rfl)
    | with_reducible apply S_nil2
    | with_reducible apply S_nil
    | with_reducible apply S_sq
    | with_reducible apply S_rg
    | ((with_reducible apply S_nv); · rfl)
    | ((with_reducible apply S_gt); · rfl)
    | ((with_reducible apply S_gf); · rfl)
    | ((with_reducible apply S_gu); · rfl)
    | ((with_reducible apply S_gs); (· rfl); all_goals (intro hc; rw [hc]; (try simp only [decide_eq_true_eq, decide_eq_false_iff_not, bne_iff_ne, bne_eq_false_iff_eq, beq_iff_eq, beq_eq_false_iff_ne, Bool.not_eq_true', Bool.not_eq_false', Bool.not_not, ne_eq, gt_iff_lt, ge_iff_le] at hc); (try (exfalso; omega)); (try exact absurd rfl hc)))
    | ((with_reducible apply S_pks); (· rfl); all_goals (intro hc; rw [hc]; (try simp only [decide_eq_true_eq, decide_eq_false_iff_not, bne_iff_ne, bne_eq_false_iff_eq, beq_iff_eq, beq_eq_false_iff_ne, Bool.not_eq_true', Bool.not_eq_false', Bool.not_not, ne_eq, gt_iff_lt, ge_iff_le] at hc); (try (exfalso; omega)); (try exact absurd rfl hc)))
    | ((with_reducible apply S_ca); (· rfl); first | refine anyS_c (p := fun x => ¬ SvOk x) (fun x v H Q h1 h2 => notSaveOk_c h1 h2) ha (by omega) (fun b H2 hle hb => ?_))
    | ((with_reducible apply S_cdt); · rfl)
    | ((with_reducible apply S_cdf); · rfl)
    | ((with_reducible apply S_cd); (· rfl); all_goals (intro hc; (try simp only [decide_eq_true_eq, decide_eq_false_iff_not, bne_iff_ne, bne_eq_false_iff_eq, beq_iff_eq, beq_eq_false_iff_ne, Bool.not_eq_true', Bool.not_eq_false', Bool.not_not, ne_eq, gt_iff_lt, ge_iff_le] at hc); (try (exfalso; omega)); (try exact absurd rfl hc)))
    | with_reducible apply S_rt
    | with_reducible apply S_bk
    | with_reducible apply S_sk
    | with_reducible apply S_xt
    | with_reducible apply S_q2
    | with_reducible apply S_q7
    | with_reducible apply S_q1
    | with_reducible apply S_q3
    | with_reducible apply S_q4
    | with_reducible apply S_q6
    | ((with_reducible apply S_q5); · rfl)
    | ((with_reducible apply S_fin); · rfl)
    | ((with_reducible apply S_fin'); · rfl)
  · refine h _ _ hle ?_
    cases b with
    | true =>
      obtain ⟨x, hx, hp⟩ := hb.1 rfl
      exact ⟨fun e => (by cases e), fun e => absurd (e.2 x hx) hp⟩
    | false =>
      refine ⟨fun _ => ⟨by omega, fun x hx => Classical.byContradiction fun hp => ?_⟩, fun _ => rfl⟩
      have := hb.2 ⟨x, hx, hp⟩; cases this
  · exact h _ _ (.refl _) ⟨fun e => (by cases e), fun e => by have := e.1; omega⟩
end Go.Proofs.Ytbmoifddenagiaa.C
open Go Go.HL Go.Proofs
namespace Go.Proofs.Ytbmoifddenagiaa.C
set_option linter.unusedVariables false
set_option maxRecDepth 100000
set_option linter.unusedSimpArgs false
variable {H : Hp} {Q : Value → Hp → Prop}
def OwR (H0 H : Hp) (v : Value) (l : List Agg) : Prop := OwnS H 81 6 v l.length (l.flatMap encA) ∧ FreshV H0 v ∧ H0.le H
theorem encA_one (l : List Agg) : ∀ u ∈ l.flatMap encA, u.oneCell' = true := by
  intro u hu
  obtain ⟨x, _, hx⟩ := List.mem_flatMap.1 hu
  simp only [encA, List.mem_cons, List.not_mem_nil, or_false] at hx
  rcases hx with rfl | rfl | rfl | rfl | rfl | rfl <;> rfl
theorem OwR.rd {H0 H : Hp} {v : Value} {l : List Agg} (h : OwR H0 H v l) : RdS encA H v l := by
  obtain ⟨A, cap, e, hA⟩ := h.1.slice
  exact ⟨A, cap, e, hA⟩
theorem flat_nil {l : List Agg} (h : l.flatMap encA = []) : l = [] := by
  cases l with
  | nil => rfl
  | cons a l => simp [encA] at h
theorem clone_c {l : List Agg} {v : Value} (ha : RdS encA H v l) (h20 : l.length ≤ 1048576) (h : ∀ v' H', OwR H H' v' l → Q v' H') : CallR Try.prog 103 [v] H Q := by
  obtain ⟨A, ca, rfl, hA⟩ := ha
  refine callR_body Try.func103 t103 rfl ?_
  cases A with
  | none =>
    dsimp only [c103]
    repeat' first
      | ((with_reducible apply S_pv); · rfl)
      | ((with_reducible apply S_sv); · rfl)
      | with_reducible apply S_nil2
      | with_reducible apply S_nil
      | with_reducible apply S_sq
      | with_reducible apply S_rg
      | ((with_reducible apply S_nv); · rfl)
      | ((with_reducible apply S_gt); · rfl)
      | ((with_reducible apply S_gf); · rfl)
      | ((with_reducible apply S_gu); · rfl)
      | ((with_reducible apply S_gs); (· rfl); all_goals (intro hc; rw [hc]; (try simp only [decide_eq_true_eq, decide_eq_false_iff_not, bne_iff_ne, bne_eq_false_iff_eq, beq_iff_eq, beq_eq_false_iff_ne, Bool.not_eq_true', Bool.not_eq_false', Bool.not_not, ne_eq, gt_iff_lt, ge_iff_le] at hc); (try (exfalso; omega)); (try exact absurd rfl hc)))
      | ((with_reducible apply S_pks); (· rfl); all_goals (intro hc; rw [hc]; (try simp only [decide_eq_true_eq, decide_eq_false_iff_not, bne_iff_ne, bne_eq_false_iff_eq, beq_iff_eq, beq_eq_false_iff_ne, Bool.not_eq_true', Bool.not_eq_false', Bool.not_not, ne_eq, gt_iff_lt, ge_iff_le] at hc); (try (exfalso; omega)); (try exact absurd rfl hc)))
      | ((with_reducible apply S_cdt); · rfl)
      | ((with_reducible apply S_cdf); · rfl)
      | ((with_reducible apply S_cd); (· rfl); all_goals (intro hc; (try simp only [decide_eq_true_eq, decide_eq_false_iff_not, bne_iff_ne, bne_eq_false_iff_eq, beq_iff_eq, beq_eq_false_iff_ne, Bool.not_eq_true', Bool.not_eq_false', Bool.not_not, ne_eq, gt_iff_lt, ge_iff_le] at hc); (try (exfalso; omega)); (try exact absurd rfl hc)))
      | with_reducible apply S_rt
      | with_reducible apply S_bk
      | with_reducible apply S_sk
      | with_reducible apply S_xt
      | with_reducible apply S_q2
      | with_reducible apply S_q7
      | with_reducible apply S_q1
      | with_reducible apply S_q3
      | with_reducible apply S_q4
      | with_reducible apply S_q6
      | ((with_reducible apply S_q5); · rfl)
      | ((with_reducible apply S_fin); · rfl)
      | ((with_reducible apply S_fin'); · rfl)
    have : l = [] := by
      rcases hA with e | ⟨ad, e, _⟩
      · exact flat_nil e
      · cases e
    subst this
    exact h _ _ ⟨OwnS.nil _ _ _, FreshV.nil _, .refl _⟩
  | some ad =>
    dsimp only [c103]
    repeat' first
      | ((with_reducible apply S_al); (· rfl); (intro b hb))
      | ((with_reducible apply S_apO (cells := []) (news := l.flatMap encA) (H0 := H)); (· rfl); (· exact ⟨rfl, .inr ⟨b, 0, [], rfl, set_own _ _ _, Nat.le_refl _, rfl⟩⟩); (· exact (fun b' e => by obtain rfl := Option.some.inj e; exact hb)); (· exact (hb.le _)); (· exact hA.le (hb.le _)); (· exact flat_len encA_len l); (· exact encA_one l); (· omega); (· omega); (intro v' H' ho hF hle))
      | ((with_reducible apply S_pv); · rfl)
      | ((with_reducible apply S_sv); · rfl)
      | with_reducible apply S_nil2
      | with_reducible apply S_nil
      | with_reducible apply S_sq
      | with_reducible apply S_rg
      | ((with_reducible apply S_nv); · rfl)
      | ((with_reducible apply S_gt); · rfl)
      | ((with_reducible apply S_gf); · rfl)
      | ((with_reducible apply S_gu); · rfl)
      | ((with_reducible apply S_gs); (· rfl); all_goals (intro hc; rw [hc]; (try simp only [decide_eq_true_eq, decide_eq_false_iff_not, bne_iff_ne, bne_eq_false_iff_eq, beq_iff_eq, beq_eq_false_iff_ne, Bool.not_eq_true', Bool.not_eq_false', Bool.not_not, ne_eq, gt_iff_lt, ge_iff_le] at hc); (try (exfalso; omega)); (try exact absurd rfl hc)))
      | ((with_reducible apply S_pks); (· rfl); all_goals (intro hc; rw [hc]; (try simp only [decide_eq_true_eq, decide_eq_false_iff_not, bne_iff_ne, bne_eq_false_iff_eq, beq_iff_eq, beq_eq_false_iff_ne, Bool.not_eq_true', Bool.not_eq_false', Bool.not_not, ne_eq, gt_iff_lt, ge_iff_le] at hc); (try (exfalso; omega)); (try exact absurd rfl hc)))
      | ((with_reducible apply S_cdt); · rfl)
      | ((with_reducible apply S_cdf); · rfl)
      | ((with_reducible apply S_cd); (· rfl); all_goals (intro hc; (try simp only [decide_eq_true_eq, decide_eq_false_iff_not, bne_iff_ne, bne_eq_false_iff_eq, beq_iff_eq, beq_eq_false_iff_ne, Bool.not_eq_true', Bool.not_eq_false', Bool.not_not, ne_eq, gt_iff_lt, ge_iff_le] at hc); (try (exfalso; omega)); (try exact absurd rfl hc)))
      | with_reducible apply S_rt
      | with_reducible apply S_bk
      | with_reducible apply S_sk
      | with_reducible apply S_xt
      | with_reducible apply S_q2
      | with_reducible apply S_q7
      | with_reducible apply S_q1
      | with_reducible apply S_q3
      | with_reducible apply S_q4
      | with_reducible apply S_q6
      | ((with_reducible apply S_q5); · rfl)
      | ((with_reducible apply S_fin); · rfl)
      | ((with_reducible apply S_fin'); · rfl)
    rw [Nat.zero_add, List.nil_append] at ho
    exact h _ _ ⟨ho, hF, hle⟩
theorem ownShard_c {s : Shard} {v : Value} (ha : RdS encA H v s.aggs) (h20 : s.aggs.length ≤ 1048576) (h : ∀ v' H', OwR H H' v' s.aggs → Q (vSh v' s) H') : CallR Try.prog 67 [vSh v s] H Q := by
  refine callR_body Try.func67 t67 rfl ?_
  dsimp only [c67]
  repeat' first
    | ((with_reducible apply S_pv); · rfl)
    | ((with_reducible apply S_sv); · rfl)
    | with_reducible apply S_nil2
    | with_reducible apply S_nil
    | with_reducible apply S_sq
    | with_reducible apply S_rg
    | ((with_reducible apply S_nv); · rfl)
    | ((with_reducible apply S_gt); · rfl)
    | ((with_reducible apply S_gf); · rfl)
    | ((with_reducible apply S_gu); · rfl)
    | ((with_reducible apply S_gs); (· rfl); all_goals (intro hc; rw [hc]; (try simp only [decide_eq_true_eq, decide_eq_false_iff_not, bne_iff_ne, bne_eq_false_iff_eq, beq_iff_eq, beq_eq_false_iff_ne, Bool.not_eq_true', Bool.not_eq_false', Bool.not_not, ne_eq, gt_iff_lt, ge_iff_le] at hc); (try (exfalso; omega)); (try exact absurd rfl hc)))
    | ((with_reducible apply S_pks); (· rfl); all_goals (intro hc; rw [hc]; (try simp only [decide_eq_true_eq, decide_eq_false_iff_not, bne_iff_ne, bne_eq_false_iff_eq, beq_iff_eq, beq_eq_false_iff_ne, Bool.not_eq_true', Bool.not_eq_false', Bool.not_not, ne_eq, gt_iff_lt, ge_iff_le] at hc); (try (exfalso; omega)); (try exact absurd rfl hc)))
    | ((with_reducible apply S_ca); (· rfl); first | (refine clone_c ha h20 (fun v' H' ho => ?_); obtain ⟨Ao, co, rfl, hAo⟩ := ho.1.slice))
    | ((with_reducible apply S_cdt); · rfl)
    | ((with_reducible apply S_cdf); · rfl)
    | ((with_reducible apply S_cd); (· rfl); all_goals (intro hc; (try simp only [decide_eq_true_eq, decide_eq_false_iff_not, bne_iff_ne, bne_eq_false_iff_eq, beq_iff_eq, beq_eq_false_iff_ne, Bool.not_eq_true', Bool.not_eq_false', Bool.not_not, ne_eq, gt_iff_lt, ge_iff_le] at hc); (try (exfalso; omega)); (try exact absurd rfl hc)))
    | with_reducible apply S_rt
    | with_reducible apply S_bk
    | with_reducible apply S_sk
    | with_reducible apply S_xt
    | with_reducible apply S_q2
    | with_reducible apply S_q7
    | with_reducible apply S_q1
    | with_reducible apply S_q3
    | with_reducible apply S_q4
    | with_reducible apply S_q6
    | ((with_reducible apply S_q5); · rfl)
    | ((with_reducible apply S_fin); · rfl)
    | ((with_reducible apply S_fin'); · rfl)
  exact h _ _ ho
theorem copyS_c {s : Shard} {v : Value} (ha : RdS encA H v s.aggs) (h20 : s.aggs.length ≤ 1048576) (h : ∀ v' H', OwR H H' v' s.aggs → Q (vSh v' s) H') : CallR Try.prog 88 [vSh v s] H Q := by
  obtain ⟨A, ca, rfl, hA⟩ := ha
  refine callR_body Try.func88 t88 rfl ?_
  dsimp only [c88]
  repeat' first
    | ((with_reducible apply S_pv); · rfl)
    | ((with_reducible apply S_sv); · rfl)
    | with_reducible apply S_nil2
    | with_reducible apply S_nil
    | with_reducible apply S_sq
    | with_reducible apply S_rg
    | ((with_reducible apply S_nv); · rfl)
    | ((with_reducible apply S_gt); · rfl)
    | ((with_reducible apply S_gf); · rfl)
    | ((with_reducible apply S_gu); · rfl)
    | ((with_reducible apply S_gs); (· rfl); all_goals (intro hc; rw [hc]; (try simp only [decide_eq_true_eq, decide_eq_false_iff_not, bne_iff_ne, bne_eq_false_iff_eq, beq_iff_eq, beq_eq_false_iff_ne, Bool.not_eq_true', Bool.not_eq_false', Bool.not_not, ne_eq, gt_iff_lt, ge_iff_le] at hc); (try (exfalso; omega)); (try exact absurd rfl hc)))
    | ((with_reducible apply S_pks); (· rfl); all_goals (intro hc; rw [hc]; (try simp only [decide_eq_true_eq, decide_eq_false_iff_not, bne_iff_ne, bne_eq_false_iff_eq, beq_iff_eq, beq_eq_false_iff_ne, Bool.not_eq_true', Bool.not_eq_false', Bool.not_not, ne_eq, gt_iff_lt, ge_iff_le] at hc); (try (exfalso; omega)); (try exact absurd rfl hc)))
    | ((with_reducible apply S_cdt); · rfl)
    | ((with_reducible apply S_cdf); · rfl)
    | ((with_reducible apply S_cd); (· rfl); all_goals (intro hc; (try simp only [decide_eq_true_eq, decide_eq_false_iff_not, bne_iff_ne, bne_eq_false_iff_eq, beq_iff_eq, beq_eq_false_iff_ne, Bool.not_eq_true', Bool.not_eq_false', Bool.not_not, ne_eq, gt_iff_lt, ge_iff_le] at hc); (try (exfalso; omega)); (try exact absurd rfl hc)))
    | with_reducible apply S_rt
    | with_reducible apply S_bk
    | with_reducible apply S_sk
    | with_reducible apply S_xt
    | with_reducible apply S_q2
    | with_reducible apply S_q7
    | with_reducible apply S_q1
    | with_reducible apply S_q3
    | with_reducible apply S_q4
    | with_reducible apply S_q6
    | ((with_reducible apply S_q5); · rfl)
    | ((with_reducible apply S_fin); · rfl)
    | ((with_reducible apply S_fin'); · rfl)
  refine S_lpE (ι := Nat × Value) (fun p => [(1, .p 1 0), (2, .p 2 0), (3, .p 3 0), (4, .v (vi p.1))]) (fun p => [(1, [.slice A s.aggs.length ca, vi s.mark, vi s.late, vi s.over]), (2, [.slice none 0 0, vi 0, vi 0, vi 0]), (3, [p.2, vi s.mark, vi s.late, vi s.over])])
    (fun p H' => p.1 ≤ s.aggs.length ∧ OwR H H' p.2 (s.aggs.take p.1)) (fun p => s.aggs.length - p.1) (0, .slice none 0 0) (EL_r rfl (EL_r rfl (EL_r rfl (EL_r rfl (EL_x rfl (EL_x rfl (EL_x rfl EL_nil))))))) ⟨by omega, OwnS.nil _ _ _, FreshV.nil _, .refl _⟩ ?_
  rintro ⟨i, w⟩ H' ⟨hi, ho, hF, hle⟩
  dsimp only at *
  rcases Nat.lt_or_ge i s.aggs.length with hlt | hge
  · obtain ⟨x, hx⟩ := get_lt hlt
    obtain ⟨ad, rfl, hr⟩ := HasAll.get encA_len (by decide) (hA.le hle) hx
    rw [List.length_take, Nat.min_eq_left hi] at ho
    obtain ⟨Ao, co, rfl, hAo⟩ := ho.slice
    repeat' first
      | ((with_reducible apply S_ia); (· rfl); (· rfl); (· omega))
      | ((with_reducible apply S_inc); (· rfl); (· omega))
      | ((with_reducible apply S_ld (vs := encA x) (v := va x)); (· rfl); (· rfl); (· exact hr); (· rfl))
      | ((with_reducible apply S_al); (· rfl); (intro b hb))
      | ((with_reducible apply S_apO (cells := (s.aggs.take i).flatMap encA) (news := encA x) (H0 := H)); (· rfl); (· exact ho.le (hb.le _)); (· exact hF); (· exact (hle.trans (hb.le _))); (· exact HasAll.of_own (rest := []) (set_own _ _ _)); (· rfl); (· exact (fun u hu => encA_one [x] u (by simpa using hu))); (· omega); (· omega); (intro v' H2 ho2 hF2 hle2; obtain ⟨A2, c2, rfl, hA2⟩ := ho2.slice))
      | ((with_reducible apply S_pv); · rfl)
      | ((with_reducible apply S_sv); · rfl)
      | with_reducible apply S_nil2
      | with_reducible apply S_nil
      | with_reducible apply S_sq
      | with_reducible apply S_rg
      | ((with_reducible apply S_nv); · rfl)
      | ((with_reducible apply S_gt); · rfl)
      | ((with_reducible apply S_gf); · rfl)
      | ((with_reducible apply S_gu); · rfl)
      | ((with_reducible apply S_gs); (· rfl); all_goals (intro hc; rw [hc]; (try simp only [decide_eq_true_eq, decide_eq_false_iff_not, bne_iff_ne, bne_eq_false_iff_eq, beq_iff_eq, beq_eq_false_iff_ne, Bool.not_eq_true', Bool.not_eq_false', Bool.not_not, ne_eq, gt_iff_lt, ge_iff_le] at hc); (try (exfalso; omega)); (try exact absurd rfl hc)))
      | ((with_reducible apply S_pks); (· rfl); all_goals (intro hc; rw [hc]; (try simp only [decide_eq_true_eq, decide_eq_false_iff_not, bne_iff_ne, bne_eq_false_iff_eq, beq_iff_eq, beq_eq_false_iff_ne, Bool.not_eq_true', Bool.not_eq_false', Bool.not_not, ne_eq, gt_iff_lt, ge_iff_le] at hc); (try (exfalso; omega)); (try exact absurd rfl hc)))
      | ((with_reducible apply S_cdt); · rfl)
      | ((with_reducible apply S_cdf); · rfl)
      | ((with_reducible apply S_cd); (· rfl); all_goals (intro hc; (try simp only [decide_eq_true_eq, decide_eq_false_iff_not, bne_iff_ne, bne_eq_false_iff_eq, beq_iff_eq, beq_eq_false_iff_ne, Bool.not_eq_true', Bool.not_eq_false', Bool.not_not, ne_eq, gt_iff_lt, ge_iff_le] at hc); (try (exfalso; omega)); (try exact absurd rfl hc)))
      | with_reducible apply S_rt
      | with_reducible apply S_bk
      | with_reducible apply S_sk
      | with_reducible apply S_xt
      | with_reducible apply S_q2
      | with_reducible apply S_q7
      | with_reducible apply S_q1
      | with_reducible apply S_q3
      | with_reducible apply S_q4
      | with_reducible apply S_q6
      | ((with_reducible apply S_q5); · rfl)
      | ((with_reducible apply S_fin); · rfl)
      | ((with_reducible apply S_fin'); · rfl)
    refine ⟨(i + 1, .slice A2 (i + 1) c2), by dsimp only; omega, EL_r rfl (EL_r rfl (EL_r rfl (EL_r rfl (EL_x rfl (EL_x rfl (EL_x rfl EL_nil)))))), hlt, ?_, hF2, hle2⟩
    dsimp only
    rw [List.length_take, Nat.min_eq_left hlt, List.take_add_one, hx]
    simpa using ho2
  · rw [List.take_of_length_le hge] at ho
    obtain ⟨Ao, co, rfl, hAo⟩ := ho.slice
    repeat' first
      | ((with_reducible apply S_pv); · rfl)
      | ((with_reducible apply S_sv); · rfl)
      | with_reducible apply S_nil2
      | with_reducible apply S_nil
      | with_reducible apply S_sq
      | with_reducible apply S_rg
      | ((with_reducible apply S_nv); · rfl)
      | ((with_reducible apply S_gt); · rfl)
      | ((with_reducible apply S_gf); · rfl)
      | ((with_reducible apply S_gu); · rfl)
      | ((with_reducible apply S_gs); (· rfl); all_goals (intro hc; rw [hc]; (try simp only [decide_eq_true_eq, decide_eq_false_iff_not, bne_iff_ne, bne_eq_false_iff_eq, beq_iff_eq, beq_eq_false_iff_ne, Bool.not_eq_true', Bool.not_eq_false', Bool.not_not, ne_eq, gt_iff_lt, ge_iff_le] at hc); (try (exfalso; omega)); (try exact absurd rfl hc)))
      | ((with_reducible apply S_pks); (· rfl); all_goals (intro hc; rw [hc]; (try simp only [decide_eq_true_eq, decide_eq_false_iff_not, bne_iff_ne, bne_eq_false_iff_eq, beq_iff_eq, beq_eq_false_iff_ne, Bool.not_eq_true', Bool.not_eq_false', Bool.not_not, ne_eq, gt_iff_lt, ge_iff_le] at hc); (try (exfalso; omega)); (try exact absurd rfl hc)))
      | ((with_reducible apply S_cdt); · rfl)
      | ((with_reducible apply S_cdf); · rfl)
      | ((with_reducible apply S_cd); (· rfl); all_goals (intro hc; (try simp only [decide_eq_true_eq, decide_eq_false_iff_not, bne_iff_ne, bne_eq_false_iff_eq, beq_iff_eq, beq_eq_false_iff_ne, Bool.not_eq_true', Bool.not_eq_false', Bool.not_not, ne_eq, gt_iff_lt, ge_iff_le] at hc); (try (exfalso; omega)); (try exact absurd rfl hc)))
      | with_reducible apply S_rt
      | with_reducible apply S_bk
      | with_reducible apply S_sk
      | with_reducible apply S_xt
      | with_reducible apply S_q2
      | with_reducible apply S_q7
      | with_reducible apply S_q1
      | with_reducible apply S_q3
      | with_reducible apply S_q4
      | with_reducible apply S_q6
      | ((with_reducible apply S_q5); · rfl)
      | ((with_reducible apply S_fin); · rfl)
      | ((with_reducible apply S_fin'); · rfl)
    exact h _ _ ⟨ho, hF, hle⟩
theorem copySv_c {s : Save} {v : Value} (ha : RdS encA H v s.sh.aggs) (h20 : s.sh.aggs.length ≤ 1048576) (h : ∀ v' H', OwR H H' v' s.sh.aggs → Q (vSv v' s) H') : CallR Try.prog 64 [vSv v s] H Q := by
  refine callR_body Try.func64 t64 rfl ?_
  dsimp only [c64]
  repeat' first
    | ((with_reducible apply S_pv); · rfl)
    | ((with_reducible apply S_sv); · rfl)
    | with_reducible apply S_nil2
    | with_reducible apply S_nil
    | with_reducible apply S_sq
    | with_reducible apply S_rg
    | ((with_reducible apply S_nv); · rfl)
    | ((with_reducible apply S_gt); · rfl)
    | ((with_reducible apply S_gf); · rfl)
    | ((with_reducible apply S_gu); · rfl)
    | ((with_reducible apply S_gs); (· rfl); all_goals (intro hc; rw [hc]; (try simp only [decide_eq_true_eq, decide_eq_false_iff_not, bne_iff_ne, bne_eq_false_iff_eq, beq_iff_eq, beq_eq_false_iff_ne, Bool.not_eq_true', Bool.not_eq_false', Bool.not_not, ne_eq, gt_iff_lt, ge_iff_le] at hc); (try (exfalso; omega)); (try exact absurd rfl hc)))
    | ((with_reducible apply S_pks); (· rfl); all_goals (intro hc; rw [hc]; (try simp only [decide_eq_true_eq, decide_eq_false_iff_not, bne_iff_ne, bne_eq_false_iff_eq, beq_iff_eq, beq_eq_false_iff_ne, Bool.not_eq_true', Bool.not_eq_false', Bool.not_not, ne_eq, gt_iff_lt, ge_iff_le] at hc); (try (exfalso; omega)); (try exact absurd rfl hc)))
    | ((with_reducible apply S_ca); (· rfl); first | (refine copyS_c (s := s.sh) ha h20 (fun v' H' ho => ?_); obtain ⟨Ao, co, rfl, hAo⟩ := ho.1.slice))
    | ((with_reducible apply S_cdt); · rfl)
    | ((with_reducible apply S_cdf); · rfl)
    | ((with_reducible apply S_cd); (· rfl); all_goals (intro hc; (try simp only [decide_eq_true_eq, decide_eq_false_iff_not, bne_iff_ne, bne_eq_false_iff_eq, beq_iff_eq, beq_eq_false_iff_ne, Bool.not_eq_true', Bool.not_eq_false', Bool.not_not, ne_eq, gt_iff_lt, ge_iff_le] at hc); (try (exfalso; omega)); (try exact absurd rfl hc)))
    | with_reducible apply S_rt
    | with_reducible apply S_bk
    | with_reducible apply S_sk
    | with_reducible apply S_xt
    | with_reducible apply S_q2
    | with_reducible apply S_q7
    | with_reducible apply S_q1
    | with_reducible apply S_q3
    | with_reducible apply S_q4
    | with_reducible apply S_q6
    | ((with_reducible apply S_q5); · rfl)
    | ((with_reducible apply S_fin); · rfl)
    | ((with_reducible apply S_fin'); · rfl)
  exact h _ _ ho
end Go.Proofs.Ytbmoifddenagiaa.C
open Go Go.HL Go.Proofs
namespace Go.Proofs.Ytbmoifddenagiaa.C
set_option linter.unusedVariables false
set_option maxRecDepth 100000
set_option linter.unusedSimpArgs false
variable {H : Hp} {Q : Value → Hp → Prop}
def Last (l : List Save) (at_ : Int) (n : Nat) : Option Nat → Prop
  | none => ∀ (j : Nat) (x : Save), j < n → l[j]? = some x → ¬ x.at_ ≤ at_
  | some b => b < n ∧ (∃ x, l[b]? = some x ∧ x.at_ ≤ at_) ∧ ∀ (j : Nat) (x : Save), b < j → j < n → l[j]? = some x → ¬ x.at_ ≤ at_
def Res (l : List Save) (at_ : Int) (r : Option Save) : Prop := (¬ Good l ∧ r = none) ∨ (Good l ∧ ∃ b, Last l at_ l.length b ∧ r = match b with | some i => l[i]? | none => none)
def zSave : Save := ⟨0, ⟨[], 0, 0, 0⟩⟩
def got (r : Option Save) : Save := match r with | some s => s | none => zSave
def ResV (H0 H : Hp) (val : Value) (r : Option Save) : Prop := ∃ v, val = .tuple #[vSv v (got r), vb r.isSome] ∧ OwR H0 H v (got r).sh.aggs
theorem ResV.none (H : Hp) : ResV H H (.tuple #[.agg #[vi 0, .slice none 0 0, vi 0, vi 0, vi 0], vb false]) none := ⟨_, rfl, OwnS.nil _ _ _, FreshV.nil _, .refl _⟩
theorem Last.uniq {l : List Save} {at_ : Int} {n : Nat} {b c : Option Nat} (h : Last l at_ n b) (k : Last l at_ n c) : b = c := by
  cases b with
  | none => cases c with
    | none => rfl
    | some c => obtain ⟨h1, ⟨x, h2, h3⟩, _⟩ := k; exact absurd h3 (h c x h1 h2)
  | some b => cases c with
    | none => obtain ⟨h1, ⟨x, h2, h3⟩, _⟩ := h; exact absurd h3 (k b x h1 h2)
    | some c =>
      obtain ⟨h1, ⟨x, h2, h3⟩, h4⟩ := h
      obtain ⟨k1, ⟨y, k2, k3⟩, k4⟩ := k
      rcases Nat.lt_trichotomy b c with e | e | e
      · exact absurd k3 (h4 c y e k1 k2)
      · rw [e]
      · exact absurd h3 (k4 b x e h1 h2)
theorem Res.uniq {l : List Save} {at_ : Int} {r s : Option Save} (h : Res l at_ r) (k : Res l at_ s) : r = s := by
  rcases h with ⟨h, rfl⟩ | ⟨h, b, hb, rfl⟩ <;> rcases k with ⟨k, rfl⟩ | ⟨k, c, hc, rfl⟩
  · rfl
  · exact absurd k h
  · exact absurd h k
  · rw [hb.uniq hc]
theorem Res.small {l : List Save} {at_ : Int} {r : Option Save} (h : Res l at_ r) (h20 : szSv l ≤ 1048576) : (got r).sh.aggs.length ≤ 1048576 := by
  have key : ∀ (i : Nat) (x : Save), l[i]? = some x → x.sh.aggs.length ≤ 1048576 := fun i x hx => by
    have e1 := sumL_take (f := lenSv) hx
    have e2 := sumL_le lenSv l (i + 1)
    unfold szSv lenSv at *; omega
  rcases h with ⟨h, rfl⟩ | ⟨h, b, hb, rfl⟩
  · simp [got, zSave]
  · cases b with
    | none => simp [got, zSave]
    | some i =>
      obtain ⟨_, ⟨x, hx, _⟩, _⟩ := hb
      simp only [hx, got]
      exact key i x hx
def bi : Option Nat → Int
  | none => -1
  | some i => (i : Int)
theorem resumeS_c {l : List Save} {v : Value} {at_ : Int} (ha : RdG RSv H v l) (h20 : szSv l ≤ 1048576) (h : ∀ val H' r, Res l at_ r → ResV H H' val r → Q val H') : CallR Try.prog 21 [v, vi at_] H Q := by
  obtain ⟨A, ca, css, rfl, hl, hel, hA⟩ := ha
  have hsm : ∀ (i : Nat) (x : Save), l[i]? = some x → x.sh.aggs.length ≤ 1048576 := fun i x hx => by
    have e1 := sumL_take (f := lenSv) hx
    have e2 := sumL_le lenSv l (i + 1)
    unfold szSv lenSv at *; omega
  have h20' : l.length ≤ 1048576 := by unfold szSv at h20; omega
  refine callR_body Try.func21 t21 rfl ?_
  dsimp only [c21]
  repeat' first
    | ((with_reducible apply S_pv); · rfl)
    | ((with_reducible apply S_sv); · rfl)
    | with_reducible apply S_nil2
    | with_reducible apply S_nil
    | with_reducible apply S_sq
    | with_reducible apply S_rg
    | ((with_reducible apply S_nv); · rfl)
    | ((with_reducible apply S_gt); · rfl)
    | ((with_reducible apply S_gf); · rfl)
    | ((with_reducible apply S_gu); · rfl)
    | ((with_reducible apply S_gs); (· rfl); all_goals (intro hc; rw [hc]; (try simp only [decide_eq_true_eq, decide_eq_false_iff_not, bne_iff_ne, bne_eq_false_iff_eq, beq_iff_eq, beq_eq_false_iff_ne, Bool.not_eq_true', Bool.not_eq_false', Bool.not_not, ne_eq, gt_iff_lt, ge_iff_le] at hc); (try (exfalso; omega)); (try exact absurd rfl hc)))
    | ((with_reducible apply S_pks); (· rfl); all_goals (intro hc; rw [hc]; (try simp only [decide_eq_true_eq, decide_eq_false_iff_not, bne_iff_ne, bne_eq_false_iff_eq, beq_iff_eq, beq_eq_false_iff_ne, Bool.not_eq_true', Bool.not_eq_false', Bool.not_not, ne_eq, gt_iff_lt, ge_iff_le] at hc); (try (exfalso; omega)); (try exact absurd rfl hc)))
    | ((with_reducible apply S_cdt); · rfl)
    | ((with_reducible apply S_cdf); · rfl)
    | ((with_reducible apply S_cd); (· rfl); all_goals (intro hc; (try simp only [decide_eq_true_eq, decide_eq_false_iff_not, bne_iff_ne, bne_eq_false_iff_eq, beq_iff_eq, beq_eq_false_iff_ne, Bool.not_eq_true', Bool.not_eq_false', Bool.not_not, ne_eq, gt_iff_lt, ge_iff_le] at hc); (try (exfalso; omega)); (try exact absurd rfl hc)))
    | with_reducible apply S_rt
    | with_reducible apply S_bk
    | with_reducible apply S_sk
    | with_reducible apply S_xt
    | with_reducible apply S_q2
    | with_reducible apply S_q7
    | with_reducible apply S_q1
    | with_reducible apply S_q3
    | with_reducible apply S_q4
    | with_reducible apply S_q6
    | ((with_reducible apply S_q5); · rfl)
    | ((with_reducible apply S_fin); · rfl)
    | ((with_reducible apply S_fin'); · rfl)
  · exact h _ _ none (.inl ⟨fun g => by have := g.1; omega, rfl⟩) (ResV.none _)
  refine S_lpE (ι := Nat × Option Nat) (fun p => [(0, .v (.slice A l.length ca)), (1, .v (vi at_)), (4, .p 4 0), (6, .v (vi (bi p.2))), (7, .v (vi p.1))]) (fun _ => [(4, [vi 0, .slice none 0 0, vi 0, vi 0, vi 0])])
    (fun p H' => H' = H ∧ p.1 ≤ l.length ∧ (∀ (j : Nat) (x : Save), j < p.1 → l[j]? = some x → SvOk x) ∧ Last l at_ p.1 p.2) (fun p => l.length - p.1) (0, none)
    (EL_r rfl (EL_r rfl (EL_r rfl (EL_r rfl (EL_r rfl (EL_x rfl EL_nil)))))) ⟨rfl, by omega, fun j _ hj => by omega, fun j _ hj => by omega⟩ ?_
  rintro ⟨i, b⟩ H' ⟨rfl, hi, hok, hlast⟩
  dsimp only at *
  rcases Nat.lt_or_ge i l.length with hlt | hge
  · obtain ⟨x, hx⟩ := get_lt hlt
    obtain ⟨ad, cs, rfl, ⟨v', rfl, hr', hm'⟩, hr⟩ := RdG.get (fun h => h.len) (by decide) hl hel hA hx
    repeat' first
      | ((with_reducible apply S_ia); (· rfl); (· rfl); (· omega))
      | ((with_reducible apply S_inc); (· rfl); (· omega))
      | ((with_reducible apply S_ld (vs := encSv v' x) (v := vSv v' x)); (· rfl); (· rfl); (· exact hr); (· rfl))
      | ((with_reducible apply S_ld1); (· rfl); (· exact hr 0 _ rfl))
      | ((with_reducible apply S_pv); · rfl)
      | ((with_reducible apply S_sv); · rfl)
      | with_reducible apply S_nil2
      | with_reducible apply S_nil
      | with_reducible apply S_sq
      | with_reducible apply S_rg
      | ((with_reducible apply S_nv); · rfl)
      | ((with_reducible apply S_gt); · rfl)
      | ((with_reducible apply S_gf); · rfl)
      | ((with_reducible apply S_gu); · rfl)
      | ((with_reducible apply S_gs); (· rfl); all_goals (intro hc; rw [hc]; (try simp only [decide_eq_true_eq, decide_eq_false_iff_not, bne_iff_ne, bne_eq_false_iff_eq, beq_iff_eq, beq_eq_false_iff_ne, Bool.not_eq_true', Bool.not_eq_false', Bool.not_not, ne_eq, gt_iff_lt, ge_iff_le] at hc); (try (exfalso; omega)); (try exact absurd rfl hc)))
      | ((with_reducible apply S_pks); (· rfl); all_goals (intro hc; rw [hc]; (try simp only [decide_eq_true_eq, decide_eq_false_iff_not, bne_iff_ne, bne_eq_false_iff_eq, beq_iff_eq, beq_eq_false_iff_ne, Bool.not_eq_true', Bool.not_eq_false', Bool.not_not, ne_eq, gt_iff_lt, ge_iff_le] at hc); (try (exfalso; omega)); (try exact absurd rfl hc)))
      | ((with_reducible apply S_ca); (· rfl); first | refine saveOkS_c hr' (fun c hc2 => ?_))
      | ((with_reducible apply S_cdt); · rfl)
      | ((with_reducible apply S_cdf); · rfl)
      | ((with_reducible apply S_cd); (· rfl); all_goals (intro hc; (try simp only [decide_eq_true_eq, decide_eq_false_iff_not, bne_iff_ne, bne_eq_false_iff_eq, beq_iff_eq, beq_eq_false_iff_ne, Bool.not_eq_true', Bool.not_eq_false', Bool.not_not, ne_eq, gt_iff_lt, ge_iff_le] at hc); (try (exfalso; omega)); (try exact absurd rfl hc)))
      | with_reducible apply S_rt
      | with_reducible apply S_bk
      | with_reducible apply S_sk
      | with_reducible apply S_xt
      | with_reducible apply S_q2
      | with_reducible apply S_q7
      | with_reducible apply S_q1
      | with_reducible apply S_q3
      | with_reducible apply S_q4
      | with_reducible apply S_q6
      | ((with_reducible apply S_q5); · rfl)
      | ((with_reducible apply S_fin); · rfl)
      | ((with_reducible apply S_fin'); · rfl)
    · refine h _ _ none (.inl ⟨fun g => ?_, rfl⟩) (ResV.none _)
      have := hc2.2 (g.2 x (List.mem_of_getElem? hx))
      simp_all
    · refine ⟨(i + 1, some i), by dsimp only; omega, EL_r rfl (EL_r rfl (EL_r rfl (EL_r rfl (EL_r rfl (EL_x rfl EL_nil))))), rfl, hlt, fun j y hj hy => ?_, by dsimp only; omega, ⟨x, hx, by assumption⟩, fun j y h1 h2 => by dsimp only at h2; omega⟩
      dsimp only at hj
      rcases Nat.lt_or_ge j i with hji | hji
      · exact hok j y hji hy
      · obtain rfl : j = i := by omega
        obtain rfl := Option.some.inj (hx.symm.trans hy)
        exact hc2.1 (by assumption)
    · refine ⟨(i + 1, b), by dsimp only; omega, EL_r rfl (EL_r rfl (EL_r rfl (EL_r rfl (EL_r rfl (EL_x rfl EL_nil))))), rfl, hlt, fun j y hj hy => ?_, ?_⟩
      · dsimp only at hj
        rcases Nat.lt_or_ge j i with hji | hji
        · exact hok j y hji hy
        · obtain rfl : j = i := by omega
          obtain rfl := Option.some.inj (hx.symm.trans hy)
          exact hc2.1 (by assumption)
      · have hstep : ∀ (j : Nat) (y : Save), ¬ j < i → j < i + 1 → l[j]? = some y → ¬ y.at_ ≤ at_ := fun j y h1 h2 hy => by
          obtain rfl : j = i := by omega
          obtain rfl := Option.some.inj (hx.symm.trans hy)
          omega
        cases b with
        | none => exact fun j y hj hy => if hji : j < i then hlast j y hji hy else hstep j y hji hj hy
        | some b => exact ⟨Nat.lt_succ_of_lt hlast.1, hlast.2.1, fun j y h1 hj hy => if hji : j < i then hlast.2.2 j y h1 hji hy else hstep j y hji hj hy⟩
  · obtain rfl : i = l.length := by omega
    have hg : Good l := ⟨by omega, fun x hx => by
      obtain ⟨j, hj, e⟩ := List.getElem_of_mem hx
      exact hok j x hj (by rw [List.getElem?_eq_getElem hj, e])⟩
    cases b with
    | none =>
      repeat' first
        | ((with_reducible apply S_pv); · rfl)
        | ((with_reducible apply S_sv); · rfl)
        | with_reducible apply S_nil2
        | with_reducible apply S_nil
        | with_reducible apply S_sq
        | with_reducible apply S_rg
        | ((with_reducible apply S_nv); · rfl)
        | ((with_reducible apply S_gt); · rfl)
        | ((with_reducible apply S_gf); · rfl)
        | ((with_reducible apply S_gu); · rfl)
        | ((with_reducible apply S_gs); (· rfl); all_goals (intro hc; rw [hc]; (try simp only [decide_eq_true_eq, decide_eq_false_iff_not, bne_iff_ne, bne_eq_false_iff_eq, beq_iff_eq, beq_eq_false_iff_ne, Bool.not_eq_true', Bool.not_eq_false', Bool.not_not, ne_eq, gt_iff_lt, ge_iff_le] at hc); (try (exfalso; omega)); (try exact absurd rfl hc)))
        | ((with_reducible apply S_pks); (· rfl); all_goals (intro hc; rw [hc]; (try simp only [decide_eq_true_eq, decide_eq_false_iff_not, bne_iff_ne, bne_eq_false_iff_eq, beq_iff_eq, beq_eq_false_iff_ne, Bool.not_eq_true', Bool.not_eq_false', Bool.not_not, ne_eq, gt_iff_lt, ge_iff_le] at hc); (try (exfalso; omega)); (try exact absurd rfl hc)))
        | ((with_reducible apply S_cdt); · rfl)
        | ((with_reducible apply S_cdf); · rfl)
        | ((with_reducible apply S_cd); (· rfl); all_goals (intro hc; (try simp only [decide_eq_true_eq, decide_eq_false_iff_not, bne_iff_ne, bne_eq_false_iff_eq, beq_iff_eq, beq_eq_false_iff_ne, Bool.not_eq_true', Bool.not_eq_false', Bool.not_not, ne_eq, gt_iff_lt, ge_iff_le] at hc); (try (exfalso; omega)); (try exact absurd rfl hc)))
        | with_reducible apply S_rt
        | with_reducible apply S_bk
        | with_reducible apply S_sk
        | with_reducible apply S_xt
        | with_reducible apply S_q2
        | with_reducible apply S_q7
        | with_reducible apply S_q1
        | with_reducible apply S_q3
        | with_reducible apply S_q4
        | with_reducible apply S_q6
        | ((with_reducible apply S_q5); · rfl)
        | ((with_reducible apply S_fin); · rfl)
        | ((with_reducible apply S_fin'); · rfl)
      exact h _ _ none (.inr ⟨hg, none, hlast, rfl⟩) (ResV.none _)
    | some b =>
      have hlast' := hlast
      obtain ⟨hb, ⟨x, hx, _⟩, _⟩ := hlast'
      obtain ⟨ad, cs, rfl, ⟨v', rfl, hr', hm'⟩, hr⟩ := RdG.get (fun h => h.len) (by decide) hl hel hA hx
      repeat' first
        | ((with_reducible apply S_ia); (· rfl); (· rfl); (· omega))
        | ((with_reducible apply S_ld (vs := encSv v' x) (v := vSv v' x)); (· rfl); (· rfl); (· exact hr); (· rfl))
        | ((with_reducible apply S_pv); · rfl)
        | ((with_reducible apply S_sv); · rfl)
        | with_reducible apply S_nil2
        | with_reducible apply S_nil
        | with_reducible apply S_sq
        | with_reducible apply S_rg
        | ((with_reducible apply S_nv); · rfl)
        | ((with_reducible apply S_gt); · rfl)
        | ((with_reducible apply S_gf); · rfl)
        | ((with_reducible apply S_gu); · rfl)
        | ((with_reducible apply S_gs); (· rfl); all_goals (intro hc; rw [hc]; (try simp only [decide_eq_true_eq, decide_eq_false_iff_not, bne_iff_ne, bne_eq_false_iff_eq, beq_iff_eq, beq_eq_false_iff_ne, Bool.not_eq_true', Bool.not_eq_false', Bool.not_not, ne_eq, gt_iff_lt, ge_iff_le] at hc); (try (exfalso; omega)); (try exact absurd rfl hc)))
        | ((with_reducible apply S_pks); (· rfl); all_goals (intro hc; rw [hc]; (try simp only [decide_eq_true_eq, decide_eq_false_iff_not, bne_iff_ne, bne_eq_false_iff_eq, beq_iff_eq, beq_eq_false_iff_ne, Bool.not_eq_true', Bool.not_eq_false', Bool.not_not, ne_eq, gt_iff_lt, ge_iff_le] at hc); (try (exfalso; omega)); (try exact absurd rfl hc)))
        | ((with_reducible apply S_ca); (· rfl); first | (refine copySv_c hr' (hsm b x hx) (fun v' H' ho => ?_); obtain ⟨Ao, co, rfl, hAo⟩ := ho.1.slice))
        | ((with_reducible apply S_cdt); · rfl)
        | ((with_reducible apply S_cdf); · rfl)
        | ((with_reducible apply S_cd); (· rfl); all_goals (intro hc; (try simp only [decide_eq_true_eq, decide_eq_false_iff_not, bne_iff_ne, bne_eq_false_iff_eq, beq_iff_eq, beq_eq_false_iff_ne, Bool.not_eq_true', Bool.not_eq_false', Bool.not_not, ne_eq, gt_iff_lt, ge_iff_le] at hc); (try (exfalso; omega)); (try exact absurd rfl hc)))
        | with_reducible apply S_rt
        | with_reducible apply S_bk
        | with_reducible apply S_sk
        | with_reducible apply S_xt
        | with_reducible apply S_q2
        | with_reducible apply S_q7
        | with_reducible apply S_q1
        | with_reducible apply S_q3
        | with_reducible apply S_q4
        | with_reducible apply S_q6
        | ((with_reducible apply S_q5); · rfl)
        | ((with_reducible apply S_fin); · rfl)
        | ((with_reducible apply S_fin'); · rfl)
      refine h _ _ (some x) (.inr ⟨hg, some b, hlast, hx.symm⟩) ⟨_, rfl, ho⟩
def pr : Nat → Int
  | 0 => -1
  | m + 1 => (m : Int)
theorem S_pr {P : Program} {E : Env} {K : Env → Hp → Prop} {l : List AOper} {d : Nat} {a : AO} {k : Nat} {x : Bool} (ha : a.val E = some (vi (k : Int))) (hk : k < 9223372036854775807) (h : WL P l (E.put (some d) (.v (vi (pr k)))) H K) : WL P (⟨some d, .bi .sub a (ki 1), none, x⟩ :: l) E H K := by
  refine S_pv (y := .v (vi (pr k))) ?_ h
  have : binV .sub (vi (k : Int)) (vi 1) = some (vi (IntKind.i64.wrap ((k : Int) - 1))) := rfl
  have h1 : (ki 1).val E = some (vi 1) := rfl
  have h2 : IntKind.i64.wrap ((k : Int) - 1) = pr k := by
    rw [wrap_i (by omega) (by omega)]
    cases k with
    | zero => rfl
    | succ m => simp only [pr]; omega
  simp only [AOp.form, ha, h1, this, h2, Option.map]
theorem resumeI_c {l : List Save} {v : Value} {at_ : Int} (ha : RdG RSv H v l) (h20 : szSv l ≤ 1048576) (h : ∀ val H' r, Res l at_ r → ResV H H' val r → Q val H') : CallR Try.prog 23 [v, vi at_] H Q := by
  have hsm : ∀ (i : Nat) (x : Save), l[i]? = some x → x.sh.aggs.length ≤ 1048576 := fun i x hx => by
    have e1 := sumL_take (f := lenSv) hx
    have e2 := sumL_le lenSv l (i + 1)
    unfold szSv lenSv at *; omega
  have h20' : l.length ≤ 1048576 := by unfold szSv at h20; omega
  have ha' := ha
  obtain ⟨A, ca, css, rfl, hl, hel, hA⟩ := ha'
  refine callR_body Try.func23 t23 rfl ?_
  dsimp only [c23]
  repeat' first
    | ((with_reducible apply S_pr); (· rfl); (· omega))
    | ((with_reducible apply S_pv); · rfl)
    | ((with_reducible apply S_sv); · rfl)
    | with_reducible apply S_nil2
    | with_reducible apply S_nil
    | with_reducible apply S_sq
    | with_reducible apply S_rg
    | ((with_reducible apply S_nv); · rfl)
    | ((with_reducible apply S_gt); · rfl)
    | ((with_reducible apply S_gf); · rfl)
    | ((with_reducible apply S_gu); · rfl)
    | ((with_reducible apply S_gs); (· rfl); all_goals (intro hc; rw [hc]; (try simp only [decide_eq_true_eq, decide_eq_false_iff_not, bne_iff_ne, bne_eq_false_iff_eq, beq_iff_eq, beq_eq_false_iff_ne, Bool.not_eq_true', Bool.not_eq_false', Bool.not_not, ne_eq, gt_iff_lt, ge_iff_le] at hc); (try (exfalso; omega)); (try exact absurd rfl hc)))
    | ((with_reducible apply S_pks); (· rfl); all_goals (intro hc; rw [hc]; (try simp only [decide_eq_true_eq, decide_eq_false_iff_not, bne_iff_ne, bne_eq_false_iff_eq, beq_iff_eq, beq_eq_false_iff_ne, Bool.not_eq_true', Bool.not_eq_false', Bool.not_not, ne_eq, gt_iff_lt, ge_iff_le] at hc); (try (exfalso; omega)); (try exact absurd rfl hc)))
    | ((with_reducible apply S_ca); (· rfl); first | refine areSaves_c ha (fun c H1 hle1 hc1 => ?_))
    | ((with_reducible apply S_cdt); · rfl)
    | ((with_reducible apply S_cdf); · rfl)
    | ((with_reducible apply S_cd); (· rfl); all_goals (intro hc; (try simp only [decide_eq_true_eq, decide_eq_false_iff_not, bne_iff_ne, bne_eq_false_iff_eq, beq_iff_eq, beq_eq_false_iff_ne, Bool.not_eq_true', Bool.not_eq_false', Bool.not_not, ne_eq, gt_iff_lt, ge_iff_le] at hc); (try (exfalso; omega)); (try exact absurd rfl hc)))
    | with_reducible apply S_rt
    | with_reducible apply S_bk
    | with_reducible apply S_sk
    | with_reducible apply S_xt
    | with_reducible apply S_q2
    | with_reducible apply S_q7
    | with_reducible apply S_q1
    | with_reducible apply S_q3
    | with_reducible apply S_q4
    | with_reducible apply S_q6
    | ((with_reducible apply S_q5); · rfl)
    | ((with_reducible apply S_fin); · rfl)
    | ((with_reducible apply S_fin'); · rfl)
  · refine h _ _ none (.inl ⟨fun g => by have := hc1.2 g; simp_all, rfl⟩) ⟨_, rfl, OwnS.nil _ _ _, FreshV.nil _, hle1⟩
  have hg : Good l := hc1.1 (by assumption)
  refine S_lpE (fun k : Nat => [(0, .v (.slice A l.length ca)), (1, .v (vi at_)), (4, .p 4 0), (6, .v (vi (pr k)))]) (fun _ => [(4, [vi 0, .slice none 0 0, vi 0, vi 0, vi 0])])
    (fun k H' => H' = H1 ∧ k ≤ l.length ∧ ∀ (j : Nat) (x : Save), k ≤ j → l[j]? = some x → ¬ x.at_ ≤ at_) (fun k => k) l.length
    (EL_r rfl (EL_r rfl (EL_r rfl (EL_r rfl (EL_x rfl EL_nil))))) ⟨rfl, Nat.le_refl _, fun j x hj hx => by have := (List.getElem?_eq_some_iff.1 hx).1; omega⟩ ?_
  rintro k H' ⟨rfl, hk, hn⟩
  cases k with
  | zero =>
    dsimp only [pr]
    repeat' first
      | ((with_reducible apply S_pv); · rfl)
      | ((with_reducible apply S_sv); · rfl)
      | with_reducible apply S_nil2
      | with_reducible apply S_nil
      | with_reducible apply S_sq
      | with_reducible apply S_rg
      | ((with_reducible apply S_nv); · rfl)
      | ((with_reducible apply S_gt); · rfl)
      | ((with_reducible apply S_gf); · rfl)
      | ((with_reducible apply S_gu); · rfl)
      | ((with_reducible apply S_gs); (· rfl); all_goals (intro hc; rw [hc]; (try simp only [decide_eq_true_eq, decide_eq_false_iff_not, bne_iff_ne, bne_eq_false_iff_eq, beq_iff_eq, beq_eq_false_iff_ne, Bool.not_eq_true', Bool.not_eq_false', Bool.not_not, ne_eq, gt_iff_lt, ge_iff_le] at hc); (try (exfalso; omega)); (try exact absurd rfl hc)))
      | ((with_reducible apply S_pks); (· rfl); all_goals (intro hc; rw [hc]; (try simp only [decide_eq_true_eq, decide_eq_false_iff_not, bne_iff_ne, bne_eq_false_iff_eq, beq_iff_eq, beq_eq_false_iff_ne, Bool.not_eq_true', Bool.not_eq_false', Bool.not_not, ne_eq, gt_iff_lt, ge_iff_le] at hc); (try (exfalso; omega)); (try exact absurd rfl hc)))
      | ((with_reducible apply S_cdt); · rfl)
      | ((with_reducible apply S_cdf); · rfl)
      | ((with_reducible apply S_cd); (· rfl); all_goals (intro hc; (try simp only [decide_eq_true_eq, decide_eq_false_iff_not, bne_iff_ne, bne_eq_false_iff_eq, beq_iff_eq, beq_eq_false_iff_ne, Bool.not_eq_true', Bool.not_eq_false', Bool.not_not, ne_eq, gt_iff_lt, ge_iff_le] at hc); (try (exfalso; omega)); (try exact absurd rfl hc)))
      | with_reducible apply S_rt
      | with_reducible apply S_bk
      | with_reducible apply S_sk
      | with_reducible apply S_xt
      | with_reducible apply S_q2
      | with_reducible apply S_q7
      | with_reducible apply S_q1
      | with_reducible apply S_q3
      | with_reducible apply S_q4
      | with_reducible apply S_q6
      | ((with_reducible apply S_q5); · rfl)
      | ((with_reducible apply S_fin); · rfl)
      | ((with_reducible apply S_fin'); · rfl)
    exact h _ _ none (.inr ⟨hg, none, fun j x _ hx => hn j x (by omega) hx, rfl⟩) ⟨_, rfl, OwnS.nil _ _ _, FreshV.nil _, hle1⟩
  | succ m =>
    dsimp only [pr]
    obtain ⟨x, hx⟩ := get_lt (l := l) (i := m) (by omega)
    obtain ⟨ad, cs, rfl, ⟨v', rfl, hr', hm'⟩, hr⟩ := RdG.get (fun h => h.len) (by decide) hl hel hA hx
    have hr := fun j u hu => hle1.has (hr j u hu)
    obtain ⟨Ax, cx, rfl, hAx⟩ := hr'
    repeat' first
      | ((with_reducible apply S_pr); (· rfl); (· omega))
      | ((with_reducible apply S_ia); (· rfl); (· rfl); (· omega))
      | ((with_reducible apply S_ld (vs := encSv (.slice Ax x.sh.aggs.length cx) x) (v := vSv (.slice Ax x.sh.aggs.length cx) x)); (· rfl); (· rfl); (· exact hr); (· rfl))
      | ((with_reducible apply S_pv); · rfl)
      | ((with_reducible apply S_sv); · rfl)
      | with_reducible apply S_nil2
      | with_reducible apply S_nil
      | with_reducible apply S_sq
      | with_reducible apply S_rg
      | ((with_reducible apply S_nv); · rfl)
      | ((with_reducible apply S_gt); · rfl)
      | ((with_reducible apply S_gf); · rfl)
      | ((with_reducible apply S_gu); · rfl)
      | ((with_reducible apply S_gs); (· rfl); all_goals (intro hc; rw [hc]; (try simp only [decide_eq_true_eq, decide_eq_false_iff_not, bne_iff_ne, bne_eq_false_iff_eq, beq_iff_eq, beq_eq_false_iff_ne, Bool.not_eq_true', Bool.not_eq_false', Bool.not_not, ne_eq, gt_iff_lt, ge_iff_le] at hc); (try (exfalso; omega)); (try exact absurd rfl hc)))
      | ((with_reducible apply S_pks); (· rfl); all_goals (intro hc; rw [hc]; (try simp only [decide_eq_true_eq, decide_eq_false_iff_not, bne_iff_ne, bne_eq_false_iff_eq, beq_iff_eq, beq_eq_false_iff_ne, Bool.not_eq_true', Bool.not_eq_false', Bool.not_not, ne_eq, gt_iff_lt, ge_iff_le] at hc); (try (exfalso; omega)); (try exact absurd rfl hc)))
      | ((with_reducible apply S_ca); (· rfl); first | (refine ownShard_c (s := x.sh) (RdS.le hle1 ⟨Ax, cx, rfl, hAx⟩) (hsm m x hx) (fun v' H' ho => ?_); obtain ⟨Ao, co, rfl, hAo⟩ := ho.1.slice))
      | ((with_reducible apply S_cdt); · rfl)
      | ((with_reducible apply S_cdf); · rfl)
      | ((with_reducible apply S_cd); (· rfl); all_goals (intro hc; (try simp only [decide_eq_true_eq, decide_eq_false_iff_not, bne_iff_ne, bne_eq_false_iff_eq, beq_iff_eq, beq_eq_false_iff_ne, Bool.not_eq_true', Bool.not_eq_false', Bool.not_not, ne_eq, gt_iff_lt, ge_iff_le] at hc); (try (exfalso; omega)); (try exact absurd rfl hc)))
      | with_reducible apply S_rt
      | with_reducible apply S_bk
      | with_reducible apply S_sk
      | with_reducible apply S_xt
      | with_reducible apply S_q2
      | with_reducible apply S_q7
      | with_reducible apply S_q1
      | with_reducible apply S_q3
      | with_reducible apply S_q4
      | with_reducible apply S_q6
      | ((with_reducible apply S_q5); · rfl)
      | ((with_reducible apply S_fin); · rfl)
      | ((with_reducible apply S_fin'); · rfl)
    · refine h _ _ (some x) (.inr ⟨hg, some m, ⟨by omega, ⟨x, hx, by assumption⟩, fun j y h1 h2 hy => hn j y (by omega) hy⟩, hx.symm⟩) ⟨_, rfl, ho.1, FreshV.mono (fun b hb => hle1.fresh hb) ho.2.1, hle1.trans ho.2.2⟩
    · refine ⟨m, by dsimp only; omega, EL_r rfl (EL_r rfl (EL_r rfl (EL_r rfl (EL_x rfl EL_nil)))), rfl, by omega, fun j y hj hy => ?_⟩
      rcases Nat.lt_or_ge m j with hmj | hmj
      · exact hn j y hmj hy
      · obtain rfl : j = m := by omega
        obtain rfl := Option.some.inj (hx.symm.trans hy)
        omega
end Go.Proofs.Ytbmoifddenagiaa.C
open Go Go.HL Go.Proofs
namespace Go.Proofs.Ytbmoifddenagiaa.C
set_option linter.unusedVariables false
set_option maxRecDepth 100000
set_option linter.unusedSimpArgs false
variable {H : Hp} {Q : Value → Hp → Prop}
theorem up {H H' : Hp} {v : Value} {l : List Save} (k : RdG RSv H v l) (h : H.le H') : RdG RSv H' v l := by
  obtain ⟨A, cap, css, e, h1, h2, k⟩ := k
  exact ⟨A, cap, css, e, h1, fun i x hx => by obtain ⟨cs, a, b⟩ := h2 i x hx; exact ⟨cs, a, b.le h⟩, k.le h⟩
theorem ShSv.le {S : Nat → Prop} {H H' : Hp} {v : Value} {n : Nat} (h : ShSv S H v n) (k : H.le H') : ShSv S H' v n := by
  obtain ⟨b, css, rfl, hb, ho, hl, hel⟩ := h
  refine ⟨b, css, rfl, hb, k.2 _ _ ho, hl, fun cs hcs => ?_⟩
  obtain ⟨a0, a2, a3, a4, bi, m, cells, h1, h2, h3, h4, h5, h6⟩ := hel cs hcs
  exact ⟨a0, a2, a3, a4, bi, m, cells, h1, h2, h3, h4, k.2 _ _ h5, h6⟩
theorem OwnS.msk {S : Nat → Prop} {H H' : Hp} {t : TypeId} {sz n : Nat} {v : Value} {cells : List Value} (h : OwnS H t sz v n cells) (k : Msk S H H') (hS : ∀ b, v.ownBlock = some b → ¬ S b) : OwnS H' t sz v n cells := by
  refine ⟨h.1, ?_⟩
  rcases h.2 with h | ⟨b, cap, rest, rfl, h2, h3⟩
  · exact .inl h
  · exact .inr ⟨b, cap, rest, rfl, by rw [k.2.1 b (hS b rfl)]; exact h2, h3⟩
theorem rdA {H : Hp} {v : Value} {l : List Agg} (h : OwnS H 81 6 v l.length (l.flatMap encA)) : RdS encA H v l := by
  obtain ⟨A, cap, e, hA⟩ := h.slice
  exact ⟨A, cap, e, hA⟩
theorem rdM {H : Hp} {v : Value} {n k : Nat} (h : OwnS H 81 6 v n ((mks markA 6 k n).flatMap encA)) : RdS encA H v (mks markA 6 k n) := by
  obtain ⟨A, cap, e, hA⟩ := h.slice
  exact ⟨A, cap, by rw [mks_len]; exact e, hA⟩
theorem law_c {l : List Save} {v : Value} {at_ : Int} (ha : RdG RSv H v l) (hm : l.length ≤ 9223372036854775807) (h : ∀ H', Q (vb true) H') : CallR Try.prog 4 [v, vi at_] H Q := by
  refine callR_body Try.func4 t4 rfl ?_
  have hn20 : szSv l ≤ 1048576 → l.length ≤ 1048576 := fun h => by unfold szSv at h; omega
  dsimp only [c4]
  repeat' first
    | ((with_reducible apply S_pv); · rfl)
    | ((with_reducible apply S_sv); · rfl)
    | with_reducible apply S_nil2
    | with_reducible apply S_nil
    | with_reducible apply S_sq
    | with_reducible apply S_rg
    | ((with_reducible apply S_nv); · rfl)
    | ((with_reducible apply S_gt); · rfl)
    | ((with_reducible apply S_gf); · rfl)
    | ((with_reducible apply S_gu); · rfl)
    | ((with_reducible apply S_gs); (· rfl); all_goals (intro hc; rw [hc]; (try simp only [decide_eq_true_eq, decide_eq_false_iff_not, bne_iff_ne, bne_eq_false_iff_eq, beq_iff_eq, beq_eq_false_iff_ne, Bool.not_eq_true', Bool.not_eq_false', Bool.not_not, ne_eq, gt_iff_lt, ge_iff_le] at hc); (try (exfalso; omega)); (try exact absurd rfl hc)))
    | ((with_reducible apply S_pks); (· rfl); all_goals (intro hc; rw [hc]; (try simp only [decide_eq_true_eq, decide_eq_false_iff_not, bne_iff_ne, bne_eq_false_iff_eq, beq_iff_eq, beq_eq_false_iff_ne, Bool.not_eq_true', Bool.not_eq_false', Bool.not_not, ne_eq, gt_iff_lt, ge_iff_le] at hc); (try (exfalso; omega)); (try exact absurd rfl hc)))
    | ((with_reducible apply S_ca); (· rfl); first | refine szSaveS_c ha hm (fun hfit => ?_) (fun hno => ?_) | refine toSaveS_c ha hfit (fun x1 H1 m1 => ?_) | (refine resumeS_c (m1.rd hfit) hfit (fun val H2 r hr hv => ?_); obtain ⟨vw, rfl, ow⟩ := hv; obtain ⟨Aw, cw, rfl, _⟩ := ow.1.slice; have l2 := m1.1.trans ow.2.2; have hsm := hr.small hfit) | refine toSaveS_c (up ha l2) hfit (fun x2 H3 m3 => ?_) | (refine resumeI_c (m3.rd hfit) hfit (fun val2 H4 r2 hr2 hv2 => ?_); obtain rfl := hr2.uniq hr; obtain ⟨vg, rfl, og⟩ := hv2; obtain ⟨Ag, cg, rfl, _⟩ := og.1.slice; have l4 := m3.1.trans og.2.2) | refine eqSave_c og.rd (ow.rd.le l4) hsm ?_ | refine toSaveS_c (up ha (l2.trans l4)) hfit (fun x3 H5 m5 => ?_) | refine eqSaveS_c (up (m3.rd hfit) (og.2.2.trans m5.1)) (m5.rd hfit) hfit ?_ | (refine markSaveS_c (S := fun b => H2.Fresh b ∧ ¬ H3.Fresh b) (k := 1) (ShSv.le (m3.shape hfit (fun b h1 h2 => ⟨h1, fun h3 => h2 h3.1⟩)) (og.2.2.trans m5.1)) (hn20 hfit) (by omega) (fun H6 k' k6 => ?_); have og6 := OwnS.msk (og.1.le m5.1) k6 (fun b e hS => hS.2 (og.2.1 b e)); have l6 : H2.le H6 := k6.le (fun b hS => hS.1.1) (l4.trans m5.1)) | refine eqSave_c (rdA og6) (ow.rd.le l6) hsm ?_ | (refine markSave_c (k := 1) og6 hsm (by omega) (fun H7 og7 k7 => ?_); have l7 : H2.le H7 := k7.le (fun b e => (m3.1.fresh (og.2.1 b e)).1) l6) | refine heldSave_c (k := 1) (rdM og7) hsm (by omega) ?_ | refine toSaveS_c (up ha (l2.trans l7)) hfit (fun x4 H8 m8 => ?_) | (refine resumeI_c (m8.rd hfit) hfit (fun val3 H9 r3 hr3 hv3 => ?_); obtain rfl := hr3.uniq hr; obtain ⟨vh, rfl, oh⟩ := hv3; obtain ⟨Ah, ch, rfl, _⟩ := oh.1.slice; have l9 := m8.1.trans oh.2.2) | refine eqSave_c oh.rd (ow.rd.le (l7.trans l9)) hsm ?_ | refine heldSave_c (k := 1) (rdM (og7.le l9)) hsm (by omega) ?_)
    | ((with_reducible apply S_cdt); · rfl)
    | ((with_reducible apply S_cdf); · rfl)
    | ((with_reducible apply S_cd); (· rfl); all_goals (intro hc; (try simp only [decide_eq_true_eq, decide_eq_false_iff_not, bne_iff_ne, bne_eq_false_iff_eq, beq_iff_eq, beq_eq_false_iff_ne, Bool.not_eq_true', Bool.not_eq_false', Bool.not_not, ne_eq, gt_iff_lt, ge_iff_le] at hc); (try (exfalso; omega)); (try exact absurd rfl hc)))
    | with_reducible apply S_rt
    | with_reducible apply S_bk
    | with_reducible apply S_sk
    | with_reducible apply S_xt
    | with_reducible apply S_q2
    | with_reducible apply S_q7
    | with_reducible apply S_q1
    | with_reducible apply S_q3
    | with_reducible apply S_q4
    | with_reducible apply S_q6
    | ((with_reducible apply S_q5); · rfl)
    | ((with_reducible apply S_fin); · rfl)
    | ((with_reducible apply S_fin'); · rfl)
  all_goals first | exact h _ | (exfalso; simp at hc; done)
end Go.Proofs.Ytbmoifddenagiaa.C
namespace Go.HL
open Go Go.RowKit Go.Deep
set_option linter.unusedVariables false
set_option linter.unusedSimpArgs false

def start (w : World) : Hp := { own := fun _ => none, ro := fun a => w.cell? a, lim := w.heap.size, wf := fun b hb => ⟨rfl, fun a ha => by
  cases h : w.cell? a with
  | none => rfl
  | some v => have := World.block_lt_of_cell? _ _ h; omega⟩ }
theorem start_sub (w : World) : Sub (start w) w := ⟨fun b cs t e => (by cases e), fun a v h => ⟨h, rfl⟩⟩
theorem CallR.start {P : Program} {f : FuncId} {args : List Value} {w : World} (h : CallR P f args (start w) fun v _ => v = .bool true) : Calls P f args.toArray w fun e w' => e = .returned (.bool true) ∧ Below w.heap.size w w' :=
  (h.2 w (start_sub w)).mono fun e w' ⟨v, H', he, hv, _, f1, f2, f3, f4, f5, _⟩ => ⟨by rw [he, hv], f1, f2, f3, f4, fun k hk => f5 k hk rfl⟩

section
variable {T : Type} {enc : TypeId × Value → T} {P : Program} {w : World} {base : Nat} {spare : Nat → Bool} {held : Bool}
/-- What lies at a type stands for something. -/
def Opens (enc : TypeId × Value → T) (P : Program) (w : World) (base : Nat) (spare : Nat → Bool) (held : Bool) (t : TypeId) (sz : Nat) {α : Type} (R : Hp → α → List Value → Prop) : Prop :=
  P.cellsOf t = sz ∧ ∀ fuel cs x, DataW.trod enc P w base spare held fuel t cs = some x → cs.length = sz ∧ ∃ a, R (start w) a cs
theorem opens_int {t : TypeId} {k : IntKind} (ht : P.underlying t = some (.int k)) (hc : P.cellsOf t = 1) : Opens enc P w base spare held t 1 (fun _ (n : Int) cs => cs = [.int k n]) :=
  ⟨hc, fun fuel cs x h => by
    obtain ⟨n, rfl, _, hw⟩ := DataW.trod_int ht h
    exact ⟨rfl, n, rfl⟩⟩
theorem flatten_find {sz : Nat} : ∀ {css : List (List Value)} (_ : ∀ cs ∈ css, cs.length = sz) {i : Nat} {u : Value}, css.flatten[i]? = some u → ∃ j k cs, css[j]? = some cs ∧ cs[k]? = some u ∧ i = j * sz + k
  | [], _, i, u, h => by simp at h
  | y :: l, hl, i, u, h => by
    have hy : y.length = sz := hl y (by simp)
    rw [List.flatten_cons] at h
    rcases Nat.lt_or_ge i y.length with hi | hi
    · rw [List.getElem?_append_left hi] at h
      exact ⟨0, i, y, rfl, h, by omega⟩
    · rw [List.getElem?_append_right hi] at h
      obtain ⟨j, k, cs, h1, h2, h3⟩ := flatten_find (fun c hc => hl c (by simp [hc])) h
      exact ⟨j + 1, k, cs, h1, h2, by rw [Nat.succ_mul]; omega⟩
theorem opens_slice {t e : TypeId} {α : Type} {sz : Nat} {R : Hp → α → List Value → Prop} (ht : P.underlying t = some (.slice e)) (hc : P.cellsOf t = 1) (h : Opens enc P w base spare held e sz R) :
    Opens enc P w base spare held t 1 (fun H (l : List α) cs => l.length ≤ 9223372036854775807 ∧ ∃ v, cs = [v] ∧ RdG R H v l) :=
  ⟨hc, fun fuel cs x hx => by
    rcases open_slice ht hx with ⟨rfl, _⟩ | ⟨a, len, cap, m, n, D, Pl, rfl, _, hl, hm, hmm, _, hel⟩
    · exact ⟨rfl, [], by simp, _, rfl, none, 0, [], rfl, rfl, fun i x hx => by simp at hx, .inl rfl⟩
    · refine ⟨rfl, ?_⟩
      have hlm : len ≤ m := by rw [hmm]; split <;> omega
      have hall : ∀ i, i < len → ∃ b : α × List Value, w.cells? base (a.add (i * P.cellsOf e)) (P.cellsOf e) = some b.2 ∧ R (start w) b.1 b.2 ∧ b.2.length = sz := fun i hi => by
        obtain ⟨cs', h1, h2⟩ := hel i (by omega)
        obtain ⟨h3, b, h4⟩ := h.2 _ _ _ h2
        exact ⟨(b, cs'), h1, h4, h3⟩
      classical
      let g : List (α × List Value) := (List.range len).attach.map fun i => Classical.choose (hall i.1 (List.mem_range.1 i.2))
      have hgl : g.length = len := by simp [g]
      have hget : ∀ i (hi : i < len), g[i]? = some (Classical.choose (hall i hi)) := fun i hi => by simp [g, hi]
      have hml : maxLen = 9223372036854775807 := rfl
      have h5 : ∀ cs ∈ g.map (·.2), cs.length = sz := fun cs hcs => by
        obtain ⟨b, hb, rfl⟩ := List.mem_map.1 hcs
        obtain ⟨j, hj, e⟩ := List.getElem_of_mem hb
        have := hget j (by omega)
        rw [List.getElem?_eq_getElem hj, e] at this
        rw [Option.some.inj this]
        exact (Classical.choose_spec (hall j (by omega))).2.2
      refine ⟨g.map (·.1), by simp [hgl]; omega, _, rfl, some a, cap, g.map (·.2), by simp [hgl], by simp, fun i x hx => ?_, .inr ⟨a, rfl, fun i u hu => .inl ?_⟩⟩
      · rw [List.getElem?_map, Option.map_eq_some_iff] at hx
        obtain ⟨b, hb, rfl⟩ := hx
        have hi : i < len := by have := (List.getElem?_eq_some_iff.1 hb).1; omega
        refine ⟨b.2, by rw [List.getElem?_map, hb]; rfl, ?_⟩
        rw [Option.some.inj (hb.symm.trans (hget i hi))]
        exact (Classical.choose_spec (hall i hi)).2.1
      · obtain ⟨j, k, cs, h1, h2, rfl⟩ := flatten_find h5 hu
        rw [List.getElem?_map, Option.map_eq_some_iff] at h1
        obtain ⟨b, hb, rfl⟩ := h1
        have hj : j < len := by have := (List.getElem?_eq_some_iff.1 hb).1; omega
        have hbe := Option.some.inj (hb.symm.trans (hget j hj))
        have hsp := Classical.choose_spec (hall j hj)
        rw [← hbe] at hsp
        obtain ⟨_, hlen, hcell⟩ := World.cells?_some hsp.1
        have hk : k < P.cellsOf e := by rw [h.1]; have := (List.getElem?_eq_some_iff.1 h2).1; rw [hsp.2.2] at this; exact this
        have := hcell k hk
        rw [h2, Deep.add_add, h.1] at this
        exact this⟩
theorem opens_map {t : TypeId} {α β : Type} {sz : Nat} {R : Hp → α → List Value → Prop} {R' : Hp → β → List Value → Prop} (h : Opens enc P w base spare held t sz R) (f : α → β) (k : ∀ H a cs, R H a cs → R' H (f a) cs) : Opens enc P w base spare held t sz R' :=
  ⟨h.1, fun fuel cs x hx => by obtain ⟨h1, a, h2⟩ := h.2 fuel cs x hx; exact ⟨h1, f a, k _ _ _ h2⟩⟩
def OpensF (enc : TypeId × Value → T) (P : Program) (w : World) (base : Nat) (spare : Nat → Bool) (held : Bool) (fs : List Field) (o sz : Nat) {α : Type} (R : Hp → α → List Value → Prop) : Prop :=
  ∀ fuel (cs : List Value), (∀ f ∈ fs, ∃ x, DataW.trod enc P w base spare held fuel f.type ((cs.drop f.offset).take (P.cellsOf f.type)) = some x) → ((cs.drop o).take sz).length = sz ∧ ∃ a, R (start w) a ((cs.drop o).take sz)
theorem opensF_last {f : Field} {α : Type} {sz : Nat} {R : Hp → α → List Value → Prop} (h : Opens enc P w base spare held f.type sz R) : OpensF enc P w base spare held [f] f.offset sz R := fun fuel cs hx => by
  obtain ⟨x, hx⟩ := hx f (List.mem_singleton.2 rfl)
  obtain ⟨hl, a, hk⟩ := h.2 _ _ _ hx
  rw [h.1] at hk hl
  exact ⟨hl, a, hk⟩
def RPair {α β : Type} (R : Hp → α → List Value → Prop) (S : Hp → β → List Value → Prop) (H : Hp) (p : α × β) (cs : List Value) : Prop := ∃ c1 c2, cs = c1 ++ c2 ∧ R H p.1 c1 ∧ S H p.2 c2
theorem opensF_cons {f : Field} {fs : List Field} {o : Nat} {α β : Type} {s1 s2 : Nat} {R : Hp → α → List Value → Prop} {S : Hp → β → List Value → Prop} (h : Opens enc P w base spare held f.type s1 R) (h2 : OpensF enc P w base spare held fs o s2 S) (ho : o = f.offset + s1) :
    OpensF enc P w base spare held (f :: fs) f.offset (s1 + s2) (RPair R S) := fun fuel cs hx => by
  subst ho
  obtain ⟨hl, a, hk⟩ := opensF_last h fuel cs (fun g hg => hx g (by rw [List.mem_singleton.1 hg]; exact List.mem_cons_self))
  obtain ⟨hl2, b, hk2⟩ := h2 fuel cs (fun g hg => hx g (List.mem_cons_of_mem _ hg))
  have e : (cs.drop f.offset).take (s1 + s2) = (cs.drop f.offset).take s1 ++ (cs.drop (f.offset + s1)).take s2 := by rw [List.take_add, List.drop_drop]
  refine ⟨by rw [e, List.length_append, hl, hl2], (a, b), _, _, e, hk, hk2⟩
theorem opens_struct {t : TypeId} {fs : Array Field} {α : Type} {sz : Nat} {R : Hp → α → List Value → Prop} (ht : P.underlying t = some (.struct fs)) (hc : P.cellsOf t = sz) (h : OpensF enc P w base spare held fs.toList 0 sz R) : Opens enc P w base spare held t sz R :=
  ⟨hc, fun fuel cs x hx => by
    obtain ⟨xs, n, rfl, _, hl, hxl, hf⟩ := DataW.trod_struct ht hx
    obtain ⟨hl2, a, hk⟩ := h n cs (fun f hf' => by
      obtain ⟨i, hi, rfl⟩ := List.mem_iff_getElem.1 hf'
      have h1 := hf i _ (by rw [← Array.getElem?_toList, List.getElem?_eq_getElem hi])
      rw [h1]
      exact ⟨xs[i]'(by rw [hxl]; simpa using hi), List.getElem?_eq_getElem _⟩)
    rw [List.drop_zero, List.take_of_length_le (by rw [hl, hc]; exact Nat.le_refl _)] at hk hl2
    exact ⟨hl2, a, hk⟩⟩
theorem Opens.at {t : TypeId} {α : Type} {sz : Nat} {R : Hp → α → List Value → Prop} (h : Opens enc P w base spare held t sz R) {v : Value} {x : DataW T} {ps : List MemPlace} (hv : DataW.Trod enc P w base spare held t v x ps) : ∃ a, R (start w) a v.cells.toList := by
  obtain ⟨fuel, hf⟩ := hv
  exact (h.2 _ _ _ hf).2
end
end Go.HL
namespace Go.Proofs.Ytbmoifddenagiaa.C
open Go Go.HL
set_option maxRecDepth 100000
set_option linter.unusedVariables false
set_option linter.unusedSimpArgs false
section
variable {T : Type} {enc : TypeId × Value → T} {w : World} {base : Nat} {spare : Nat → Bool} {held : Bool}
theorem opensA : HL.Opens enc Try.prog w base spare held 136 6 (fun _ (a : Agg) cs => cs = encA a) :=
  opens_map (HL.opens_struct Try.underlying136 (by kernel_rfl) (opensF_cons (opens_int Try.underlying3 (by kernel_rfl)) (opensF_cons (opens_int Try.underlying3 (by kernel_rfl)) (opensF_cons (opens_int Try.underlying3 (by kernel_rfl)) (opensF_cons (opens_int Try.underlying3 (by kernel_rfl)) (opensF_cons (opens_int Try.underlying3 (by kernel_rfl)) (opensF_last (opens_int Try.underlying3 (by kernel_rfl))) rfl) rfl) rfl) rfl) rfl))
    (fun p => (⟨p.1, p.2.1, p.2.2.1, p.2.2.2.1, p.2.2.2.2.1, p.2.2.2.2.2⟩ : Agg)) (fun H a cs h => by
      obtain ⟨_, _, rfl, rfl, _, _, rfl, rfl, _, _, rfl, rfl, _, _, rfl, rfl, _, _, rfl, rfl, rfl⟩ := h; rfl)
theorem rds {α : Type} {e : α → List Value} {H : Hp} {v : Value} {l : List α} (h : RdG (fun _ (a : α) cs => cs = e a) H v l) : RdS e H v l := by
  obtain ⟨A, cap, css, rfl, hl, hel, hA⟩ := h
  have hc : css = l.map e := by
    apply List.ext_getElem?
    intro i
    rw [List.getElem?_map]
    cases hx : l[i]? with
    | none => rw [List.getElem?_eq_none_iff] at hx; simp; omega
    | some x => obtain ⟨cs, h1, h2⟩ := hel i x hx; rw [h1, h2]; rfl
  refine ⟨A, cap, rfl, ?_⟩
  rw [List.flatMap_def, ← hc]; exact hA
theorem opensAs : HL.Opens enc Try.prog w base spare held 64 1 (fun H (l : List Agg) cs => l.length ≤ 9223372036854775807 ∧ ∃ v, cs = [v] ∧ RdS encA H v l) :=
  opens_map (HL.opens_slice Try.underlying64 (by kernel_rfl) opensA) id (fun H l cs h => by obtain ⟨h1, v, h2, h3⟩ := h; exact ⟨h1, v, h2, rds h3⟩)
theorem opensSh : HL.Opens enc Try.prog w base spare held 66 4 (fun H (s : Shard) cs => ∃ v, cs = [v, vi s.mark, vi s.late, vi s.over] ∧ RdS encA H v s.aggs ∧ s.aggs.length ≤ 9223372036854775807) :=
  opens_map (HL.opens_struct Try.underlying66 (by kernel_rfl) (opensF_cons opensAs (opensF_cons (opens_int Try.underlying3 (by kernel_rfl)) (opensF_cons (opens_int Try.underlying3 (by kernel_rfl)) (opensF_last (opens_int Try.underlying3 (by kernel_rfl))) rfl) rfl) rfl))
    (fun p => (⟨p.1, p.2.1, p.2.2.1, p.2.2.2⟩ : Shard)) (fun H a cs h => by
      obtain ⟨_, _, rfl, ⟨h1, v, rfl, h2⟩, _, _, rfl, rfl, _, _, rfl, rfl, rfl⟩ := h; exact ⟨v, rfl, h2, h1⟩)
theorem opensSv : HL.Opens enc Try.prog w base spare held 87 5 RSv :=
  opens_map (HL.opens_struct Try.underlying87 (by kernel_rfl) (opensF_cons (s1 := 1) (s2 := 4) (opens_int Try.underlying3 (by kernel_rfl)) (opensF_last opensSh) rfl))
    (fun p => (⟨p.1, p.2⟩ : Save)) (fun H a cs h => by
      obtain ⟨_, _, rfl, rfl, v, rfl, h2, h1⟩ := h; exact ⟨v, rfl, h2, h1⟩)
theorem opensSvs : HL.Opens enc Try.prog w base spare held 36 1 (fun H (l : List Save) cs => l.length ≤ 9223372036854775807 ∧ ∃ v, cs = [v] ∧ RdG RSv H v l) :=
  HL.opens_slice Try.underlying36 (by kernel_rfl) opensSv
end
end Go.Proofs.Ytbmoifddenagiaa.C
namespace Go.Proofs.Ytbmoifddenagiaa.fnExactResumeAt
open Go.ChangeShapes Go.WideShapes Go.ChangeAt Go.RowKit Go.HL
set_option linter.unusedVariables false
theorem own : ownKnob Try.prog.godebug = none := by kernel_rfl
theorem laidOut : laidOutB Try.prog = true := by kernel_rfl
set_option maxRecDepth 100000 in
theorem lifted (os : Os) (started : os.Started) (H : Type) (enc : TypeId × Value → H) :
    ReturnsInHanded {} Try.checked os 4 .any (Rows.fnExactResumeAtSpec.pre6 enc Try.prog Try.f4 Rows.fnExactResumeAtRow.domain false) (Rows.fnExactResumeAtSpec.post enc Try.prog Try.f4 false true false false) := by
  refine returnsInHanded_of_change_sized (C := Try.checked) own started (by kernel_rfl) Try.func4
    (ChangeSpec.witness6 (enc := enc) (C := Try.checked) false ⟨#[], #[.slice none 0 0, .int .i64 0], []⟩ 8 (by kernel_rfl) (by kernel_rfl) (by kernel_rfl) (by kernel_rfl)) ?_
  intro W base args ds gs before hval0 hW hcnd hsz0 _
  have hval : ∀ (j : Nat) t v, Try.f4.params[j]? = some t → args[j]? = some v → Value.okWide Try.prog W .any base t v := hval0
  have hW' := hW
  obtain ⟨p, q, hA0, hV, rfl, hfz, hnd⟩ := hW
  have hA : DataW.TrodAll enc Try.prog W 0 (fun _ => true) true Try.f4.params.toList args.toList ds p := hA0
  rw [Try.params4] at hA hval
  obtain ⟨v0, vs0, d0, ds0, p0, q0, hargs, rfl, rfl, h0, r0⟩ := trodAll_cons hA
  obtain ⟨v1, vs1, d1, ds1, p1, q1, rfl, rfl, rfl, h1, r1⟩ := trodAll_cons r0
  obtain ⟨rfl, rfl, rfl⟩ := trodAll_nil r1
  obtain rfl : args = #[v0, v1] := by cases args; simp_all
  obtain ⟨rfl, rfl⟩ := trodVars_none hV
  have k0 := h0
  have lt0 : ∀ x ∈ p0, x.block < W.heap.size := by obtain ⟨m, hm⟩ := k0; exact DataW.trod_lt m _ _ _ hm
  obtain ⟨A0, n0, c0, rfl⟩ := okWide_slice Try.underlying36 (hval 0 36 v0 rfl rfl)
  obtain ⟨l0, hm0, u0, hu0, hl0⟩ := C.opensSvs.at h0
  obtain rfl : u0 = .slice A0 n0 c0 := (List.cons.inj hu0).1.symm
  obtain ⟨a1, rfl, rfl, rfl, w1⟩ := open_int Try.underlying3 (hval 1 3 v1 rfl rfl) h1
  clear hA0 hval0 hsz0
  refine (CallR.start (C.law_c hl0 hm0 (fun _ => rfl))).mono fun e W' ⟨he, bel⟩ => ?_
  subst he
  exact ⟨_, rfl, _, _, _, [], _, [], hW', trodAll_mk1 (shut_bool Try.underlying4 _), (trodAll_cons_mk (Below.trod laidOut (by kernel_rfl) (of_decide_eq_true (by kernel_rfl)) k0 bel lt0) (trodAll_cons_mk (shut_int Try.underlying3 w1) trodAll_mk0)), rfl, bel.frame _, fun h => by cases h⟩
theorem over : Rows.fnExactResumeAtRow.holds Try.pinned (OpenSpec.ofChange Rows.fnExactResumeAtSpec) :=
  OpenClaim.holds_of_wide 4 Try.f4 rfl rfl rfl rfl rfl rfl rfl ⟨rfl, rfl, rfl, rfl, rfl⟩ rfl rfl rfl rfl rfl (by kernel_rfl) Try.func4 (by kernel_rfl)
    (of_decide_eq_true (by kernel_rfl)) (by unfold Func.isWrapper; first | (rw [if_pos (by decide +kernel)]; kernel_rfl) | (rw [if_neg (by decide +kernel)]; exact ⟨rfl, rfl⟩))
    (fun os started H enc _ => lifted os started H enc)
end Go.Proofs.Ytbmoifddenagiaa.fnExactResumeAt
namespace Go.Proofs.Ytbmoifddenagiaa
theorem fnExactResumeAt_holds : Rows.FnExactResumeAtSaid := fnExactResumeAt.over
#print axioms fnExactResumeAt_holds
end Go.Proofs.Ytbmoifddenagiaa
