/- Part 8 of a proof: walks of the given functions and laws over lists. -/
import Derived.Test.YtofpohpflpdbiaaCa7
import Derived.Deep.Slices
import Derived.ChangeArms
import Derived.ChangeReads
import Derived.Test.YtofpohpflpdbiaaRows
import Derived.ProofKit
import Derived.OpenShut
import Derived.ShutString
import Derived.ChangeOld
import Derived.SizedLaws
import Derived.Carry
namespace Go.Proofs.YtofpohpflpdbiaaO
open Go.RowKit Go.Proofs.YtofpohpflpdbiaaW.PrintWords Go.Deep
section
variable {H : Type} {enc : TypeId × Value → H} {P : Program} {w : World} {base : Nat} {spare : Nat → Bool} {held : Bool}
def Opens (enc : TypeId × Value → H) (P : Program) (w : World) (base : Nat) (spare : Nat → Bool) (held : Bool) (t : TypeId) {α : Type} (d : Kd α) (W : α → Prop) : Prop :=
  P.cellsOf t = d.sz ∧ ∀ fuel cs x, DataW.trod enc P w base spare held fuel t cs = some x → ∃ a, d.K w a cs ∧ W a
theorem opens_int {t : TypeId} {k : IntKind} (ht : P.underlying t = some (.int k)) (hc : P.cellsOf t = 1) : Opens enc P w base spare held t (Kd.int k) (fun n => (Lit.int k n).wf = true) :=
  ⟨hc, fun fuel cs x h => by
    obtain ⟨n, rfl, _, hw⟩ := DataW.trod_int ht h
    exact ⟨n, rfl, hw⟩⟩
theorem opens_iso {t : TypeId} {α β : Type} {d : Kd α} {W : α → Prop} (h : Opens enc P w base spare held t d W) (f : β → α) (g : α → β) (hg : ∀ a, f (g a) = a) : Opens enc P w base spare held t (Kd.iso d f) (fun b => W (f b)) :=
  ⟨h.1, fun fuel cs x hx => by
    obtain ⟨a, hk, hw⟩ := h.2 fuel cs x hx
    refine ⟨g a, ?_, ?_⟩
    · show d.K w (f (g a)) cs
      rw [hg]; exact hk
    · show W (f (g a))
      rw [hg]; exact hw⟩
theorem opens_slice {t e : TypeId} {α : Type} {d : Kd α} {W : α → Prop} (ht : P.underlying t = some (.slice e)) (hc : P.cellsOf t = 1) (h : Opens enc P w base spare held e d W) :
    Opens enc P w base spare held t (Kd.slice e d) (fun l => l.length ≤ maxLen ∧ ∀ a ∈ l, W a) :=
  ⟨hc, fun fuel cs x hx => by
    rcases open_slice ht hx with ⟨rfl, _⟩ | ⟨a, len, cap, m, n, D, Pl, rfl, _, hl, hm, hmm, _, hel⟩
    · exact ⟨[], ⟨none, 0, rfl, Nat.le_refl _, ⟨rfl, Nat.zero_le _, fun h => absurd h (Nat.lt_irrefl 0)⟩⟩, Nat.zero_le _, fun a ha => by cases ha⟩
    · have hlm : len ≤ m := by rw [hmm]; split <;> omega
      have hall : ∀ i, i < len → ∃ b, (∃ cs', w.cells? base (a.add (i * P.cellsOf e)) (P.cellsOf e) = some cs' ∧ d.K w b cs') ∧ W b := fun i hi => by
        obtain ⟨cs', h1, h2⟩ := hel i (by omega)
        obtain ⟨b, hk, hw⟩ := h.2 _ _ _ h2
        exact ⟨b, ⟨cs', h1, hk⟩, hw⟩
      classical
      let l : List α := (List.range len).attach.map fun i => Classical.choose (hall i.1 (List.mem_range.1 i.2))
      have hll : l.length = len := by simp [l]
      have hget : ∀ i (hi : i < len), l[i]? = some (Classical.choose (hall i hi)) := fun i hi => by
        simp [l, hi]
      refine ⟨l, ⟨some a, cap, by rw [hll], by rw [hll]; exact hl, rfl, ?_, ?_⟩, ?_, ?_⟩
      · rw [hll]; have : maxLen = 9223372036854775807 := rfl; omega
      · intro _
        refine ⟨a, rfl, fun j p hp => ?_⟩
        have hj : j < len := by rw [← hll]; exact (List.getElem?_eq_some_iff.1 hp).1
        rw [hget j hj] at hp
        obtain rfl := Option.some.inj hp
        obtain ⟨⟨cs', h1, hk⟩, _⟩ := Classical.choose_spec (hall j hj)
        refine ⟨cs', d.K_len hk, hk, fun i u hu => ?_⟩
        obtain ⟨_, hlen, hcell⟩ := World.cells?_some h1
        have hi : i < P.cellsOf e := by rw [← hlen]; exact (List.getElem?_eq_some_iff.1 hu).1
        have := hcell i hi
        rw [hu, Deep.add_add, h.1] at this
        exact this
      · rw [hll]; omega
      · intro b hb
        obtain ⟨j, hj, rfl⟩ := List.mem_iff_getElem.1 hb
        have hj' : j < len := by rw [← hll]; exact hj
        have := hget j hj'
        rw [List.getElem?_eq_getElem hj] at this
        rw [Option.some.inj this]
        exact (Classical.choose_spec (hall j hj')).2⟩
def OpensF (enc : TypeId × Value → H) (P : Program) (w : World) (base : Nat) (spare : Nat → Bool) (held : Bool) (fs : List Field) (o : Nat) {α : Type} (d : Kd α) (W : α → Prop) : Prop :=
  ∀ fuel (cs : List Value), (∀ f ∈ fs, ∃ x, DataW.trod enc P w base spare held fuel f.type ((cs.drop f.offset).take (P.cellsOf f.type)) = some x) → ∃ a, d.K w a ((cs.drop o).take d.sz) ∧ W a
theorem opensF_last {f : Field} {α : Type} {d : Kd α} {W : α → Prop} (h : Opens enc P w base spare held f.type d W) : OpensF enc P w base spare held [f] f.offset d W := fun fuel cs hx => by
  obtain ⟨x, hx⟩ := hx f (List.mem_singleton.2 rfl)
  obtain ⟨a, hk, hw⟩ := h.2 _ _ _ hx
  rw [h.1] at hk
  exact ⟨a, hk, hw⟩
theorem opensF_cons {f : Field} {fs : List Field} {o : Nat} {α β : Type} {d : Kd α} {d2 : Kd β} {W : α → Prop} {W2 : β → Prop} (h : Opens enc P w base spare held f.type d W) (h2 : OpensF enc P w base spare held fs o d2 W2) (ho : o = f.offset + d.sz) :
    OpensF enc P w base spare held (f :: fs) f.offset (Kd.pair d d2) (fun p => W p.1 ∧ W2 p.2) := fun fuel cs hx => by
  subst ho
  obtain ⟨a, hk, hw⟩ := opensF_last h fuel cs (fun g hg => hx g (by rw [List.mem_singleton.1 hg]; exact List.mem_cons_self))
  obtain ⟨b, hk2, hw2⟩ := h2 fuel cs (fun g hg => hx g (List.mem_cons_of_mem _ hg))
  refine ⟨(a, b), ⟨_, _, ?_, hk, hk2⟩, hw, hw2⟩
  show (cs.drop f.offset).take (d.sz + d2.sz) = _
  rw [List.take_add, List.drop_drop]
theorem opens_struct {t : TypeId} {fs : Array Field} {α : Type} {d : Kd α} {W : α → Prop} (ht : P.underlying t = some (.struct fs)) (hc : P.cellsOf t = d.sz) (h : OpensF enc P w base spare held fs.toList 0 d W) : Opens enc P w base spare held t d W :=
  ⟨hc, fun fuel cs x hx => by
    obtain ⟨xs, n, rfl, _, hl, hxl, hf⟩ := DataW.trod_struct ht hx
    obtain ⟨a, hk, hw⟩ := h n cs (fun f hf' => by
      obtain ⟨i, hi, rfl⟩ := List.mem_iff_getElem.1 hf'
      have h1 := hf i _ (by rw [← Array.getElem?_toList, List.getElem?_eq_getElem hi])
      rw [h1]
      exact ⟨xs[i]'(by rw [hxl]; simpa using hi), List.getElem?_eq_getElem _⟩)
    rw [List.drop_zero, List.take_of_length_le (by rw [hl, hc]; exact Nat.le_refl _)] at hk
    exact ⟨a, hk, hw⟩⟩
theorem Opens.at {t : TypeId} {α : Type} {d : Kd α} {W : α → Prop} (h : Opens enc P w base spare held t d W) {v : Value} {x : DataW H} {ps : List MemPlace} (hv : DataW.Trod enc P w base spare held t v x ps) : ∃ a, d.K w a v.cells.toList ∧ W a := by
  obtain ⟨fuel, hf⟩ := hv
  exact h.2 _ _ _ hf
end
end Go.Proofs.YtofpohpflpdbiaaO
namespace Go.Proofs.Ytofpohpflpdbiaa.HP
open Go.RowKit Go.Proofs.Ytofpohpflpdbiaa.H Go.Proofs.YtofpohpflpdbiaaW.PrintWords Go.Proofs.YtofpohpflpdbiaaW.PrintLast
set_option linter.unusedVariables false
set_option linter.unusedSimpArgs false
theorem nxt (i : Nat) (h : i < 4611686018427387904) : wrap64 ((i : Int) + 1) = ((i + 1 : Nat) : Int) := by unfold wrap64; omega
theorem prv (i : Nat) (h : i < 4611686018427387904) : wrap64 (((i + 1 : Nat) : Int) - 1) = ((i : Nat) : Int) := by unfold wrap64; omega
theorem rd54 (l : List S54) (i : Nat) (h : i < l.length) : rd_T54 l (i : Int) = l[i] := by simp [rd_T54, List.getD_eq_getElem?_getD, h]
theorem rd61 (l : List S61) (i : Nat) (h : i < l.length) : rd_T61 l (i : Int) = l[i] := by simp [rd_T61, List.getD_eq_getElem?_getD, h]
theorem in_eq (x lo hi : Int) : spec_l01In.f x lo hi = some (decide (lo ≤ x ∧ x ≤ hi)) := by
  unfold spec_l01In.f; split <;> simp_all <;> omega
theorem within_eq (x lo hi : Int) : impl_within.f x lo hi = some (decide (lo ≤ x ∧ x ≤ hi)) := by
  unfold impl_within.f; split <;> simp_all <;> omega
theorem key_eq (x : Int) : spec_l13Key.f x = some (decide (0 ≤ x ∧ x ≤ 65535)) := by simp [spec_l13Key.f, in_eq]
theorem isKey_eq (x : Int) : impl_isKey.f x = some (decide (0 ≤ x ∧ x ≤ 65535)) := by simp [impl_isKey.f, within_eq]
theorem isMany_eq (x : Int) : impl_isMany.f x = some (decide (0 ≤ x ∧ x ≤ 1000000000)) := by simp [impl_isMany.f, within_eq]
def cv (x : S61) : S54 := ⟨x.f0, x.f1⟩
theorem toSlot_l0 (l : List S61) (hl : l.length < 4611686018427387904) : ∀ n i k, i + n = l.length → n < k → laws_toSlotS.l0 k l ((l.take i).map cv ++ List.replicate n z54) (i : Int) = some (l.map cv) := by
  intro n
  induction n with
  | zero =>
    intro i k hi hk
    obtain ⟨k, rfl⟩ : ∃ q, k = q + 1 := ⟨k - 1, by omega⟩
    have h0 : ¬ ((i : Int) < l.length) := by omega
    simp only [laws_toSlotS.l0, if_neg h0]
    rw [List.take_of_length_le (by omega)]; simp
  | succ n ih =>
    intro i k hi hk
    obtain ⟨k, rfl⟩ : ∃ q, k = q + 1 := ⟨k - 1, by omega⟩
    have hlt : i < l.length := by omega
    have h0 : (i : Int) < l.length := by omega
    have h1 : (0 : Int) ≤ i := by omega
    have h2 : (i : Int) < (((l.take i).map cv ++ List.replicate (n + 1) z54).length : Int) := by simp; omega
    simp only [laws_toSlotS.l0, if_pos h0, if_pos h1, laws_toSlot.f, Option.bind_some, if_pos h2]
    rw [nxt i (by omega), rd61 l i hlt, Int.toNat_natCast]
    have e : ((l.take i).map cv ++ List.replicate (n + 1) z54).set i (⟨l[i].f0, l[i].f1⟩ : S54) = (l.take (i + 1)).map cv ++ List.replicate n z54 := by
      have e1 : ((l.take i).map cv).length = i := by rw [List.length_map, List.length_take]; omega
      rw [List.set_append_right _ _ (by omega), e1, Nat.sub_self, List.take_succ_eq_append_getElem hlt, List.map_append, List.append_assoc, List.replicate_succ, List.set_cons_zero]
      rfl
    rw [e]
    exact ih (i + 1) k (by omega) (by omega)
theorem toSlotS_eq (l : List S61) (hl : l.length ≤ 1048576) (k : Nat) (hk : l.length < k) : laws_toSlotS.f k l = some (l.map cv) := by
  have h1 : (0 : Int) ≤ l.length := by omega
  have h2 : ((l.length : Int)).toNat ≤ 17592186044416 := by omega
  simp only [laws_toSlotS.f, if_pos h1, if_pos h2]
  have := toSlot_l0 l (by omega) l.length 0 k (by omega) hk
  simpa using this
theorem toHeavy_eq (a0 : Int) (l : List S61) (a2 a3 : Int) (hl : l.length ≤ 1048576) (k : Nat) (hk : l.length < k) : laws_toHeavy.f k a0 l a2 a3 = some (a0, l.map cv, a2, a3) := by
  simp [laws_toHeavy.f, toSlotS_eq l hl k hk]
theorem copy_l0 (l : List S54) (hl : l.length < 8796093022208) (a0 a2 a3 b0 b2 b3 : Int) : ∀ n i k, i + n = l.length → n < k → spec_l13Copy.l0 k (i : Int) a0 l a2 a3 b0 (l.take i) b2 b3 = some (b0, l, b2, b3) := by
  intro n
  induction n with
  | zero =>
    intro i k hi hk
    obtain ⟨k, rfl⟩ : ∃ q, k = q + 1 := ⟨k - 1, by omega⟩
    have h0 : ¬ ((i : Int) < l.length) := by omega
    simp only [spec_l13Copy.l0, if_neg h0]
    rw [List.take_of_length_le (by omega)]
  | succ n ih =>
    intro i k hi hk
    obtain ⟨k, rfl⟩ : ∃ q, k = q + 1 := ⟨k - 1, by omega⟩
    have hlt : i < l.length := by omega
    have h0 : (i : Int) < l.length := by omega
    have h1 : (0 : Int) ≤ i := by omega
    have h2 : (l.take i).length < 8796093022208 := by rw [List.length_take]; omega
    simp only [spec_l13Copy.l0, if_pos h0, if_pos h1, if_pos h2]
    rw [nxt i (by omega), rd54 l i hlt]
    have e : l.take i ++ [(⟨l[i].f0, l[i].f1⟩ : S54)] = l.take (i + 1) := by rw [List.take_succ_eq_append_getElem hlt]
    rw [e]
    exact ih (i + 1) k (by omega) (by omega)
theorem copy_eq (a0 : Int) (l : List S54) (a2 a3 : Int) (hl : l.length ≤ 1048576) (k : Nat) (hk : l.length < k) : spec_l13Copy.f k a0 l a2 a3 = some (a0, l, a2, a3) := by
  have := copy_l0 l (by omega) a0 a2 a3 a0 a2 a3 l.length 0 k (by omega) hk
  simpa [spec_l13Copy.f] using this
theorem own_eq (a0 : Int) (l : List S54) (a2 a3 : Int) (hl : l.length ≤ 1048576) : impl_ownHeavy.f a0 l a2 a3 = some (a0, l, a2, a3) := by
  have : l.length < 8796093022208 := by omega
  simp [impl_ownHeavy.f, impl_Slot_47.f, this]
def okS (s : S54) : Bool := decide (0 ≤ s.f0 ∧ s.f0 ≤ 65535) && decide (1 ≤ s.f1 ∧ s.f1 ≤ 1000000000)
def okFrom (p : Option Int) : List S54 → Bool
  | [] => true
  | s :: r => okS s && (match p with | none => true | some q => decide (q < s.f0)) && okFrom (some s.f0) r
def prevOf (l : List S54) (i : Nat) : Option Int := match i with | 0 => none | j + 1 => l[j]?.map (·.f0)
theorem specOk_l0 (l : List S54) (hl : l.length < 4611686018427387904) (a0 a2 a3 : Int) : ∀ n i k, i + n = l.length → n < k → spec_HeavyOk.l0 k (i : Int) a0 l a2 a3 = some (okFrom (prevOf l i) (l.drop i)) := by
  intro n
  induction n with
  | zero =>
    intro i k hi hk
    obtain ⟨k, rfl⟩ : ∃ q, k = q + 1 := ⟨k - 1, by omega⟩
    have h0 : ¬ ((i : Int) < l.length) := by omega
    simp only [spec_HeavyOk.l0, if_neg h0]
    rw [List.drop_of_length_le (by omega)]; rfl
  | succ n ih =>
    intro i k hi hk
    obtain ⟨k, rfl⟩ : ∃ q, k = q + 1 := ⟨k - 1, by omega⟩
    have hlt : i < l.length := by omega
    have h0 : (i : Int) < l.length := by omega
    have h1 : (0 : Int) ≤ i := by omega
    have ih1 := ih (i + 1) k (by omega) (by omega)
    have hp : prevOf l (i + 1) = some l[i].f0 := by simp [prevOf, hlt]
    rw [hp] at ih1
    rw [List.drop_eq_getElem_cons hlt]
    simp only [spec_HeavyOk.l0, if_pos h0, if_pos h1, rd54 l i hlt, key_eq, in_eq, Option.bind_some, decide_eq_true_eq, nxt i (by omega), ih1, okFrom, okS]
    by_cases c1 : 0 ≤ l[i].f0 ∧ l[i].f0 ≤ 65535
    · by_cases c2 : 1 ≤ l[i].f1 ∧ l[i].f1 ≤ 1000000000
      · rw [if_pos c1, if_pos c2]
        cases i with
        | zero => simp [prevOf, c1, c2]
        | succ j =>
          have g0 : ((j + 1 : Nat) : Int) > 0 := by omega
          have g1 : (0 : Int) ≤ (j : Int) := by omega
          have g2 : (j : Int) < l.length := by omega
          rw [if_pos g0, prv j (by omega), if_pos g1, if_pos g2, rd54 l j (by omega)]
          have hpj : prevOf l (j + 1) = some (l[j]'(by omega)).f0 := by simp [prevOf, show j < l.length by omega]
          rw [hpj]
          by_cases c3 : (l[j]'(by omega)).f0 ≥ l[j + 1].f0
          · rw [if_pos c3]; simp [show ¬ ((l[j]'(by omega)).f0 < l[j + 1].f0) by omega]
          · rw [if_neg c3]; simp [c1, c2, show ((l[j]'(by omega)).f0 < l[j + 1].f0) by omega]
      · rw [if_pos c1, if_neg c2]; simp [c2]
    · rw [if_neg c1]; simp [c1]
theorem implOk_l0 (l : List S54) (hl : l.length < 4611686018427387904) (a0 a2 a3 : Int) : ∀ n i k, i + n = l.length → n < k → impl_HeavyOk.l0 k l (l.length : Int) (i : Int) a0 l a2 a3 = some (okFrom (prevOf l i) (l.drop i)) := by
  intro n
  induction n with
  | zero =>
    intro i k hi hk
    obtain ⟨k, rfl⟩ : ∃ q, k = q + 1 := ⟨k - 1, by omega⟩
    have h0 : ¬ ((i : Int) < l.length) := by omega
    simp only [impl_HeavyOk.l0, if_neg h0]
    rw [List.drop_of_length_le (by omega)]; rfl
  | succ n ih =>
    intro i k hi hk
    obtain ⟨k, rfl⟩ : ∃ q, k = q + 1 := ⟨k - 1, by omega⟩
    have hlt : i < l.length := by omega
    have h0 : (i : Int) < l.length := by omega
    have h1 : (0 : Int) ≤ i := by omega
    have ih1 := ih (i + 1) k (by omega) (by omega)
    have hp : prevOf l (i + 1) = some l[i].f0 := by simp [prevOf, hlt]
    rw [hp] at ih1
    rw [List.drop_eq_getElem_cons hlt]
    simp only [impl_HeavyOk.l0, if_pos h0, if_pos h1, rd54 l i hlt, isKey_eq, within_eq, Option.bind_some, decide_eq_true_eq, nxt i (by omega), ih1, okFrom, okS]
    by_cases c1 : 0 ≤ l[i].f0 ∧ l[i].f0 ≤ 65535
    · by_cases c2 : 1 ≤ l[i].f1 ∧ l[i].f1 ≤ 1000000000
      · rw [if_pos c1, if_pos c2]
        cases i with
        | zero => simp [prevOf, c1, c2]
        | succ j =>
          have g0 : ((j + 1 : Nat) : Int) > 0 := by omega
          have g1 : (0 : Int) ≤ (j : Int) := by omega
          have g2 : (j : Int) < l.length := by omega
          rw [if_pos g0, prv j (by omega), if_pos g1, if_pos g2, rd54 l j (by omega)]
          have hpj : prevOf l (j + 1) = some (l[j]'(by omega)).f0 := by simp [prevOf, show j < l.length by omega]
          rw [hpj]
          by_cases c3 : l[j + 1].f0 ≤ (l[j]'(by omega)).f0
          · rw [if_pos c3]; simp [show ¬ ((l[j]'(by omega)).f0 < l[j + 1].f0) by omega]
          · rw [if_neg c3]; simp [c1, c2, show ((l[j]'(by omega)).f0 < l[j + 1].f0) by omega]
      · rw [if_pos c1, if_neg c2]; simp [c2]
    · rw [if_neg c1]; simp [c1]
def hok (a0 : Int) (l : List S54) (a2 a3 : Int) : Bool := decide (1 ≤ a0 ∧ a0 ≤ 16) && decide ((l.length : Int) ≤ a0) && decide (0 ≤ a2 ∧ a2 ≤ 1000000000) && decide (0 ≤ a3 ∧ a3 ≤ 1000000000) && okFrom none l
theorem specOk_eq (a0 : Int) (l : List S54) (a2 a3 : Int) (hl : l.length ≤ 4000000) (k : Nat) (hk : l.length + 1 < k) : spec_HeavyOk.f k a0 l a2 a3 = some (hok a0 l a2 a3) := by
  obtain ⟨k, rfl⟩ : ∃ q, k = q + 1 := ⟨k - 1, by omega⟩
  have h := specOk_l0 l (by omega) a0 a2 a3 l.length 0 k (by omega) (by omega)
  simp only [Int.natCast_zero, Int.ofNat_zero, List.drop_zero, prevOf] at h
  simp only [spec_HeavyOk.f, spec_HeavyOk.j0, in_eq, Option.bind_some, decide_eq_true_eq, hok]
  by_cases c1 : 1 ≤ a0 ∧ a0 ≤ 16 <;> by_cases c2 : (l.length : Int) > a0 <;> by_cases c3 : 0 ≤ a2 ∧ a2 ≤ 1000000000 <;> by_cases c4 : 0 ≤ a3 ∧ a3 ≤ 1000000000 <;> simp [c1, c2, c3, c4, h, show ((l.length : Int) ≤ a0) ↔ ¬ ((l.length : Int) > a0) by omega]
theorem implOk_eq (a0 : Int) (l : List S54) (a2 a3 : Int) (hl : l.length ≤ 4000000) (k : Nat) (hk : l.length + 1 < k) : impl_HeavyOk.f k a0 l a2 a3 = some (hok a0 l a2 a3) := by
  obtain ⟨k, rfl⟩ : ∃ q, k = q + 1 := ⟨k - 1, by omega⟩
  have h := implOk_l0 l (by omega) a0 a2 a3 l.length 0 k (by omega) (by omega)
  simp only [Int.natCast_zero, Int.ofNat_zero, List.drop_zero, prevOf] at h
  simp only [impl_HeavyOk.f, impl_HeavyOk.j0, within_eq, isMany_eq, Option.bind_some, decide_eq_true_eq, hok]
  by_cases c1 : 1 ≤ a0 ∧ a0 ≤ 16 <;> by_cases c2 : (l.length : Int) > a0 <;> by_cases c3 : 0 ≤ a2 ∧ a2 ≤ 1000000000 <;> by_cases c4 : 0 ≤ a3 ∧ a3 ≤ 1000000000 <;> simp [c1, c2, c3, c4, h, show ((l.length : Int) ≤ a0) ↔ ¬ ((l.length : Int) > a0) by omega]
end Go.Proofs.Ytofpohpflpdbiaa.HP
namespace Go.Proofs.Ytofpohpflpdbiaa.HP
open Go.RowKit Go.Proofs.Ytofpohpflpdbiaa.H Go.Proofs.YtofpohpflpdbiaaW.PrintWords Go.Proofs.YtofpohpflpdbiaaW.PrintLast
set_option linter.unusedVariables false
set_option linter.unusedSimpArgs false
def putF (key c : Int) : Bool → List S54 → List S54
  | d, [] => if d = true then [] else [⟨key, c⟩]
  | d, s :: r => if s.f0 = key then ⟨s.f0, wrap64 (s.f1 + c)⟩ :: putF key c true r
      else if d = true then s :: putF key c d r
      else if s.f0 > key then ⟨key, c⟩ :: s :: putF key c true r
      else s :: putF key c d r
theorem put_l0 (l : List S54) (hl : l.length < 4000000) (key c : Int) : ∀ n i k out d, i + n = l.length → n < k → out.length + 2 * n < 8000000 → spec_l13Put.l0 k l key c out d (i : Int) = some (out ++ putF key c d (l.drop i)) := by
  intro n
  induction n with
  | zero =>
    intro i k out d hi hk ho
    obtain ⟨k, rfl⟩ : ∃ q, k = q + 1 := ⟨k - 1, by omega⟩
    have h0 : ¬ ((i : Int) < l.length) := by omega
    have h2 : out.length < 8796093022208 := by omega
    simp only [spec_l13Put.l0, if_neg h0, if_pos h2]
    rw [List.drop_of_length_le (by omega)]
    cases d <;> simp [putF]
  | succ n ih =>
    intro i k out d hi hk ho
    obtain ⟨k, rfl⟩ : ∃ q, k = q + 1 := ⟨k - 1, by omega⟩
    have hlt : i < l.length := by omega
    have h0 : (i : Int) < l.length := by omega
    have h1 : (0 : Int) ≤ i := by omega
    have h2 : out.length < 8796093022208 := by omega
    have h3 : ∀ z : S54, (out ++ [z]).length < 8796093022208 := fun z => by simp; omega
    have ih1 := fun z d => ih (i + 1) k (out ++ [z]) d (by omega) (by omega) (by simp; omega)
    have ih2 := fun y z d => ih (i + 1) k (out ++ [y] ++ [z]) d (by omega) (by omega) (by simp; omega)
    rw [List.drop_eq_getElem_cons hlt]
    simp only [spec_l13Put.l0, if_pos h0, if_pos h1, if_pos h2, rd54 l i hlt, nxt i (by omega), ih1, Option.bind_some, if_pos (h3 _), ih2, putF]
    by_cases c1 : l[i].f0 = key
    · simp [c1]
    · cases d with
      | true => simp [c1]
      | false => by_cases c2 : l[i].f0 > key <;> simp [c1, c2]
theorem put_eq (l : List S54) (hl : l.length < 1100000) (key c : Int) (k : Nat) (hk : l.length < k) : spec_l13Put.f k l key c = some (putF key c false l) := by
  have := put_l0 l (by omega) key c l.length 0 k [] false (by omega) hk (by simp; omega)
  simpa [spec_l13Put.f] using this
theorem less_l0 (l : List S54) (hl : l.length < 4000000) (x : Int) : ∀ n i k out, i + n = l.length → n < k → out.length + n < 8000000 → spec_l13Less.l0 k l x out (i : Int) = some (out ++ cutL x (l.drop i)) := by
  intro n
  induction n with
  | zero =>
    intro i k out hi hk ho
    obtain ⟨k, rfl⟩ : ∃ q, k = q + 1 := ⟨k - 1, by omega⟩
    have h0 : ¬ ((i : Int) < l.length) := by omega
    simp only [spec_l13Less.l0, if_neg h0]
    rw [List.drop_of_length_le (by omega)]; simp [cutL]
  | succ n ih =>
    intro i k out hi hk ho
    obtain ⟨k, rfl⟩ : ∃ q, k = q + 1 := ⟨k - 1, by omega⟩
    have hlt : i < l.length := by omega
    have h0 : (i : Int) < l.length := by omega
    have h1 : (0 : Int) ≤ i := by omega
    have h2 : out.length < 8796093022208 := by omega
    have ih0 := ih (i + 1) k out (by omega) (by omega) (by omega)
    have ih1 := fun z => ih (i + 1) k (out ++ [z]) (by omega) (by omega) (by simp; omega)
    have e : cutL x (l[i] :: l.drop (i + 1)) = (if l[i].f1 > x then [⟨l[i].f0, wrap64 (l[i].f1 - x)⟩] else []) ++ cutL x (l.drop (i + 1)) := by rw [cutL, List.flatMap_cons]; rfl
    rw [List.drop_eq_getElem_cons hlt, e]
    simp only [spec_l13Less.l0, if_pos h0, if_pos h1, if_pos h2, rd54 l i hlt, nxt i (by omega), ih1, ih0]
    by_cases c1 : l[i].f1 > x <;> simp [c1]
theorem less_eq (l : List S54) (hl : l.length < 4000000) (x : Int) (k : Nat) (hk : l.length < k) : spec_l13Less.f k l x = some (cutL x l) := by
  have := less_l0 l (by omega) x l.length 0 k [] (by omega) hk (by simp; omega)
  simpa [spec_l13Less.f] using this
def hasF (key : Int) : List S54 → Int
  | [] => 0
  | s :: r => if s.f0 = key then s.f1 else hasF key r
theorem has_l0 (l : List S54) (hl : l.length < 4000000) (key : Int) : ∀ n i k, i + n = l.length → n < k → spec_l13Has.l0 k l key (i : Int) = some (hasF key (l.drop i)) := by
  intro n
  induction n with
  | zero =>
    intro i k hi hk
    obtain ⟨k, rfl⟩ : ∃ q, k = q + 1 := ⟨k - 1, by omega⟩
    have h0 : ¬ ((i : Int) < l.length) := by omega
    simp only [spec_l13Has.l0, if_neg h0]
    rw [List.drop_of_length_le (by omega)]; rfl
  | succ n ih =>
    intro i k hi hk
    obtain ⟨k, rfl⟩ : ∃ q, k = q + 1 := ⟨k - 1, by omega⟩
    have hlt : i < l.length := by omega
    have h0 : (i : Int) < l.length := by omega
    have h1 : (0 : Int) ≤ i := by omega
    have ih0 := ih (i + 1) k (by omega) (by omega)
    rw [List.drop_eq_getElem_cons hlt]
    simp only [spec_l13Has.l0, if_pos h0, if_pos h1, rd54 l i hlt, nxt i (by omega), ih0, hasF]
    by_cases c1 : l[i].f0 = key <;> simp [c1]
theorem has_eq (l : List S54) (hl : l.length < 4000000) (key : Int) (k : Nat) (hk : l.length < k) : spec_l13Has.f k l key = some (hasF key l) := by
  have := has_l0 l (by omega) key l.length 0 k (by omega) hk
  simpa [spec_l13Has.f] using this
def Rises (l : List S54) : Prop := l.Pairwise (fun a b => a.f0 < b.f0)
theorem rises_from : ∀ (l : List S54) (p : Option Int), okFrom p l = true → Rises l ∧ (∀ q, p = some q → ∀ s ∈ l, q < s.f0) ∧ ∀ s ∈ l, okS s = true
  | [], p, _ => ⟨List.Pairwise.nil, by simp, by simp⟩
  | s :: r, p, h => by
    simp only [okFrom, Bool.and_eq_true] at h
    obtain ⟨⟨h1, h2⟩, h3⟩ := h
    obtain ⟨a, b, c⟩ := rises_from r (some s.f0) h3
    refine ⟨List.Pairwise.cons (fun t ht => b _ rfl t ht) a, ?_, ?_⟩
    · rintro q rfl t ht
      have hq : q < s.f0 := by simpa using h2
      rcases List.mem_cons.1 ht with rfl | ht
      · exact hq
      · have := b _ rfl t ht; omega
    · intro t ht
      rcases List.mem_cons.1 ht with rfl | ht
      · exact h1
      · exact c t ht
def lb (key : Int) (l : List S54) : Nat := (l.takeWhile (fun s => decide (s.f0 < key))).length
theorem lb_le (key : Int) (l : List S54) : lb key l ≤ l.length := by
  induction l with
  | nil => simp [lb]
  | cons s r ih =>
    unfold lb at ih ⊢
    rw [List.takeWhile_cons]
    split <;> simp <;> omega
theorem lb_lt {key : Int} : ∀ {l : List S54} (h : Rises l) (m : Nat) (hm : m < l.length), (l[m].f0 < key ↔ m < lb key l)
  | [], _, m, hm => by simp at hm
  | s :: r, h, m, hm => by
    obtain ⟨h1, h2⟩ := List.pairwise_cons.1 h
    unfold lb
    rw [List.takeWhile_cons]
    by_cases c : s.f0 < key
    · simp only [c, decide_true, if_true, List.length_cons]
      cases m with
      | zero => simp [c]
      | succ m =>
        have := lb_lt (key := key) h2 m (by simpa using hm)
        simp only [List.getElem_cons_succ]
        rw [this]; unfold lb; omega
    · simp only [c, decide_false]
      cases m with
      | zero => simp [c]
      | succ m =>
        have := h1 (r[m]'(by simpa using hm)) (List.getElem_mem _)
        simp only [List.getElem_cons_succ]
        simp; omega
theorem putF_true (key c : Int) : ∀ (l : List S54), (∀ s ∈ l, s.f0 ≠ key) → putF key c true l = l
  | [], _ => rfl
  | s :: r, h => by
    simp [putF, h s List.mem_cons_self, putF_true key c r (fun t ht => h t (List.mem_cons_of_mem _ ht))]
theorem putF_rises (key c : Int) : ∀ (l : List S54), Rises l → putF key c false l = if h : ∃ h : lb key l < l.length, l[lb key l].f0 = key then l.set (lb key l) ⟨(l[lb key l]'h.1).f0, wrap64 ((l[lb key l]'h.1).f1 + c)⟩ else l.take (lb key l) ++ ⟨key, c⟩ :: l.drop (lb key l)
  | [], _ => by simp [putF, lb]
  | s :: r, h => by
    obtain ⟨h1, h2⟩ := List.pairwise_cons.1 h
    by_cases c1 : s.f0 < key
    · have e : lb key (s :: r) = lb key r + 1 := by simp [lb, List.takeWhile_cons, c1]
      have ih := putF_rises key c r h2
      have n1 : ¬ (s.f0 = key) := by omega
      have n2 : ¬ (s.f0 > key) := by omega
      simp only [putF, if_neg n1, if_neg n2, ih, e]
      by_cases g : ∃ h : lb key r < r.length, r[lb key r].f0 = key
      · have g' : ∃ h : lb key r + 1 < (s :: r).length, (s :: r)[lb key r + 1].f0 = key := ⟨by simpa using g.1, by simpa using g.2⟩
        rw [dif_pos g, dif_pos g']; simp
      · have g' : ¬ ∃ h : lb key r + 1 < (s :: r).length, (s :: r)[lb key r + 1].f0 = key := fun ⟨a, b⟩ => g ⟨by simpa using a, by simpa using b⟩
        rw [dif_neg g, dif_neg g']; simp
    · have e : lb key (s :: r) = 0 := by simp [lb, List.takeWhile_cons, c1]
      have hr : ∀ t ∈ r, t.f0 ≠ key := fun t ht => by have := h1 t ht; omega
      simp only [putF, e, putF_true key c r hr]
      by_cases c2 : s.f0 = key
      · have g' : ∃ h : 0 < (s :: r).length, (s :: r)[0].f0 = key := ⟨by simp, by simpa using c2⟩
        rw [dif_pos g', if_pos c2]; simp
      · have g' : ¬ ∃ h : 0 < (s :: r).length, (s :: r)[0].f0 = key := fun ⟨a, b⟩ => c2 (by simpa using b)
        rw [dif_neg g', if_neg c2]; simp [show s.f0 > key by omega]
theorem hasF_pos (key : Int) : ∀ (l : List S54), (∀ s ∈ l, okS s = true) → (hasF key l > 0 ↔ ∃ s ∈ l, s.f0 = key)
  | [], _ => by simp [hasF]
  | s :: r, h => by
    have h1 := h s List.mem_cons_self
    have ih := hasF_pos key r (fun t ht => h t (List.mem_cons_of_mem _ ht))
    simp only [okS, Bool.and_eq_true, decide_eq_true_eq] at h1
    by_cases c : s.f0 = key
    · simp only [hasF, if_pos c]
      exact ⟨fun _ => ⟨s, List.mem_cons_self, c⟩, fun _ => by omega⟩
    · simp only [hasF, if_neg c, ih]
      constructor
      · rintro ⟨t, ht, e⟩; exact ⟨t, List.mem_cons_of_mem _ ht, e⟩
      · rintro ⟨t, ht, e⟩
        rcases List.mem_cons.1 ht with rfl | ht
        · exact absurd e c
        · exact ⟨t, ht, e⟩
theorem at_lb {key : Int} {l : List S54} (h : Rises l) : (∃ h : lb key l < l.length, l[lb key l].f0 = key) ↔ ∃ s ∈ l, s.f0 = key := by
  constructor
  · rintro ⟨h1, h2⟩; exact ⟨_, List.getElem_mem h1, h2⟩
  · rintro ⟨s, hs, e⟩
    obtain ⟨m, hm, rfl⟩ := List.mem_iff_getElem.1 hs
    have h1 : ¬ (m < lb key l) := fun h2 => by have := (lb_lt (key := key) h m hm).2 h2; omega
    have h3 : lb key l ≤ m := by omega
    have hlt : lb key l < l.length := by omega
    refine ⟨hlt, ?_⟩
    have h4 : ¬ (l[lb key l].f0 < key) := fun h5 => by have := (lb_lt h _ hlt).1 h5; omega
    rcases Nat.lt_or_eq_of_le h3 with h5 | h5
    · have := List.pairwise_iff_getElem.1 h _ _ hlt hm h5; omega
    · simp only [h5]; exact e
theorem cmp_eq (a b : Int) : cmp_Compare_int.f a b = some (if a < b then -1 else if a > b then 1 else 0) := by
  simp only [cmp_Compare_int.f, cmp_isNaN_int.f, bne_self_eq_false, Option.bind_some, Bool.false_eq_true, if_false]
  split <;> (try split) <;> rfl
theorem mid_eq (i j : Nat) (hi : i < 2305843009213693952) (hj : j < 2305843009213693952) : wrap64 ((IntKind.u64.wrap (wrap64 ((i : Int) + (j : Int)))) / 2) = (((i + j) / 2 : Nat) : Int) := by
  have e : wrap64 ((i : Int) + (j : Int)) = ((i + j : Nat) : Int) := by unfold wrap64; omega
  rw [e]
  have e2 : IntKind.u64.wrap ((i + j : Nat) : Int) = ((i + j : Nat) : Int) := by
    simp [IntKind.wrap, IntKind.bits, IntKind.signed]; omega
  rw [e2]; unfold wrap64; omega
theorem slot_l0 (l : List S54) (hl : l.length < 4000000) (h : Rises l) (key : Int) : ∀ n i j k, i ≤ lb key l → lb key l ≤ j → j ≤ l.length → j - i ≤ n → n < k →
    impl_Slot_int.l0 k l key (l.length : Int) (i : Int) (j : Int) = some ((lb key l : Int), decide (∃ h : lb key l < l.length, l[lb key l].f0 = key)) := by
  have hle := lb_le key l
  intro n
  induction n with
  | zero =>
    intro i j k h1 h2 h3 h4 hk
    obtain ⟨k, rfl⟩ : ∃ q, k = q + 1 := ⟨k - 1, by omega⟩
    have e : i = lb key l := by omega
    have e2 : j = lb key l := by omega
    subst e2
    subst e
    have h0 : ¬ ((lb key l : Int) < (lb key l : Int)) := by omega
    have g1 : (0 : Int) ≤ (lb key l : Int) := by omega
    simp only [impl_Slot_int.l0, if_neg h0]
    by_cases c : lb key l < l.length
    · have c' : (lb key l : Int) < (l.length : Int) := by omega
      rw [if_pos c', if_pos g1, if_pos c']
      rw [rd54 l _ c]
      simp only [impl_slotAt_1.f, cmp_eq, Option.bind_some]
      have h4 : ¬ (l[lb key l].f0 < key) := fun h5 => by have := (lb_lt h _ c).1 h5; omega
      rw [if_neg h4]
      by_cases c2 : l[lb key l].f0 = key
      · have : ¬ (l[lb key l].f0 > key) := by omega
        rw [if_neg this]; simp [c, c2]
      · have : l[lb key l].f0 > key := by omega
        rw [if_pos this]; simp [c, c2]
    · have c' : ¬ ((lb key l : Int) < (l.length : Int)) := by omega
      rw [if_neg c']; simp [c]
  | succ n ih =>
    intro i j k h1 h2 h3 h4 hk
    by_cases hij : i < j
    · obtain ⟨k, rfl⟩ : ∃ q, k = q + 1 := ⟨k - 1, by omega⟩
      have h0 : ((i : Int) < (j : Int)) := by omega
      have hm : (i + j) / 2 < l.length := by omega
      have g1 : (0 : Int) ≤ (((i + j) / 2 : Nat) : Int) := by omega
      have g2 : (((i + j) / 2 : Nat) : Int) < (l.length : Int) := by omega
      simp only [impl_Slot_int.l0, if_pos h0, mid_eq i j (by omega) (by omega), if_pos g1, if_pos g2]
      rw [rd54 l _ hm]
      simp only [impl_slotAt_1.f, cmp_eq, Option.bind_some]
      have hlb := lb_lt (key := key) h _ hm
      by_cases c : l[(i + j) / 2].f0 < key
      · rw [if_pos c, if_pos (by decide), nxt _ (by omega)]
        exact ih _ _ _ (by have := hlb.1 c; omega) h2 h3 (by omega) (by omega)
      · rw [if_neg c]
        have : ¬ ((if l[(i + j) / 2].f0 > key then (1 : Int) else 0) < 0) := by split <;> omega
        rw [if_neg this]
        exact ih _ _ _ h1 (by have : ¬ ((i + j) / 2 < lb key l) := fun h5 => c (hlb.2 h5)
                              omega) (by omega) (by omega) (by omega)
    · exact ih i j k h1 h2 h3 (by omega) (by omega)
theorem slotAt_eq (l : List S54) (hl : l.length < 4000000) (h : Rises l) (key : Int) (k : Nat) (hk : l.length < k) : impl_slotAt.f k l key = some ((lb key l : Int), decide (∃ h : lb key l < l.length, l[lb key l].f0 = key)) := by
  have := slot_l0 l hl h key l.length 0 l.length k (by omega) (lb_le _ _) (by omega) (by omega) hk
  simp only [Int.natCast_zero, Int.ofNat_zero] at this
  simp [impl_slotAt.f, impl_Slot_int.f, this]
theorem eqSlots_l0 (l : List S54) (hl : l.length < 4000000) : ∀ n i k, i + n = l.length → n < k → laws_eqSlotS.l0 k l l (i : Int) = some true := by
  intro n
  induction n with
  | zero =>
    intro i k hi hk
    obtain ⟨k, rfl⟩ : ∃ q, k = q + 1 := ⟨k - 1, by omega⟩
    have h0 : ¬ ((i : Int) < l.length) := by omega
    simp only [laws_eqSlotS.l0, if_neg h0]
  | succ n ih =>
    intro i k hi hk
    obtain ⟨k, rfl⟩ : ∃ q, k = q + 1 := ⟨k - 1, by omega⟩
    have h0 : (i : Int) < l.length := by omega
    have h1 : (0 : Int) ≤ i := by omega
    have ih0 := ih (i + 1) k (by omega) (by omega)
    simp only [laws_eqSlotS.l0, if_pos h0, if_pos h1, nxt i (by omega), ih0, laws_eqSlot.f, Option.bind_some, if_true]
theorem eqHeavy_refl (a0 : Int) (l : List S54) (a2 a3 : Int) (hl : l.length < 4000000) (k : Nat) (hk : l.length < k) : laws_eqHeavy.f k a0 l a2 a3 a0 l a2 a3 = some true := by
  have := eqSlots_l0 l hl l.length 0 k (by omega) hk
  simp only [Int.natCast_zero, Int.ofNat_zero] at this
  simp [laws_eqHeavy.f, laws_eqSlotS.f, this]
def mkF : Int → List S54 → List S54
  | _, [] => []
  | c, s :: r => ⟨c, wrap64 (c + 1)⟩ :: mkF (wrap64 (wrap64 (c + 1) + 1)) r
def mkE : Int → List S54 → Int
  | c, [] => c
  | c, s :: r => mkE (wrap64 (wrap64 (c + 1) + 1)) r
theorem mkE_eq : ∀ (l : List S54) (c : Int), 0 ≤ c → c + 2 * l.length < 4611686018427387904 → mkE c l = c + 2 * l.length
  | [], c, _, _ => by simp [mkE]
  | s :: r, c, h0, h1 => by
    have e : wrap64 (wrap64 (c + 1) + 1) = c + 2 := by simp only [List.length_cons] at h1; unfold wrap64; omega
    simp only [List.length_cons] at h1
    rw [mkE, e, mkE_eq r (c + 2) (by omega) (by omega)]; simp only [List.length_cons]; omega
theorem mark_l0 : ∀ (r p : List S54) (k : Nat) (c : Int), (p ++ r).length < 4000000 → r.length < k → laws_markSlotS.l0 k (p ++ r) c (p.length : Int) = some (mkE c r, p ++ mkF c r) := by
  intro r
  induction r with
  | nil =>
    intro p k c hl hk
    obtain ⟨k, rfl⟩ : ∃ q, k = q + 1 := ⟨k - 1, by simp at hk; omega⟩
    have h0 : ¬ ((p.length : Int) < ((p ++ ([] : List S54)).length : Int)) := by simp
    simp only [laws_markSlotS.l0, if_neg h0]; simp [mkE, mkF]
  | cons s r ih =>
    intro p k c hl hk
    obtain ⟨k, rfl⟩ : ∃ q, k = q + 1 := ⟨k - 1, by simp at hk; omega⟩
    have h0 : ((p.length : Int) < ((p ++ s :: r).length : Int)) := by simp; omega
    have h1 : (0 : Int) ≤ p.length := by omega
    have hp : p.length < 4000000 := by simp at hl; omega
    have hset : ∀ y z : S54, (p ++ y :: r).set p.length z = p ++ z :: r := fun y z => by rw [List.set_append_right _ _ (Nat.le_refl _), Nat.sub_self, List.set_cons_zero]
    have hget : ∀ y : S54, rd_T54 (p ++ y :: r) (p.length : Int) = y := fun y => by rw [rd54 _ _ (by simp)]; simp
    have ih1 := fun y c => ih (p ++ [y]) k c (by simp at hl ⊢; omega) (by simp at hk; omega)
    simp only [laws_markSlotS.l0, if_pos h0, if_pos h1, Option.bind_some, Int.toNat_natCast, hset, hget, nxt p.length (by omega)]
    have e : ∀ y : S54, p ++ y :: r = p ++ [y] ++ r := fun y => by simp
    rw [e, show p.length + 1 = (p ++ [(⟨c, wrap64 (c + 1)⟩ : S54)]).length by simp, ih1]
    simp [mkE, mkF]
theorem markHeavy_eq (a0 : Int) (l : List S54) (a2 a3 : Int) (hl : l.length < 4000000) (k : Nat) (hk : l.length < k) : laws_markHeavy.f k a0 l a2 a3 1 = some (1 + 2 * (l.length : Int), mkF 1 l) := by
  have := mark_l0 l [] k 1 (by simpa using hl) hk
  simp only [List.nil_append, List.length_nil, Int.natCast_zero, Int.ofNat_zero] at this
  rw [mkE_eq l 1 (by omega) (by omega)] at this
  simp [laws_markHeavy.f, laws_markSlotS.f, this]
theorem held_l0 : ∀ (r p : List S54) (k : Nat) (c : Int), (p ++ r).length < 4000000 → r.length < k → laws_heldSlotS.l0 k (p ++ mkF c r) c (p.length : Int) = some (mkE c r) := by
  intro r
  induction r with
  | nil =>
    intro p k c hl hk
    obtain ⟨k, rfl⟩ : ∃ q, k = q + 1 := ⟨k - 1, by simp at hk; omega⟩
    have h0 : ¬ ((p.length : Int) < ((p ++ mkF c ([] : List S54)).length : Int)) := by simp [mkF]
    simp only [laws_heldSlotS.l0, if_neg h0]; simp [mkE]
  | cons s r ih =>
    intro p k c hl hk
    obtain ⟨k, rfl⟩ : ∃ q, k = q + 1 := ⟨k - 1, by simp at hk; omega⟩
    have h0 : ((p.length : Int) < ((p ++ mkF c (s :: r)).length : Int)) := by simp [mkF]; omega
    have h1 : (0 : Int) ≤ p.length := by omega
    have hp : p.length < 4000000 := by simp at hl; omega
    have hget : rd_T54 (p ++ mkF c (s :: r)) (p.length : Int) = ⟨c, wrap64 (c + 1)⟩ := by rw [rd54 _ _ (by simp [mkF])]; simp [mkF]
    have ih1 := ih (p ++ [(⟨c, wrap64 (c + 1)⟩ : S54)]) k (wrap64 (wrap64 (c + 1) + 1)) (by simp at hl ⊢; omega) (by simp at hk; omega)
    simp only [laws_heldSlotS.l0, if_pos h0, if_pos h1, hget, if_true, nxt p.length (by omega)]
    have e : p ++ mkF c (s :: r) = p ++ [(⟨c, wrap64 (c + 1)⟩ : S54)] ++ mkF (wrap64 (wrap64 (c + 1) + 1)) r := by simp [mkF]
    rw [e, show p.length + 1 = (p ++ [(⟨c, wrap64 (c + 1)⟩ : S54)]).length by simp, ih1]
    simp [mkE]
theorem heldHeavy_eq (a0 : Int) (l : List S54) (a2 a3 : Int) (hl : l.length < 4000000) (k : Nat) (hk : l.length < k) : laws_heldHeavy.f k a0 (mkF 1 l) a2 a3 1 = some (1 + 2 * (l.length : Int)) := by
  have := held_l0 l [] k 1 (by simpa using hl) hk
  simp only [List.nil_append, List.length_nil, Int.natCast_zero, Int.ofNat_zero] at this
  rw [mkE_eq l 1 (by omega) (by omega)] at this
  have h : ¬ (1 + 2 * (l.length : Int) < 0) := by omega
  simp [laws_heldHeavy.f, laws_heldSlotS.f, this, h]
def addH (a0 : Int) (l : List S54) (a2 a3 key : Int) : Int × List S54 × Int × Int × Bool :=
  if hok a0 l a2 a3 = true ∧ (0 ≤ key ∧ key ≤ 65535) ∧ a2 ≠ 1000000000 then
    if hasF key l > 0 ∨ (l.length : Int) < a0 then (a0, putF key 1 false l, wrap64 (a2 + 1), a3, true) else (a0, cutL 1 l, wrap64 (a2 + 1), wrap64 (a3 + 1), true)
  else (a0, l, a2, a3, false)
theorem specAdd_eq (a0 : Int) (l : List S54) (a2 a3 key : Int) (hl : l.length ≤ 1048576) (k : Nat) (hk : l.length + 3 < k) : spec_AddHeavy.f k a0 l a2 a3 key = some (addH a0 l a2 a3 key) := by
  obtain ⟨k, rfl⟩ : ∃ q, k = q + 2 := ⟨k - 2, by omega⟩
  simp only [spec_AddHeavy.f, copy_eq a0 l a2 a3 hl (k + 2) (by omega), specOk_eq a0 l a2 a3 (by omega) (k + 2) (by omega), key_eq, Option.bind_some, spec_AddHeavy.j0, spec_AddHeavy.j1,
    has_eq l (by omega) key (k + 1) (by omega), put_eq l (by omega) key 1 k (by omega), less_eq l (by omega) 1 k (by omega), addH, decide_eq_true_eq]
  cases c1 : hok a0 l a2 a3
  · simp
  · by_cases c2 : 0 ≤ key ∧ key ≤ 65535
    · by_cases c3 : a2 = 1000000000
      · simp [c2, c3]
      · by_cases c4 : hasF key l > 0
        · simp [c2, c3, c4]
        · by_cases c5 : (l.length : Int) < a0 <;> simp [c2, c3, c4, c5]
    · simp [c2]
theorem implAdd_eq (a0 : Int) (l : List S54) (a2 a3 key : Int) (hl : l.length ≤ 1048576) (k : Nat) (hk : l.length + 3 < k) : impl_AddHeavy.f k a0 l a2 a3 key = some (addH a0 l a2 a3 key) := by
  obtain ⟨k, rfl⟩ : ∃ q, k = q + 1 := ⟨k - 1, by omega⟩
  simp only [impl_AddHeavy.f, own_eq a0 l a2 a3 hl, implOk_eq a0 l a2 a3 (by omega) (k + 1) (by omega), isKey_eq, Option.bind_some, impl_AddHeavy.j0, addH, decide_eq_true_eq]
  cases c1 : hok a0 l a2 a3
  · simp
  · have hr : okFrom none l = true := by simp only [hok, Bool.and_eq_true] at c1; exact c1.2
    obtain ⟨hris, _, hoks⟩ := rises_from l none hr
    have hle := lb_le key l
    by_cases c2 : 0 ≤ key ∧ key ≤ 65535
    · by_cases c3 : a2 = 1000000000
      · simp [c2, c3]
      · rw [slotAt_eq l (by omega) hris key k (by omega)]
        have hp := putF_rises key 1 l hris
        by_cases c4 : ∃ s ∈ l, s.f0 = key
        · have g := (at_lb hris).2 c4
          have c4' := (hasF_pos key l hoks).2 c4
          rw [dif_pos g] at hp
          have g2 : (lb key l : Int) < (l.length : Int) := by have := g.1; omega
          simp [c2, c3, c4', g2, hp, rd54 l _ g.1, g.1, g.2]
        · have g : ¬ _ := fun h => c4 ((at_lb (key := key) hris).1 h)
          have c4' : ¬ (hasF key l > 0) := fun h => c4 ((hasF_pos key l hoks).1 h)
          rw [dif_neg g] at hp
          by_cases c5 : (l.length : Int) < a0
          · have i1 : (0 : Int) ≤ (lb key l : Int) := by omega
            have i2 : (lb key l : Int) ≤ (l.length : Int) := by omega
            have i3 : l.length + 1 < 8796093022208 := by omega
            simp [c2, c3, c4', c5, g, hp, impl_Slot_35.f, i1, i2, i3, hle]
          · have i3 : l.length < 8796093022208 := by omega
            simp [c2, c3, c4', c5, g, impl_Heavy_cut.f, i3]
    · simp [c2]
theorem putF_length (key c : Int) : ∀ (l : List S54) d, (putF key c d l).length ≤ l.length + 1 - (if d = true then 1 else 0)
  | [], d => by cases d <;> simp [putF]
  | s :: r, d => by
    have h1 := putF_length key c r true
    have h2 := putF_length key c r d
    simp only [putF]
    cases d <;> simp at h1 h2 ⊢ <;> split <;> (try split) <;> simp <;> omega
theorem addH_length (a0 : Int) (l : List S54) (a2 a3 key : Int) : (addH a0 l a2 a3 key).2.1.length ≤ l.length + 1 := by
  unfold addH
  split
  · split
    · have := putF_length key 1 l false; simpa using this
    · have := cutL_length 1 l; simp; omega
  · simp
end Go.Proofs.Ytofpohpflpdbiaa.HP
namespace Go.Proofs.Ytofpohpflpdbiaa.Pure
open Go.RowKit Go.Proofs.Ytofpohpflpdbiaa.H Go.Proofs.Ytofpohpflpdbiaa.HP Go.Proofs.YtofpohpflpdbiaaW.PrintWords Go.Proofs.YtofpohpflpdbiaaW.PrintLast
theorem FnExactAddHeavy : ∀ (a0_0 : Int) (l0_1 : List (S61)) (a0_2 : Int) (a0_3 : Int) (a1 : Int), (Lit.int .i64 a0_0).wf = true → (l0_1.length ≤ maxLen ∧ ∀ x_1 ∈ l0_1, ((Lit.int .i64 x_1.f0).wf = true ∧ (Lit.int .i64 x_1.f1).wf = true)) → (Lit.int .i64 a0_2).wf = true → (Lit.int .i64 a0_3).wf = true → (Lit.int .i64 a1).wf = true →  ∃ k, laws_FnExactAddHeavy.f k a0_0 l0_1 a0_2 a0_3 a1 = some true := by
  intro a0 l a2 a3 key _ hl0 _ _ _
  have hmax : l.length ≤ 9223372036854775807 := hl0.1
  by_cases hl : l.length ≤ 1048576
  · have e : wrap64 (1048576 - (l.length : Int)) = 1048576 - (l.length : Int) := by unfold wrap64; omega
    have hn : ¬ (1048576 - (l.length : Int) < 0) := by omega
    have hm : (l.map cv).length ≤ 1048576 := by rw [List.length_map]; exact hl
    refine ⟨l.length + 20, ?_⟩
    have hto := fun k hk => toHeavy_eq a0 l a2 a3 hl k hk
    have hsp := fun k hk => specAdd_eq a0 (l.map cv) a2 a3 key hm k hk
    have him := fun k hk => implAdd_eq a0 (l.map cv) a2 a3 key hm k hk
    have hlen := addH_length a0 (l.map cv) a2 a3 key
    rw [List.length_map] at hlen hsp him
    generalize addH a0 (l.map cv) a2 a3 key = v at hsp him hlen
    obtain ⟨v0, v1, v2, v3, v4⟩ := v
    simp only at hlen
    have heq := fun k hk => eqHeavy_refl v0 v1 v2 v3 (by omega) k hk
    have heq2 := fun k hk => eqHeavy_refl a0 (l.map cv) a2 a3 (by rw [List.length_map]; omega) k hk
    have hmk := fun k hk => markHeavy_eq v0 v1 v2 v3 (by omega) k hk
    have hmk2 := fun k hk => markHeavy_eq a0 (l.map cv) a2 a3 (by rw [List.length_map]; omega) k hk
    have hhe := fun k hk => heldHeavy_eq v0 v1 v2 v3 (by omega) k hk
    rw [List.length_map] at heq2 hmk2
    have n1 : ¬ (1 + 2 * (l.length : Int) < 0) := by omega
    have n2 : ¬ (1 + 2 * (v1.length : Int) < 0) := by omega
    have n3 : l.length ≤ 1048576 := hl
    have d1 : ∀ k, k < 20 → 3 < k → l.length < l.length + k := fun k _ _ => by omega
    simp only [laws_FnExactAddHeavy.f, laws_szHeavy.f, laws_szSlotS.f, e, if_neg hn, Option.bind_some,
      hto (l.length + 20) (by omega), hsp (l.length + 20) (by omega), him (l.length + 20) (by omega), heq (l.length + 20) (by omega), if_true, bne_self_eq_false,
      laws_FnExactAddHeavy.j0, Bool.false_eq_true, if_false, hto (l.length + 19) (by omega), heq2 (l.length + 19) (by omega), hmk2 (l.length + 19) (by omega), if_neg n1, heq (l.length + 19) (by omega),
      laws_FnExactAddHeavy.j1, hmk (l.length + 18) (by omega), hhe (l.length + 18) (by omega), if_neg n2, hto (l.length + 18) (by omega), him (l.length + 18) (by omega), heq (l.length + 18) (by omega),
      laws_FnExactAddHeavy.j2, hhe (l.length + 17) (by omega)]
  · refine ⟨1, ?_⟩
    have e : wrap64 (1048576 - (l.length : Int)) = 1048576 - (l.length : Int) := by unfold wrap64; omega
    have hn : 1048576 - (l.length : Int) < 0 := by omega
    simp [laws_FnExactAddHeavy.f, laws_szHeavy.f, laws_szSlotS.f, e, hn]
end Go.Proofs.Ytofpohpflpdbiaa.Pure
namespace Go.Proofs.Ytofpohpflpdbiaa.fnExactAddHeavy
open Go.ChangeShapes Go.WideShapes Go.ChangeAt Go.RowKit Go.Proofs.YtofpohpflpdbiaaW.PrintWords Go.Proofs.Ytofpohpflpdbiaa.H Go.Proofs.YtofpohpflpdbiaaO
open Go.ChangeMaps (open_string shut_string)
set_option linter.unusedVariables false
theorem own : ownKnob Try.prog.godebug = none := by kernel_rfl
theorem laidOut : laidOutB Try.prog = true := by kernel_rfl
set_option maxRecDepth 100000 in
theorem lifted (os : Os) (started : os.Started) (H : Type) (enc : TypeId × Value → H) :
    ReturnsInHanded {} Try.checked os 3 .any (Rows.fnExactAddHeavySpec.pre6 enc Try.prog Try.f3 Rows.fnExactAddHeavyRow.domain false) (Rows.fnExactAddHeavySpec.post enc Try.prog Try.f3 false true false false) := by
  refine returnsInHanded_of_change_sized (C := Try.checked) own started (by kernel_rfl) Try.func3
    (ChangeSpec.witness6 (enc := enc) (C := Try.checked) false ⟨#[], #[.agg #[.int .i64 0, .slice none 0 0, .int .i64 0, .int .i64 0], .int .i64 0], []⟩ 8 (by kernel_rfl) (by kernel_rfl) (by kernel_rfl) (by kernel_rfl)) ?_
  intro W base args ds gs before hval0 hW hcnd hsz0 _
  have hval : ∀ (j : Nat) t v, Try.f3.params[j]? = some t → args[j]? = some v → Value.okWide Try.prog W .any base t v := hval0
  have hW' := hW
  obtain ⟨p, q, hA0, hV, rfl, hfz, hnd⟩ := hW
  have hA : DataW.TrodAll enc Try.prog W 0 (fun _ => true) true Try.f3.params.toList args.toList ds p := hA0
  rw [Try.params3] at hA hval
  obtain ⟨v0, vs0, d0, ds0, p0, q0, hargs, rfl, rfl, h0, r0⟩ := trodAll_cons hA
  obtain ⟨v1, vs1, d1, ds1, p1, q1, rfl, rfl, rfl, h1, r1⟩ := trodAll_cons r0
  obtain ⟨rfl, rfl, rfl⟩ := trodAll_nil r1
  obtain rfl : args = #[v0, v1] := by cases args; simp_all
  obtain ⟨rfl, rfl⟩ := trodVars_none hV
  have k0 := h0
  have lt0 : ∀ x ∈ p0, x.block < W.heap.size := by obtain ⟨m, hm⟩ := k0; exact DataW.trod_lt m _ _ _ hm
  obtain ⟨cs0, rfl, sz0⟩ := okWide_struct Try.underlying24 (hval 0 24 v0 rfl rfl)
  obtain ⟨⟨a0_0, l0_1, a0_2, a0_3⟩, hk0, ⟨w0_0, w0_1, w0_2, w0_3⟩⟩ := ((opens_struct Try.underlying24 (by kernel_rfl) (opensF_cons (opens_int Try.underlying3 (by kernel_rfl)) (opensF_cons (opens_slice Try.underlying22 (by kernel_rfl) (opens_iso (opens_struct Try.underlying61 (by kernel_rfl) (opensF_cons (opens_int Try.underlying3 (by kernel_rfl)) (opensF_last (opens_int Try.underlying3 (by kernel_rfl))) rfl)) (fun x : S61 => (x.f0, x.f1)) (fun p => ⟨p.1, p.2⟩) (fun _ => rfl))) (opensF_cons (opens_int Try.underlying3 (by kernel_rfl)) (opensF_last (opens_int Try.underlying3 (by kernel_rfl))) rfl) rfl) rfl)) : Opens enc Try.prog W 0 (fun _ => true) true 24 (Kd.pair (Kd.int .i64) (Kd.pair (Kd.slice 61 k61) (Kd.pair (Kd.int .i64) (Kd.int .i64)))) _).at h0
  obtain ⟨_, _, he0, rfl, ⟨_, _, rfl, ⟨A0_1, c0_1, rfl, hc0_1, hC0_1⟩, ⟨_, _, rfl, rfl, rfl⟩⟩⟩ := hk0
  obtain rfl : cs0 = #[.int .i64 a0_0, .slice A0_1 l0_1.length c0_1, .int .i64 a0_2, .int .i64 a0_3] := by cases cs0; simpa [Value.cells] using he0
  obtain ⟨a1, rfl, rfl, rfl, w1⟩ := open_int Try.underlying3 (hval 1 3 v1 rfl rfl) h1
  clear hA0 hval0 hsz0
  obtain ⟨k, hk⟩ := Pure.FnExactAddHeavy a0_0 l0_1 a0_2 a0_3 a1 w0_0 w0_1 w0_2 w0_3 w1
  refine (laws_FnExactAddHeavy.calls k a0_0 A0_1 c0_1 l0_1 a0_2 a0_3 a1 true W hC0_1 hc0_1 hk).mono fun e W' ⟨he, bel⟩ => ?_
  subst he
  exact ⟨_, rfl, _, _, _, [], _, [], hW', trodAll_mk1 (shut_bool Try.underlying4 _), (trodAll_cons_mk (Below.trod laidOut (by kernel_rfl) (of_decide_eq_true (by kernel_rfl)) k0 bel lt0) (trodAll_cons_mk (shut_int Try.underlying3 w1) trodAll_mk0)), rfl, bel.frame _, fun h => by cases h⟩
theorem over : Rows.fnExactAddHeavyRow.holds Try.pinned (OpenSpec.ofChange Rows.fnExactAddHeavySpec) :=
  OpenClaim.holds_of_wide 3 Try.f3 rfl rfl rfl rfl rfl rfl rfl ⟨rfl, rfl, rfl, rfl, rfl⟩ rfl rfl rfl rfl rfl (by kernel_rfl) Try.func3 (by kernel_rfl)
    (of_decide_eq_true (by kernel_rfl)) (by unfold Func.isWrapper; first | (rw [if_pos (by decide +kernel)]; kernel_rfl) | (rw [if_neg (by decide +kernel)]; exact ⟨rfl, rfl⟩))
    (fun os started H enc _ => lifted os started H enc)
theorem proved : Rows.FnExactAddHeavySaid := over
#print axioms proved
end Go.Proofs.Ytofpohpflpdbiaa.fnExactAddHeavy
namespace Go.Proofs.Ytofpohpflpdbiaa
theorem fnExactAddHeavy_holds : Rows.FnExactAddHeavySaid := fnExactAddHeavy.proved
end Go.Proofs.Ytofpohpflpdbiaa
