/- Part 8 of a proof: walks of the given functions and laws over lists. -/
import Derived.Test.YthjdjknlcknkdaaCa7
import Derived.Deep.Slices
import Derived.ChangeArms
import Derived.ChangeReads
import Derived.Test.YthjdjknlcknkdaaRows
import Derived.ProofKit
import Derived.OpenShut
import Derived.ShutString
import Derived.ChangeOld
import Derived.SizedLaws
import Derived.Carry
namespace Go.Proofs.YthjdjknlcknkdaaO
open Go.RowKit Go.Proofs.YthjdjknlcknkdaaW.PrintWords Go.Deep
section
variable {H : Type} {enc : TypeId × Value → H} {P : Program} {w : World} {base : Nat} {spare : Nat → Bool} {held : Bool}
def Opens (enc : TypeId × Value → H) (P : Program) (w : World) (base : Nat) (spare : Nat → Bool) (held : Bool) (t : TypeId) {α : Type} (d : Kd α) (W : α → Prop) : Prop :=
  P.cellsOf t = d.sz ∧ ∀ fuel cs x, DataW.trod enc P w base spare held fuel t cs = some x → ∃ a, d.K w a cs ∧ W a
theorem opens_int {t : TypeId} {k : IntKind} (ht : P.underlying t = some (.int k)) (hc : P.cellsOf t = 1) : Opens enc P w base spare held t (Kd.int k) (fun n => (Lit.int k n).wf = true) :=
  ⟨hc, fun fuel cs x h => by
    obtain ⟨n, rfl, _, hw⟩ := DataW.trod_int ht h
    exact ⟨n, rfl, hw⟩⟩
theorem opens_iso {t : TypeId} {α β : Type} {d : Kd α} {W : α → Prop} (h : Opens enc P w base spare held t d W) (f : β → α) (g : α → β) (hg : ∀ a, f (g a) = a) : Opens enc P w base spare held t (Kd.iso d f) (fun b => W (f b)) :=
  ⟨h.1, fun fuel cs x hx => by
    obtain ⟨a, hk, hw⟩ := h.2 fuel cs x hx
    refine ⟨g a, ?_, ?_⟩
    · show d.K w (f (g a)) cs
      rw [hg]; exact hk
    · show W (f (g a))
      rw [hg]; exact hw⟩
theorem opens_slice {t e : TypeId} {α : Type} {d : Kd α} {W : α → Prop} (ht : P.underlying t = some (.slice e)) (hc : P.cellsOf t = 1) (h : Opens enc P w base spare held e d W) :
    Opens enc P w base spare held t (Kd.slice e d) (fun l => l.length ≤ maxLen ∧ ∀ a ∈ l, W a) :=
  ⟨hc, fun fuel cs x hx => by
    rcases open_slice ht hx with ⟨rfl, _⟩ | ⟨a, len, cap, m, n, D, Pl, rfl, _, hl, hm, hmm, _, hel⟩
    · exact ⟨[], ⟨none, 0, rfl, Nat.le_refl _, ⟨rfl, Nat.zero_le _, fun h => absurd h (Nat.lt_irrefl 0)⟩⟩, Nat.zero_le _, fun a ha => by cases ha⟩
    · have hlm : len ≤ m := by rw [hmm]; split <;> omega
      have hall : ∀ i, i < len → ∃ b, (∃ cs', w.cells? base (a.add (i * P.cellsOf e)) (P.cellsOf e) = some cs' ∧ d.K w b cs') ∧ W b := fun i hi => by
        obtain ⟨cs', h1, h2⟩ := hel i (by omega)
        obtain ⟨b, hk, hw⟩ := h.2 _ _ _ h2
        exact ⟨b, ⟨cs', h1, hk⟩, hw⟩
      classical
      let l : List α := (List.range len).attach.map fun i => Classical.choose (hall i.1 (List.mem_range.1 i.2))
      have hll : l.length = len := by simp [l]
      have hget : ∀ i (hi : i < len), l[i]? = some (Classical.choose (hall i hi)) := fun i hi => by
        simp [l, hi]
      refine ⟨l, ⟨some a, cap, by rw [hll], by rw [hll]; exact hl, rfl, ?_, ?_⟩, ?_, ?_⟩
      · rw [hll]; have : maxLen = 9223372036854775807 := rfl; omega
      · intro _
        refine ⟨a, rfl, fun j p hp => ?_⟩
        have hj : j < len := by rw [← hll]; exact (List.getElem?_eq_some_iff.1 hp).1
        rw [hget j hj] at hp
        obtain rfl := Option.some.inj hp
        obtain ⟨⟨cs', h1, hk⟩, _⟩ := Classical.choose_spec (hall j hj)
        refine ⟨cs', d.K_len hk, hk, fun i u hu => ?_⟩
        obtain ⟨_, hlen, hcell⟩ := World.cells?_some h1
        have hi : i < P.cellsOf e := by rw [← hlen]; exact (List.getElem?_eq_some_iff.1 hu).1
        have := hcell i hi
        rw [hu, Deep.add_add, h.1] at this
        exact this
      · rw [hll]; omega
      · intro b hb
        obtain ⟨j, hj, rfl⟩ := List.mem_iff_getElem.1 hb
        have hj' : j < len := by rw [← hll]; exact hj
        have := hget j hj'
        rw [List.getElem?_eq_getElem hj] at this
        rw [Option.some.inj this]
        exact (Classical.choose_spec (hall j hj')).2⟩
def OpensF (enc : TypeId × Value → H) (P : Program) (w : World) (base : Nat) (spare : Nat → Bool) (held : Bool) (fs : List Field) (o : Nat) {α : Type} (d : Kd α) (W : α → Prop) : Prop :=
  ∀ fuel (cs : List Value), (∀ f ∈ fs, ∃ x, DataW.trod enc P w base spare held fuel f.type ((cs.drop f.offset).take (P.cellsOf f.type)) = some x) → ∃ a, d.K w a ((cs.drop o).take d.sz) ∧ W a
theorem opensF_last {f : Field} {α : Type} {d : Kd α} {W : α → Prop} (h : Opens enc P w base spare held f.type d W) : OpensF enc P w base spare held [f] f.offset d W := fun fuel cs hx => by
  obtain ⟨x, hx⟩ := hx f (List.mem_singleton.2 rfl)
  obtain ⟨a, hk, hw⟩ := h.2 _ _ _ hx
  rw [h.1] at hk
  exact ⟨a, hk, hw⟩
theorem opensF_cons {f : Field} {fs : List Field} {o : Nat} {α β : Type} {d : Kd α} {d2 : Kd β} {W : α → Prop} {W2 : β → Prop} (h : Opens enc P w base spare held f.type d W) (h2 : OpensF enc P w base spare held fs o d2 W2) (ho : o = f.offset + d.sz) :
    OpensF enc P w base spare held (f :: fs) f.offset (Kd.pair d d2) (fun p => W p.1 ∧ W2 p.2) := fun fuel cs hx => by
  subst ho
  obtain ⟨a, hk, hw⟩ := opensF_last h fuel cs (fun g hg => hx g (by rw [List.mem_singleton.1 hg]; exact List.mem_cons_self))
  obtain ⟨b, hk2, hw2⟩ := h2 fuel cs (fun g hg => hx g (List.mem_cons_of_mem _ hg))
  refine ⟨(a, b), ⟨_, _, ?_, hk, hk2⟩, hw, hw2⟩
  show (cs.drop f.offset).take (d.sz + d2.sz) = _
  rw [List.take_add, List.drop_drop]
theorem opens_struct {t : TypeId} {fs : Array Field} {α : Type} {d : Kd α} {W : α → Prop} (ht : P.underlying t = some (.struct fs)) (hc : P.cellsOf t = d.sz) (h : OpensF enc P w base spare held fs.toList 0 d W) : Opens enc P w base spare held t d W :=
  ⟨hc, fun fuel cs x hx => by
    obtain ⟨xs, n, rfl, _, hl, hxl, hf⟩ := DataW.trod_struct ht hx
    obtain ⟨a, hk, hw⟩ := h n cs (fun f hf' => by
      obtain ⟨i, hi, rfl⟩ := List.mem_iff_getElem.1 hf'
      have h1 := hf i _ (by rw [← Array.getElem?_toList, List.getElem?_eq_getElem hi])
      rw [h1]
      exact ⟨xs[i]'(by rw [hxl]; simpa using hi), List.getElem?_eq_getElem _⟩)
    rw [List.drop_zero, List.take_of_length_le (by rw [hl, hc]; exact Nat.le_refl _)] at hk
    exact ⟨a, hk, hw⟩⟩
theorem Opens.at {t : TypeId} {α : Type} {d : Kd α} {W : α → Prop} (h : Opens enc P w base spare held t d W) {v : Value} {x : DataW H} {ps : List MemPlace} (hv : DataW.Trod enc P w base spare held t v x ps) : ∃ a, d.K w a v.cells.toList ∧ W a := by
  obtain ⟨fuel, hf⟩ := hv
  exact h.2 _ _ _ hf
end
end Go.Proofs.YthjdjknlcknkdaaO
namespace Go.Proofs.Ythjdjknlcknkdaa.JP
open Go.RowKit Go.Proofs.Ythjdjknlcknkdaa.K Go.Proofs.YthjdjknlcknkdaaW.PrintWords Go.Proofs.YthjdjknlcknkdaaW.PrintLast Go.Proofs.YthjdjknlcknkdaaW.PrintMore
set_option linter.unusedVariables false
set_option linter.unusedSimpArgs false
theorem nxt (i : Nat) (h : i < 4611686018427387904) : wrap64 ((i : Int) + 1) = ((i + 1 : Nat) : Int) := by unfold wrap64; omega
theorem rd26 (l : List S26) (i : Nat) (h : i < l.length) : rd_T26 l (i : Int) = l[i] := by simp [rd_T26, List.getD_eq_getElem?_getD, h]
def cvFrame (x : S26) : S35 := ⟨x.f0, x.f1, x.f2, x.f3⟩
theorem toFrame_l0 (l : List S26) (hl : l.length < 4611686018427387904) : ∀ n i k, i + n = l.length → n < k → laws_toFrameS.l0 k l ((l.take i).map cvFrame ++ List.replicate n z35) (i : Int) = some (l.map cvFrame) := by
  intro n
  induction n with
  | zero =>
    intro i k hi hk
    obtain ⟨k, rfl⟩ : ∃ q, k = q + 1 := ⟨k - 1, by omega⟩
    have h0 : ¬ ((i : Int) < l.length) := by omega
    simp only [laws_toFrameS.l0, if_neg h0]
    rw [List.take_of_length_le (by omega)]; simp
  | succ n ih =>
    intro i k hi hk
    obtain ⟨k, rfl⟩ : ∃ q, k = q + 1 := ⟨k - 1, by omega⟩
    have hlt : i < l.length := by omega
    have h0 : (i : Int) < l.length := by omega
    have h1 : (0 : Int) ≤ i := by omega
    have h2 : (i : Int) < (((l.take i).map cvFrame ++ List.replicate (n + 1) z35).length : Int) := by simp; omega
    simp only [laws_toFrameS.l0, if_pos h0, if_pos h1, laws_toFrame.f, Option.bind_some, if_pos h2]
    rw [nxt i (by omega), rd26 l i hlt, Int.toNat_natCast]
    have e : ((l.take i).map cvFrame ++ List.replicate (n + 1) z35).set i (⟨l[i].f0, l[i].f1, l[i].f2, l[i].f3⟩ : S35) = (l.take (i + 1)).map cvFrame ++ List.replicate n z35 := by
      have e1 : ((l.take i).map cvFrame).length = i := by rw [List.length_map, List.length_take]; omega
      rw [List.set_append_right _ _ (by omega), e1, Nat.sub_self, List.take_succ_eq_append_getElem hlt, List.map_append, List.append_assoc, List.replicate_succ, List.set_cons_zero]
      rfl
    rw [e]
    exact ih (i + 1) k (by omega) (by omega)
theorem toFrameS_eq (l : List S26) (hl : l.length ≤ 1048576) (k : Nat) (hk : l.length < k) : laws_toFrameS.f k l = some (l.map cvFrame) := by
  have h1 : (0 : Int) ≤ l.length := by omega
  simp only [laws_toFrameS.f, if_pos h1]
  rw [if_pos (by omega)]
  have := toFrame_l0 l (by omega) l.length 0 k (by omega) hk
  simpa using this
theorem rd35 (l : List S35) (i : Nat) (h : i < l.length) : rd_T35 l (i : Int) = l[i] := by simp [rd_T35, List.getD_eq_getElem?_getD, h]
theorem eqFrame_l0 (l : List S35) (hl : l.length < 40000000) : ∀ n i k, i + n = l.length → n < k → laws_eqFrameS.l0 k l l (i : Int) = some true := by
  intro n
  induction n with
  | zero =>
    intro i k hi hk
    obtain ⟨k, rfl⟩ : ∃ q, k = q + 1 := ⟨k - 1, by omega⟩
    have h0 : ¬ ((i : Int) < l.length) := by omega
    simp only [laws_eqFrameS.l0, if_neg h0]
  | succ n ih =>
    intro i k hi hk
    obtain ⟨k, rfl⟩ : ∃ q, k = q + 1 := ⟨k - 1, by omega⟩
    have h0 : (i : Int) < l.length := by omega
    have h1 : (0 : Int) ≤ i := by omega
    have ih0 := ih (i + 1) k (by omega) (by omega)
    simp only [laws_eqFrameS.l0, if_pos h0, if_pos h1, nxt i (by omega), ih0, laws_eqFrame.f, Option.bind_some, if_true]
theorem eqFrameS_refl (l : List S35) (hl : l.length < 40000000) (k : Nat) (hk : l.length < k) : laws_eqFrameS.f k l l = some true := by
  have := eqFrame_l0 l hl l.length 0 k (by omega) hk
  simp only [Int.natCast_zero] at this
  simp [laws_eqFrameS.f, this]
def mkFrame : Int → List S35 → List S35
  | _, [] => []
  | c, s :: r => ⟨c, wrap64 (c + 1), wrap64 ((wrap64 (c + 1)) + 1), wrap64 ((wrap64 ((wrap64 (c + 1)) + 1)) + 1)⟩ :: mkFrame (wrap64 ((wrap64 ((wrap64 ((wrap64 (c + 1)) + 1)) + 1)) + 1)) r
def mkEFrame : Int → List S35 → Int
  | c, [] => c
  | c, s :: r => mkEFrame (wrap64 ((wrap64 ((wrap64 ((wrap64 (c + 1)) + 1)) + 1)) + 1)) r
theorem mkEFrame_eq : ∀ (l : List S35) (c : Int), 0 ≤ c → c + 4 * l.length < 4611686018427387904 → mkEFrame c l = c + 4 * l.length
  | [], c, _, _ => by simp [mkEFrame]
  | s :: r, c, h0, h1 => by
    have e : wrap64 ((wrap64 ((wrap64 ((wrap64 (c + 1)) + 1)) + 1)) + 1) = c + 4 := by simp only [List.length_cons] at h1; unfold wrap64; omega
    simp only [List.length_cons] at h1
    rw [mkEFrame, e, mkEFrame_eq r (c + 4) (by omega) (by omega)]; simp only [List.length_cons]; omega
theorem markFrame_l0 : ∀ (r p : List S35) (k : Nat) (c : Int), (p ++ r).length < 40000000 → r.length < k → laws_markFrameS.l0 k (p ++ r) c (p.length : Int) = some (mkEFrame c r, p ++ mkFrame c r) := by
  intro r
  induction r with
  | nil =>
    intro p k c hl hk
    obtain ⟨k, rfl⟩ : ∃ q, k = q + 1 := ⟨k - 1, by simp at hk; omega⟩
    have h0 : ¬ ((p.length : Int) < ((p ++ ([] : List S35)).length : Int)) := by simp
    simp only [laws_markFrameS.l0, if_neg h0]; simp [mkEFrame, mkFrame]
  | cons s r ih =>
    intro p k c hl hk
    obtain ⟨k, rfl⟩ : ∃ q, k = q + 1 := ⟨k - 1, by simp at hk; omega⟩
    have h0 : ((p.length : Int) < ((p ++ s :: r).length : Int)) := by simp; omega
    have h1 : (0 : Int) ≤ p.length := by omega
    have hp : p.length < 40000000 := by simp at hl; omega
    have hset : ∀ y z : S35, (p ++ y :: r).set p.length z = p ++ z :: r := fun y z => by rw [List.set_append_right _ _ (Nat.le_refl _), Nat.sub_self, List.set_cons_zero]
    have hget : ∀ y : S35, rd_T35 (p ++ y :: r) (p.length : Int) = y := fun y => by rw [rd35 _ _ (by simp)]; simp
    have ih1 := fun y c => ih (p ++ [y]) k c (by simp at hl ⊢; omega) (by simp at hk; omega)
    simp only [laws_markFrameS.l0, if_pos h0, if_pos h1, Option.bind_some, Int.toNat_natCast, hset, hget, nxt p.length (by omega)]
    have e : ∀ y : S35, p ++ y :: r = p ++ [y] ++ r := fun y => by simp
    rw [e, show p.length + 1 = (p ++ [(⟨c, wrap64 (c + 1), wrap64 ((wrap64 (c + 1)) + 1), wrap64 ((wrap64 ((wrap64 (c + 1)) + 1)) + 1)⟩ : S35)]).length by simp, ih1]
    simp [mkEFrame, mkFrame]
theorem markFrameS_eq (l : List S35) (hl : l.length < 40000000) (c : Int) (h0 : 0 ≤ c) (hc : c < 1000000000000) (k : Nat) (hk : l.length < k) : laws_markFrameS.f k l c = some (c + 4 * (l.length : Int), mkFrame c l) := by
  have := markFrame_l0 l [] k c (by simpa using hl) hk
  simp only [List.nil_append, List.length_nil, Int.natCast_zero] at this
  rw [mkEFrame_eq l c h0 (by omega)] at this
  simp [laws_markFrameS.f, this]
theorem heldFrame_l0 : ∀ (r p : List S35) (k : Nat) (c : Int), (p ++ r).length < 40000000 → r.length < k → laws_heldFrameS.l0 k (p ++ mkFrame c r) c (p.length : Int) = some (mkEFrame c r) := by
  intro r
  induction r with
  | nil =>
    intro p k c hl hk
    obtain ⟨k, rfl⟩ : ∃ q, k = q + 1 := ⟨k - 1, by simp at hk; omega⟩
    have h0 : ¬ ((p.length : Int) < ((p ++ mkFrame c ([] : List S35)).length : Int)) := by simp [mkFrame]
    simp only [laws_heldFrameS.l0, if_neg h0]; simp [mkEFrame]
  | cons s r ih =>
    intro p k c hl hk
    obtain ⟨k, rfl⟩ : ∃ q, k = q + 1 := ⟨k - 1, by simp at hk; omega⟩
    have h0 : ((p.length : Int) < ((p ++ mkFrame c (s :: r)).length : Int)) := by simp [mkFrame]; omega
    have h1 : (0 : Int) ≤ p.length := by omega
    have hp : p.length < 40000000 := by simp at hl; omega
    have hget : rd_T35 (p ++ mkFrame c (s :: r)) (p.length : Int) = ⟨c, wrap64 (c + 1), wrap64 ((wrap64 (c + 1)) + 1), wrap64 ((wrap64 ((wrap64 (c + 1)) + 1)) + 1)⟩ := by rw [rd35 _ _ (by simp [mkFrame])]; simp [mkFrame]
    have ih1 := ih (p ++ [(⟨c, wrap64 (c + 1), wrap64 ((wrap64 (c + 1)) + 1), wrap64 ((wrap64 ((wrap64 (c + 1)) + 1)) + 1)⟩ : S35)]) k (wrap64 ((wrap64 ((wrap64 ((wrap64 (c + 1)) + 1)) + 1)) + 1)) (by simp at hl ⊢; omega) (by simp at hk; omega)
    simp only [laws_heldFrameS.l0, if_pos h0, if_pos h1, hget, if_true, nxt p.length (by omega)]
    have e : p ++ mkFrame c (s :: r) = p ++ [(⟨c, wrap64 (c + 1), wrap64 ((wrap64 (c + 1)) + 1), wrap64 ((wrap64 ((wrap64 (c + 1)) + 1)) + 1)⟩ : S35)] ++ mkFrame (wrap64 ((wrap64 ((wrap64 ((wrap64 (c + 1)) + 1)) + 1)) + 1)) r := by simp [mkFrame]
    rw [e, show p.length + 1 = (p ++ [(⟨c, wrap64 (c + 1), wrap64 ((wrap64 (c + 1)) + 1), wrap64 ((wrap64 ((wrap64 (c + 1)) + 1)) + 1)⟩ : S35)]).length by simp, ih1]
    simp [mkEFrame]
theorem heldFrameS_eq (l : List S35) (hl : l.length < 40000000) (c : Int) (h0 : 0 ≤ c) (hc : c < 1000000000000) (k : Nat) (hk : l.length < k) : laws_heldFrameS.f k (mkFrame c l) c = some (c + 4 * (l.length : Int)) := by
  have := heldFrame_l0 l [] k c (by simpa using hl) hk
  simp only [List.nil_append, List.length_nil, Int.natCast_zero] at this
  rw [mkEFrame_eq l c h0 (by omega)] at this
  simp [laws_heldFrameS.f, this]
theorem rd75 (l : List S75) (i : Nat) (h : i < l.length) : rd_T75 l (i : Int) = l[i] := by simp [rd_T75, List.getD_eq_getElem?_getD, h]
theorem eqPair_l0 (l : List S75) (hl : l.length < 40000000) : ∀ n i k, i + n = l.length → n < k → laws_eqPairS.l0 k l l (i : Int) = some true := by
  intro n
  induction n with
  | zero =>
    intro i k hi hk
    obtain ⟨k, rfl⟩ : ∃ q, k = q + 1 := ⟨k - 1, by omega⟩
    have h0 : ¬ ((i : Int) < l.length) := by omega
    simp only [laws_eqPairS.l0, if_neg h0]
  | succ n ih =>
    intro i k hi hk
    obtain ⟨k, rfl⟩ : ∃ q, k = q + 1 := ⟨k - 1, by omega⟩
    have h0 : (i : Int) < l.length := by omega
    have h1 : (0 : Int) ≤ i := by omega
    have ih0 := ih (i + 1) k (by omega) (by omega)
    simp only [laws_eqPairS.l0, if_pos h0, if_pos h1, nxt i (by omega), ih0, laws_eqPair.f, Option.bind_some, if_true]
theorem eqPairS_refl (l : List S75) (hl : l.length < 40000000) (k : Nat) (hk : l.length < k) : laws_eqPairS.f k l l = some true := by
  have := eqPair_l0 l hl l.length 0 k (by omega) hk
  simp only [Int.natCast_zero] at this
  simp [laws_eqPairS.f, this]
def mkPair : Int → List S75 → List S75
  | _, [] => []
  | c, s :: r => ⟨c, wrap64 (c + 1), wrap64 ((wrap64 (c + 1)) + 1), wrap64 ((wrap64 ((wrap64 (c + 1)) + 1)) + 1), wrap64 ((wrap64 ((wrap64 ((wrap64 (c + 1)) + 1)) + 1)) + 1)⟩ :: mkPair (wrap64 ((wrap64 ((wrap64 ((wrap64 ((wrap64 (c + 1)) + 1)) + 1)) + 1)) + 1)) r
def mkEPair : Int → List S75 → Int
  | c, [] => c
  | c, s :: r => mkEPair (wrap64 ((wrap64 ((wrap64 ((wrap64 ((wrap64 (c + 1)) + 1)) + 1)) + 1)) + 1)) r
theorem mkEPair_eq : ∀ (l : List S75) (c : Int), 0 ≤ c → c + 5 * l.length < 4611686018427387904 → mkEPair c l = c + 5 * l.length
  | [], c, _, _ => by simp [mkEPair]
  | s :: r, c, h0, h1 => by
    have e : wrap64 ((wrap64 ((wrap64 ((wrap64 ((wrap64 (c + 1)) + 1)) + 1)) + 1)) + 1) = c + 5 := by simp only [List.length_cons] at h1; unfold wrap64; omega
    simp only [List.length_cons] at h1
    rw [mkEPair, e, mkEPair_eq r (c + 5) (by omega) (by omega)]; simp only [List.length_cons]; omega
theorem markPair_l0 : ∀ (r p : List S75) (k : Nat) (c : Int), (p ++ r).length < 40000000 → r.length < k → laws_markPairS.l0 k (p ++ r) c (p.length : Int) = some (mkEPair c r, p ++ mkPair c r) := by
  intro r
  induction r with
  | nil =>
    intro p k c hl hk
    obtain ⟨k, rfl⟩ : ∃ q, k = q + 1 := ⟨k - 1, by simp at hk; omega⟩
    have h0 : ¬ ((p.length : Int) < ((p ++ ([] : List S75)).length : Int)) := by simp
    simp only [laws_markPairS.l0, if_neg h0]; simp [mkEPair, mkPair]
  | cons s r ih =>
    intro p k c hl hk
    obtain ⟨k, rfl⟩ : ∃ q, k = q + 1 := ⟨k - 1, by simp at hk; omega⟩
    have h0 : ((p.length : Int) < ((p ++ s :: r).length : Int)) := by simp; omega
    have h1 : (0 : Int) ≤ p.length := by omega
    have hp : p.length < 40000000 := by simp at hl; omega
    have hset : ∀ y z : S75, (p ++ y :: r).set p.length z = p ++ z :: r := fun y z => by rw [List.set_append_right _ _ (Nat.le_refl _), Nat.sub_self, List.set_cons_zero]
    have hget : ∀ y : S75, rd_T75 (p ++ y :: r) (p.length : Int) = y := fun y => by rw [rd75 _ _ (by simp)]; simp
    have ih1 := fun y c => ih (p ++ [y]) k c (by simp at hl ⊢; omega) (by simp at hk; omega)
    simp only [laws_markPairS.l0, if_pos h0, if_pos h1, Option.bind_some, Int.toNat_natCast, hset, hget, nxt p.length (by omega)]
    have e : ∀ y : S75, p ++ y :: r = p ++ [y] ++ r := fun y => by simp
    rw [e, show p.length + 1 = (p ++ [(⟨c, wrap64 (c + 1), wrap64 ((wrap64 (c + 1)) + 1), wrap64 ((wrap64 ((wrap64 (c + 1)) + 1)) + 1), wrap64 ((wrap64 ((wrap64 ((wrap64 (c + 1)) + 1)) + 1)) + 1)⟩ : S75)]).length by simp, ih1]
    simp [mkEPair, mkPair]
theorem markPairS_eq (l : List S75) (hl : l.length < 40000000) (c : Int) (h0 : 0 ≤ c) (hc : c < 1000000000000) (k : Nat) (hk : l.length < k) : laws_markPairS.f k l c = some (c + 5 * (l.length : Int), mkPair c l) := by
  have := markPair_l0 l [] k c (by simpa using hl) hk
  simp only [List.nil_append, List.length_nil, Int.natCast_zero] at this
  rw [mkEPair_eq l c h0 (by omega)] at this
  simp [laws_markPairS.f, this]
theorem heldPair_l0 : ∀ (r p : List S75) (k : Nat) (c : Int), (p ++ r).length < 40000000 → r.length < k → laws_heldPairS.l0 k (p ++ mkPair c r) c (p.length : Int) = some (mkEPair c r) := by
  intro r
  induction r with
  | nil =>
    intro p k c hl hk
    obtain ⟨k, rfl⟩ : ∃ q, k = q + 1 := ⟨k - 1, by simp at hk; omega⟩
    have h0 : ¬ ((p.length : Int) < ((p ++ mkPair c ([] : List S75)).length : Int)) := by simp [mkPair]
    simp only [laws_heldPairS.l0, if_neg h0]; simp [mkEPair]
  | cons s r ih =>
    intro p k c hl hk
    obtain ⟨k, rfl⟩ : ∃ q, k = q + 1 := ⟨k - 1, by simp at hk; omega⟩
    have h0 : ((p.length : Int) < ((p ++ mkPair c (s :: r)).length : Int)) := by simp [mkPair]; omega
    have h1 : (0 : Int) ≤ p.length := by omega
    have hp : p.length < 40000000 := by simp at hl; omega
    have hget : rd_T75 (p ++ mkPair c (s :: r)) (p.length : Int) = ⟨c, wrap64 (c + 1), wrap64 ((wrap64 (c + 1)) + 1), wrap64 ((wrap64 ((wrap64 (c + 1)) + 1)) + 1), wrap64 ((wrap64 ((wrap64 ((wrap64 (c + 1)) + 1)) + 1)) + 1)⟩ := by rw [rd75 _ _ (by simp [mkPair])]; simp [mkPair]
    have ih1 := ih (p ++ [(⟨c, wrap64 (c + 1), wrap64 ((wrap64 (c + 1)) + 1), wrap64 ((wrap64 ((wrap64 (c + 1)) + 1)) + 1), wrap64 ((wrap64 ((wrap64 ((wrap64 (c + 1)) + 1)) + 1)) + 1)⟩ : S75)]) k (wrap64 ((wrap64 ((wrap64 ((wrap64 ((wrap64 (c + 1)) + 1)) + 1)) + 1)) + 1)) (by simp at hl ⊢; omega) (by simp at hk; omega)
    simp only [laws_heldPairS.l0, if_pos h0, if_pos h1, hget, if_true, nxt p.length (by omega)]
    have e : p ++ mkPair c (s :: r) = p ++ [(⟨c, wrap64 (c + 1), wrap64 ((wrap64 (c + 1)) + 1), wrap64 ((wrap64 ((wrap64 (c + 1)) + 1)) + 1), wrap64 ((wrap64 ((wrap64 ((wrap64 (c + 1)) + 1)) + 1)) + 1)⟩ : S75)] ++ mkPair (wrap64 ((wrap64 ((wrap64 ((wrap64 ((wrap64 (c + 1)) + 1)) + 1)) + 1)) + 1)) r := by simp [mkPair]
    rw [e, show p.length + 1 = (p ++ [(⟨c, wrap64 (c + 1), wrap64 ((wrap64 (c + 1)) + 1), wrap64 ((wrap64 ((wrap64 (c + 1)) + 1)) + 1), wrap64 ((wrap64 ((wrap64 ((wrap64 (c + 1)) + 1)) + 1)) + 1)⟩ : S75)]).length by simp, ih1]
    simp [mkEPair]
theorem heldPairS_eq (l : List S75) (hl : l.length < 40000000) (c : Int) (h0 : 0 ≤ c) (hc : c < 1000000000000) (k : Nat) (hk : l.length < k) : laws_heldPairS.f k (mkPair c l) c = some (c + 5 * (l.length : Int)) := by
  have := heldPair_l0 l [] k c (by simpa using hl) hk
  simp only [List.nil_append, List.length_nil, Int.natCast_zero] at this
  rw [mkEPair_eq l c h0 (by omega)] at this
  simp [laws_heldPairS.f, this]
end Go.Proofs.Ythjdjknlcknkdaa.JP
namespace Go.Proofs.Ythjdjknlcknkdaa.JP
open Go.RowKit Go.Proofs.Ythjdjknlcknkdaa.K Go.Proofs.YthjdjknlcknkdaaW.PrintWords Go.Proofs.YthjdjknlcknkdaaW.PrintLast Go.Proofs.YthjdjknlcknkdaaW.PrintMore
set_option linter.unusedVariables false
set_option linter.unusedSimpArgs false
theorem in_eq (x lo hi : Int) : spec_l01In.f x lo hi = some (decide (lo ≤ x ∧ x ≤ hi)) := by
  unfold spec_l01In.f; split <;> simp_all <;> omega
theorem within_eq (x lo hi : Int) : impl_within.f x lo hi = some (decide (lo ≤ x ∧ x ≤ hi)) := by
  unfold impl_within.f; split <;> simp_all <;> omega
theorem isKey_eq (x : Int) : impl_isKey.f x = some (decide (0 ≤ x ∧ x ≤ 65535)) := by simp [impl_isKey.f, within_eq]
theorem isTime_eq (x : Int) : impl_isTime.f x = some (decide (0 ≤ x ∧ x ≤ 1000000)) := by simp [impl_isTime.f, within_eq]
theorem isMark_eq (x : Int) : impl_isMark.f x = some (decide (-1 ≤ x ∧ x ≤ 1000000)) := by simp [impl_isMark.f, within_eq]
theorem specMark_eq (x : Int) : spec_l04Mark.f x = some (decide (-1 ≤ x ∧ x ≤ 1000000)) := by simp [spec_l04Mark.f, in_eq]
theorem isValue_eq (x : Int) : impl_isValue.f x = some (decide (-1000000 ≤ x ∧ x ≤ 1000000)) := by simp [impl_isValue.f, within_eq]
def evOk (a b c d : Int) : Bool := decide (a = 1 ∧ (0 ≤ b ∧ b ≤ 65535) ∧ (0 ≤ c ∧ c ≤ 1000000) ∧ (-1000000 ≤ d ∧ d ≤ 1000000))
theorem implEv_eq (a b c d : Int) : impl_isEvent.f a b c d = some (evOk a b c d) := by
  unfold impl_isEvent.f evOk
  by_cases h : a = 1
  · subst h
    by_cases h1 : 0 ≤ b ∧ b ≤ 65535 <;> by_cases h2 : 0 ≤ c ∧ c ≤ 1000000 <;> simp [impl_FrameOk.f, isKey_eq, isTime_eq, isValue_eq, h1, h2]
  · simp [h]
theorem specFrame_some (a b c d : Int) : ∃ v, spec_FrameOk.f a b c d = some v := by
  unfold spec_FrameOk.f
  simp only [in_eq, Option.bind_some]
  repeat (first | exact ⟨_, rfl⟩ | split)
theorem specEv_eq (a b c d : Int) : spec_l12Event.f a b c d = some (evOk a b c d) := by
  by_cases h : a = 1
  · subst h
    by_cases h1 : 0 ≤ b ∧ b ≤ 65535 <;> by_cases h2 : 0 ≤ c ∧ c ≤ 1000000 <;> by_cases h3 : -1000000 ≤ d ∧ d ≤ 1000000 <;> simp [spec_l12Event.f, spec_FrameOk.f, evOk, in_eq, h1, h2, h3]
  · obtain ⟨v, hv⟩ := specFrame_some a b c d
    unfold spec_l12Event.f
    rw [hv]
    cases v <;> simp [evOk, h]
def evF (s : S35) : Bool := evOk s.f0 s.f1 s.f2 s.f3
theorem specEvents_l0 (l : List S35) (hl : l.length < 40000000) : ∀ n i k, i + n = l.length → n < k → spec_l12Events.l0 k l (i : Int) = some ((l.drop i).all evF) := by
  intro n
  induction n with
  | zero =>
    intro i k hi hk
    obtain ⟨k, rfl⟩ : ∃ q, k = q + 1 := ⟨k - 1, by omega⟩
    have h0 : ¬ ((i : Int) < l.length) := by omega
    simp only [spec_l12Events.l0, if_neg h0]
    rw [List.drop_of_length_le (by omega)]; rfl
  | succ n ih =>
    intro i k hi hk
    obtain ⟨k, rfl⟩ : ∃ q, k = q + 1 := ⟨k - 1, by omega⟩
    have hlt : i < l.length := by omega
    have h0 : (i : Int) < l.length := by omega
    have h1 : (0 : Int) ≤ i := by omega
    have ih0 := ih (i + 1) k (by omega) (by omega)
    rw [List.drop_eq_getElem_cons hlt, List.all_cons]
    simp only [spec_l12Events.l0, if_pos h0, if_pos h1, rd35 l i hlt, nxt i (by omega), ih0, specEv_eq, Option.bind_some]
    show (if evF l[i] = true then _ else _) = _
    cases evF l[i] <;> simp
theorem index_l0 (l : List S35) (hl : l.length < 40000000) : ∀ n i k, i + n = l.length → n < k → ∃ v, impl_Frame_99.l0 k l (l.length : Int) (i : Int) = some v ∧ (v ≥ 0 ↔ (l.drop i).all evF = false) := by
  intro n
  induction n with
  | zero =>
    intro i k hi hk
    obtain ⟨k, rfl⟩ : ∃ q, k = q + 1 := ⟨k - 1, by omega⟩
    have h0 : ¬ ((i : Int) < l.length) := by omega
    simp only [impl_Frame_99.l0, if_neg h0]
    rw [List.drop_of_length_le (by omega)]; exact ⟨_, rfl, by simp⟩
  | succ n ih =>
    intro i k hi hk
    obtain ⟨k, rfl⟩ : ∃ q, k = q + 1 := ⟨k - 1, by omega⟩
    have hlt : i < l.length := by omega
    have h0 : (i : Int) < l.length := by omega
    have h1 : (0 : Int) ≤ i := by omega
    obtain ⟨v, ih0, ih1⟩ := ih (i + 1) k (by omega) (by omega)
    rw [List.drop_eq_getElem_cons hlt, List.all_cons]
    simp only [impl_Frame_99.l0, if_pos h0, if_pos h1, rd35 l i hlt, nxt i (by omega), ih0, impl_areEvents_1.f, implEv_eq, Option.bind_some]
    have e : evOk l[i].f0 l[i].f1 l[i].f2 l[i].f3 = evF l[i] := rfl
    rw [e]
    cases c : evF l[i]
    · exact ⟨i, by simp, by simp⟩
    · exact ⟨v, by simp, by simpa using ih1⟩
def evs (l : List S35) : Bool := decide ((l.length : Int) ≤ 40) && l.all evF
theorem specEvents_eq (l : List S35) (hl : l.length < 40000000) (k : Nat) (hk : l.length < k) : spec_l12Events.f k l = some (evs l) := by
  have h := specEvents_l0 l hl l.length 0 k (by omega) hk
  simp only [Int.natCast_zero, List.drop_zero] at h
  unfold spec_l12Events.f evs
  by_cases c : (l.length : Int) > 40
  · rw [if_pos c]; simp [show ¬ ((l.length : Int) ≤ 40) by omega]
  · rw [if_neg c, h]; simp [show ((l.length : Int) ≤ 40) by omega]
theorem implEvents_eq (l : List S35) (hl : l.length < 40000000) (k : Nat) (hk : l.length < k) : impl_areEvents.f k l = some (evs l) := by
  obtain ⟨v, h, h2⟩ := index_l0 l hl l.length 0 k (by omega) hk
  simp only [Int.natCast_zero, List.drop_zero] at h h2
  unfold impl_areEvents.f evs
  by_cases c : (l.length : Int) ≤ 40
  · rw [if_pos c]
    simp only [impl_Frame_97.f, impl_Frame_99.f, h, Option.bind_some]
    cases c2 : l.all evF
    · have := h2.2 c2; simp [c, this]
    · have : ¬ (v ≥ 0) := fun h3 => by have := h2.1 h3; simp [c2] at this
      simp [c]; omega
  · rw [if_neg c]; simp [c]
def jok (l r : List S35) (m : Int) : Bool := evs l && evs r && decide (-1 ≤ m ∧ m ≤ 1000000)
theorem specJoinOk_eq (l r : List S35) (m : Int) (hl : l.length < 40000000) (hr : r.length < 40000000) (k : Nat) (hk : l.length < k) (hk2 : r.length < k) : spec_JoinOk.f k l r m = some (jok l r m) := by
  simp only [spec_JoinOk.f, specEvents_eq l hl k hk, specEvents_eq r hr k hk2, specMark_eq, Option.bind_some, jok]
  cases evs l <;> cases evs r <;> simp
theorem implJoinOk_eq (l r : List S35) (m : Int) (hl : l.length < 40000000) (hr : r.length < 40000000) (k : Nat) (hk : l.length < k) (hk2 : r.length < k) : impl_JoinOk.f k l r m = some (jok l r m) := by
  simp only [impl_JoinOk.f, implEvents_eq l hl k hk, implEvents_eq r hr k hk2, isMark_eq, Option.bind_some, jok]
  cases evs l <;> cases evs r <;> simp
theorem frames_l0 (l : List S35) (hl : l.length < 4000000) : ∀ n i k, i + n = l.length → n < k → spec_l12Frames.l0 k l (l.take i) (i : Int) = some l := by
  intro n
  induction n with
  | zero =>
    intro i k hi hk
    obtain ⟨k, rfl⟩ : ∃ q, k = q + 1 := ⟨k - 1, by omega⟩
    have h0 : ¬ ((i : Int) < l.length) := by omega
    simp only [spec_l12Frames.l0, if_neg h0]
    rw [List.take_of_length_le (by omega)]
  | succ n ih =>
    intro i k hi hk
    obtain ⟨k, rfl⟩ : ∃ q, k = q + 1 := ⟨k - 1, by omega⟩
    have hlt : i < l.length := by omega
    have h0 : (i : Int) < l.length := by omega
    have h1 : (0 : Int) ≤ i := by omega
    have h2 : (l.take i).length < 4398046511104 := by rw [List.length_take]; omega
    have ih1 := ih (i + 1) k (by omega) (by omega)
    rw [List.take_succ_eq_append_getElem hlt] at ih1
    simp only [spec_l12Frames.l0, if_pos h0, if_pos h1, if_pos h2, rd35 l i hlt, nxt i (by omega)]
    exact ih1
theorem frames_eq (l : List S35) (hl : l.length < 4000000) (k : Nat) (hk : l.length < k) : spec_l12Frames.f k l = some l := by
  have := frames_l0 l hl l.length 0 k (by omega) hk
  simpa [spec_l12Frames.f] using this
theorem copyJ_eq (l r : List S35) (m : Int) (hl : l.length < 4000000) (hr : r.length < 4000000) (k : Nat) (hk : l.length < k) (hk2 : r.length < k) : spec_l12Copy.f k l r m = some (l, r, m) := by
  simp [spec_l12Copy.f, frames_eq l hl k hk, frames_eq r hr k hk2]
theorem ownJ_eq (l r : List S35) (m : Int) (hl : l.length < 4000000) (hr : r.length < 4000000) : impl_ownJoin.f l r m = some (l, r, m) := by
  have h1 : l.length < 4398046511104 := by omega
  have h2 : r.length < 4398046511104 := by omega
  simp [impl_ownJoin.f, impl_Frame_81.f, h1, h2]
def dist (a b : Int) : Int := if wrap64 (a - b) < 0 then wrap64 (-(wrap64 (a - b))) else wrap64 (a - b)
def meetB (f s : S35) (by_ : Int) : Bool := decide (f.f1 = s.f1) && decide (dist f.f2 s.f2 ≤ by_)
theorem specMeet_eq (f s : S35) (b : Int) : spec_l12Meet.f f.f0 f.f1 f.f2 f.f3 s.f0 s.f1 s.f2 s.f3 b = some (meetB f s b) := by
  unfold spec_l12Meet.f meetB dist
  by_cases h : wrap64 (f.f2 - s.f2) < 0 <;> by_cases h2 : f.f1 = s.f1 <;> simp [h, h2]
theorem implMeet_eq (f s : S35) (b : Int) : impl_meet.f f.f0 f.f1 f.f2 f.f3 s.f0 s.f1 s.f2 s.f3 b = some (meetB f s b) := by
  have e : mx (wrap64 (f.f2 - s.f2)) (wrap64 (-(wrap64 (f.f2 - s.f2)))) = dist f.f2 s.f2 := by
    unfold mx dist
    have hr : -9223372036854775808 ≤ wrap64 (f.f2 - s.f2) ∧ wrap64 (f.f2 - s.f2) ≤ 9223372036854775807 := by unfold wrap64; omega
    generalize wrap64 (f.f2 - s.f2) = d at hr
    by_cases h : d = -9223372036854775808
    · subst h; decide +kernel
    · have e : wrap64 (-d) = -d := by unfold wrap64; omega
      rw [e]; split <;> split <;> omega
  unfold impl_meet.f meetB
  rw [e]
  by_cases h2 : f.f1 = s.f1 <;> simp [h2]
def pairB (left : Bool) (f s : S35) : S75 := if left = true then ⟨f.f1, f.f2, s.f2, f.f3, s.f3⟩ else ⟨s.f1, s.f2, f.f2, s.f3, f.f3⟩
def pairsF (left : Bool) (f : S35) (b : Int) : List S35 → List S75
  | [] => []
  | s :: r => if meetB f s b = true then pairB left f s :: pairsF left f b r else pairsF left f b r
theorem pairsF_length (left : Bool) (f : S35) (b : Int) : ∀ l, (pairsF left f b l).length ≤ l.length
  | [] => Nat.le_refl _
  | s :: r => by have := pairsF_length left f b r; unfold pairsF; split <;> simp <;> omega
def addSide (left : Bool) (l r : List S35) (f : S35) : List S35 × List S35 := if left = true then (l ++ [f], r) else (l, r ++ [f])
theorem specPairs_l0 (o : List S35) (ho : o.length < 4000000) (left : Bool) (f : S35) (b : Int) (A B : List S35) (m : Int) (hA : A.length < 4000000) (hB : B.length < 4000000) : ∀ n i k out, i + n = o.length → n < k → out.length + n < 8000000 →
    spec_AddJoin.l0 k b left o out (i : Int) f.f0 f.f1 f.f2 f.f3 A B m = some ((addSide left A B f).1, (addSide left A B f).2, m, out ++ pairsF left f b (o.drop i), 0) := by
  intro n
  induction n with
  | zero =>
    intro i k out hi hk hout
    obtain ⟨k, rfl⟩ : ∃ q, k = q + 1 := ⟨k - 1, by omega⟩
    have h0 : ¬ ((i : Int) < o.length) := by omega
    have h2 : A.length < 4398046511104 := by omega
    have h3 : B.length < 4398046511104 := by omega
    simp only [spec_AddJoin.l0, if_neg h0, if_pos h2, if_pos h3]
    rw [List.drop_of_length_le (by omega)]
    cases left <;> simp [addSide, pairsF]
  | succ n ih =>
    intro i k out hi hk hout
    obtain ⟨k, rfl⟩ : ∃ q, k = q + 1 := ⟨k - 1, by omega⟩
    have hlt : i < o.length := by omega
    have h0 : (i : Int) < o.length := by omega
    have h1 : (0 : Int) ≤ i := by omega
    have h2 : out.length < 3518437208883 := by omega
    have ih0 := ih (i + 1) k out (by omega) (by omega) (by omega)
    have ih1 := fun z => ih (i + 1) k (out ++ [z]) (by omega) (by omega) (by simp; omega)
    rw [List.drop_eq_getElem_cons hlt]
    simp only [spec_AddJoin.l0, if_pos h0, if_pos h1, if_pos h2, rd35 o i hlt, nxt i (by omega), specMeet_eq f o[i] b, spec_l12Pair.f, Option.bind_some, ih0, ih1, pairsF]
    cases c : meetB f o[i] b
    · rw [if_neg Bool.false_ne_true, if_neg Bool.false_ne_true]
    · rw [if_pos rfl, if_pos rfl]
      cases left
      · rw [if_neg Bool.false_ne_true, List.append_assoc]; rfl
      · rw [if_pos rfl, List.append_assoc]; rfl
theorem implPairs_l0 (o : List S35) (ho : o.length < 4000000) (left : Bool) (f : S35) (b : Int) (A B : List S35) (m : Int) : ∀ n i k out, i + n = o.length → n < k → out.length + n < 8000000 →
    impl_AddJoin.l0 k b left out o (o.length : Int) (i : Int) f.f0 f.f1 f.f2 f.f3 A B m = some (A, B, m, out ++ pairsF left f b (o.drop i), 0) := by
  intro n
  induction n with
  | zero =>
    intro i k out hi hk hout
    obtain ⟨k, rfl⟩ : ∃ q, k = q + 1 := ⟨k - 1, by omega⟩
    have h0 : ¬ ((i : Int) < o.length) := by omega
    simp only [impl_AddJoin.l0, if_neg h0]
    rw [List.drop_of_length_le (by omega)]
    simp [pairsF]
  | succ n ih =>
    intro i k out hi hk hout
    obtain ⟨k, rfl⟩ : ∃ q, k = q + 1 := ⟨k - 1, by omega⟩
    have hlt : i < o.length := by omega
    have h0 : (i : Int) < o.length := by omega
    have h1 : (0 : Int) ≤ i := by omega
    have h2 : out.length < 3518437208883 := by omega
    have ih0 := ih (i + 1) k out (by omega) (by omega) (by omega)
    have ih1 := fun z => ih (i + 1) k (out ++ [z]) (by omega) (by omega) (by simp; omega)
    rw [List.drop_eq_getElem_cons hlt]
    simp only [impl_AddJoin.l0, if_pos h0, if_pos h1, if_pos h2, rd35 o i hlt, nxt i (by omega), implMeet_eq f o[i] b, impl_pairOf.f, Option.bind_some, ih0, ih1, pairsF]
    cases c : meetB f o[i] b
    · rw [if_neg Bool.false_ne_true, if_neg Bool.false_ne_true]
    · rw [if_pos rfl, if_pos rfl]
      cases left
      · rw [if_neg Bool.false_ne_true, List.append_assoc]; rfl
      · rw [if_pos rfl, List.append_assoc]; rfl
theorem implPairs_l1 (o : List S35) (ho : o.length < 4000000) (left : Bool) (f : S35) (b : Int) (A B : List S35) (m : Int) : ∀ n i k out, i + n = o.length → n < k → out.length + n < 8000000 →
    impl_AddJoin.l1 k b left out o (o.length : Int) (i : Int) f.f0 f.f1 f.f2 f.f3 A B m = some (A, B, m, out ++ pairsF left f b (o.drop i), 0) := by
  intro n
  induction n with
  | zero =>
    intro i k out hi hk hout
    obtain ⟨k, rfl⟩ : ∃ q, k = q + 1 := ⟨k - 1, by omega⟩
    have h0 : ¬ ((i : Int) < o.length) := by omega
    simp only [impl_AddJoin.l1, if_neg h0]
    rw [List.drop_of_length_le (by omega)]
    simp [pairsF]
  | succ n ih =>
    intro i k out hi hk hout
    obtain ⟨k, rfl⟩ : ∃ q, k = q + 1 := ⟨k - 1, by omega⟩
    have hlt : i < o.length := by omega
    have h0 : (i : Int) < o.length := by omega
    have h1 : (0 : Int) ≤ i := by omega
    have h2 : out.length < 3518437208883 := by omega
    have ih0 := ih (i + 1) k out (by omega) (by omega) (by omega)
    have ih1 := fun z => ih (i + 1) k (out ++ [z]) (by omega) (by omega) (by simp; omega)
    rw [List.drop_eq_getElem_cons hlt]
    simp only [impl_AddJoin.l1, if_pos h0, if_pos h1, if_pos h2, rd35 o i hlt, nxt i (by omega), implMeet_eq f o[i] b, impl_pairOf.f, Option.bind_some, ih0, ih1, pairsF]
    cases c : meetB f o[i] b
    · rw [if_neg Bool.false_ne_true, if_neg Bool.false_ne_true]
    · rw [if_pos rfl, if_pos rfl]
      cases left
      · rw [if_neg Bool.false_ne_true, List.append_assoc]; rfl
      · rw [if_pos rfl, List.append_assoc]; rfl
def addJ (l r : List S35) (m b : Int) (left : Bool) (f : S35) : List S35 × List S35 × Int × List S75 × Int :=
  if jok l r m = true ∧ evF f = true ∧ (0 ≤ b ∧ b ≤ 1000000) then
    if f.f2 ≤ m then (l, r, m, [], 1)
    else if ((if left = true then l else r).length : Int) = 40 then (l, r, m, [], 2)
    else ((addSide left l r f).1, (addSide left l r f).2, m, pairsF left f b (if left = true then r else l), 0)
  else (l, r, m, [], 3)
theorem specAddJ_eq (l r : List S35) (m b : Int) (left : Bool) (f : S35) (hl : l.length < 4000000) (hr : r.length < 4000000) (k : Nat) (hk : l.length + 3 < k) (hk2 : r.length + 3 < k) : spec_AddJoin.f k l r m b left f.f0 f.f1 f.f2 f.f3 = some (addJ l r m b left f) := by
  obtain ⟨k, rfl⟩ : ∃ q, k = q + 2 := ⟨k - 2, by omega⟩
  have e : evOk f.f0 f.f1 f.f2 f.f3 = evF f := rfl
  have hp := specPairs_l0 r hr left f b l r m hl hr r.length 0 k [] (by omega) (by omega) (by simp; omega)
  have hp2 := specPairs_l0 l hl left f b l r m hl hr l.length 0 k [] (by omega) (by omega) (by simp; omega)
  simp only [Int.natCast_zero, List.drop_zero, List.nil_append] at hp hp2
  simp only [spec_AddJoin.f, copyJ_eq l r m hl hr (k + 2) (by omega) (by omega), specJoinOk_eq l r m (by omega) (by omega) (k + 2) (by omega) (by omega), specEv_eq, in_eq, Option.bind_some, spec_AddJoin.j0, spec_AddJoin.j1, e, addJ, hp, hp2]
  cases c1 : jok l r m
  · simp
  · cases c2 : evF f
    · simp
    · by_cases c3 : 0 ≤ b ∧ b ≤ 1000000
      · by_cases c4 : f.f2 ≤ m
        · simp [c3, c4]
        · cases left <;> simp [c3, c4] <;> split <;> rfl
      · simp [c3]
theorem implAddJ_eq (l r : List S35) (m b : Int) (left : Bool) (f : S35) (hl : l.length < 4000000) (hr : r.length < 4000000) (k : Nat) (hk : l.length + 3 < k) (hk2 : r.length + 3 < k) : impl_AddJoin.f k l r m b left f.f0 f.f1 f.f2 f.f3 = some (addJ l r m b left f) := by
  obtain ⟨k, rfl⟩ : ∃ q, k = q + 1 := ⟨k - 1, by omega⟩
  have e : evOk f.f0 f.f1 f.f2 f.f3 = evF f := rfl
  have hp := implPairs_l0 r hr left f b (l ++ [f]) r m r.length 0 k [] (by omega) (by omega) (by simp; omega)
  have hp2 := implPairs_l1 l hl left f b l (r ++ [f]) m l.length 0 k [] (by omega) (by omega) (by simp; omega)
  simp only [Int.natCast_zero, List.drop_zero, List.nil_append] at hp hp2
  have h1 : l.length < 4398046511104 := by omega
  have h2 : r.length < 4398046511104 := by omega
  have e2 : (⟨f.f0, f.f1, f.f2, f.f3⟩ : S35) = f := rfl
  simp only [impl_AddJoin.f, ownJ_eq l r m hl hr, implJoinOk_eq l r m (by omega) (by omega) (k + 1) (by omega) (by omega), implEv_eq, isTime_eq, Option.bind_some, impl_AddJoin.j0, impl_AddJoin.j2, e, addJ, if_pos h1, if_pos h2, e2, hp, hp2]
  cases c1 : jok l r m
  · cases left <;> simp
  · cases c2 : evF f
    · cases left <;> simp
    · by_cases c3 : 0 ≤ b ∧ b ≤ 1000000
      · by_cases c4 : f.f2 ≤ m
        · cases left <;> simp [c3, c4] <;> split <;> rfl
        · cases left <;> simp [c3, c4, addSide] <;> split <;> rfl
      · cases left <;> simp [c3]
theorem addJ_length (l r : List S35) (m b : Int) (left : Bool) (f : S35) : (addJ l r m b left f).1.length ≤ l.length + 1 ∧ (addJ l r m b left f).2.1.length ≤ r.length + 1 ∧ (addJ l r m b left f).2.2.2.1.length ≤ l.length + r.length := by
  have h1 := pairsF_length left f b r
  have h2 := pairsF_length left f b l
  cases left
  · simp only [addJ, addSide, Bool.false_eq_true, if_false]
    split
    · split
      · simp
      · split
        · simp
        · simp only [List.length_append, List.length_cons, List.length_nil]; omega
    · simp
  · simp only [addJ, addSide, if_true]
    split
    · split
      · simp
      · split
        · simp
        · simp only [List.length_append, List.length_cons, List.length_nil]; omega
    · simp
end Go.Proofs.Ythjdjknlcknkdaa.JP
namespace Go.Proofs.Ythjdjknlcknkdaa.Pure
open Go.RowKit Go.Proofs.Ythjdjknlcknkdaa.K Go.Proofs.Ythjdjknlcknkdaa.JP Go.Proofs.YthjdjknlcknkdaaW.PrintWords Go.Proofs.YthjdjknlcknkdaaW.PrintLast
set_option linter.unusedVariables false
set_option linter.unusedSimpArgs false
theorem toJoin_eq (l r : List S26) (m : Int) (hl : l.length ≤ 1048576) (hr : r.length ≤ 1048576) (k : Nat) (hk : l.length < k) (hk2 : r.length < k) : laws_toJoin.f k l r m = some (l.map cvFrame, r.map cvFrame, m) := by
  simp [laws_toJoin.f, toFrameS_eq l hl k hk, toFrameS_eq r hr k hk2]
theorem eqJoin_refl (l r : List S35) (m : Int) (hl : l.length < 4000000) (hr : r.length < 4000000) (k : Nat) (hk : l.length < k) (hk2 : r.length < k) : laws_eqJoin.f k l r m l r m = some true := by
  simp [laws_eqJoin.f, eqFrameS_refl l (by omega) k hk, eqFrameS_refl r (by omega) k hk2]
theorem markJoin_eq (l r : List S35) (m : Int) (hl : l.length < 4000000) (hr : r.length < 4000000) (k : Nat) (hk : l.length < k) (hk2 : r.length < k) : laws_markJoin.f k l r m 1 = some (1 + 4 * (l.length : Int) + 4 * (r.length : Int), mkFrame 1 l, mkFrame (1 + 4 * (l.length : Int)) r) := by
  simp [laws_markJoin.f, markFrameS_eq l (by omega) 1 (by omega) (by omega) k hk, markFrameS_eq r (by omega) (1 + 4 * (l.length : Int)) (by omega) (by omega) k hk2]
theorem heldJoin_eq (l r : List S35) (m : Int) (hl : l.length < 4000000) (hr : r.length < 4000000) (k : Nat) (hk : l.length < k) (hk2 : r.length < k) : laws_heldJoin.f k (mkFrame 1 l) (mkFrame (1 + 4 * (l.length : Int)) r) m 1 = some (1 + 4 * (l.length : Int) + 4 * (r.length : Int)) := by
  have n1 : ¬ (1 + 4 * (l.length : Int) < 0) := by omega
  have n2 : ¬ (1 + 4 * (l.length : Int) + 4 * (r.length : Int) < 0) := by omega
  simp only [laws_heldJoin.f, heldFrameS_eq l (by omega) 1 (by omega) (by omega) k hk, heldFrameS_eq r (by omega) (1 + 4 * (l.length : Int)) (by omega) (by omega) k hk2, Option.bind_some, if_neg n1, if_neg n2]
theorem FnExactAddJoin : ∀ (l0_0 : List (S26)) (l0_1 : List (S26)) (a0_2 : Int) (a1 : Int) (a2 : Bool) (a3_0 : Int) (a3_1 : Int) (a3_2 : Int) (a3_3 : Int), (l0_0.length ≤ maxLen ∧ ∀ x_1 ∈ l0_0, ((Lit.int .i64 x_1.f0).wf = true ∧ (Lit.int .i64 x_1.f1).wf = true ∧ (Lit.int .i64 x_1.f2).wf = true ∧ (Lit.int .i64 x_1.f3).wf = true)) → (l0_1.length ≤ maxLen ∧ ∀ x_1 ∈ l0_1, ((Lit.int .i64 x_1.f0).wf = true ∧ (Lit.int .i64 x_1.f1).wf = true ∧ (Lit.int .i64 x_1.f2).wf = true ∧ (Lit.int .i64 x_1.f3).wf = true)) → (Lit.int .i64 a0_2).wf = true → (Lit.int .i64 a1).wf = true → (Lit.int .i64 a3_0).wf = true → (Lit.int .i64 a3_1).wf = true → (Lit.int .i64 a3_2).wf = true → (Lit.int .i64 a3_3).wf = true →  ∃ k, laws_FnExactAddJoin.f k l0_0 l0_1 a0_2 a1 a2 a3_0 a3_1 a3_2 a3_3 = some true := by
  intro l r m b left f0 f1 f2 f3 hl0 hr0 _ _ _ _ _ _
  have hmax : l.length ≤ 9223372036854775807 := hl0.1
  have hmax2 : r.length ≤ 9223372036854775807 := hr0.1
  have e : wrap64 (1048576 - (l.length : Int)) = 1048576 - (l.length : Int) := by unfold wrap64; omega
  by_cases hl : l.length ≤ 1048576
  · have hn : ¬ (1048576 - (l.length : Int) < 0) := by omega
    have e2 : wrap64 (1048576 - (l.length : Int) - (r.length : Int)) = 1048576 - (l.length : Int) - (r.length : Int) := by unfold wrap64; omega
    by_cases hr : l.length + r.length ≤ 1048576
    · have hn2 : ¬ (1048576 - (l.length : Int) - (r.length : Int) < 0) := by omega
      obtain ⟨k, hk⟩ : ∃ k, k = 2000000 := ⟨_, rfl⟩
      have hll : (l.map cvFrame).length = l.length := List.length_map ..
      have hrl : (r.map cvFrame).length = r.length := List.length_map ..
      have hto := toJoin_eq l r m hl (by omega) k (by omega) (by omega)
      have hsp := specAddJ_eq (l.map cvFrame) (r.map cvFrame) m b left ⟨f0, f1, f2, f3⟩ (by omega) (by omega) k (by omega) (by omega)
      have him := implAddJ_eq (l.map cvFrame) (r.map cvFrame) m b left ⟨f0, f1, f2, f3⟩ (by omega) (by omega) k (by omega) (by omega)
      have hlen := addJ_length (l.map cvFrame) (r.map cvFrame) m b left ⟨f0, f1, f2, f3⟩
      generalize addJ (l.map cvFrame) (r.map cvFrame) m b left ⟨f0, f1, f2, f3⟩ = v at hsp him hlen
      obtain ⟨v0, v1, v2, v3, v4⟩ := v
      simp only at hlen hsp him
      have heq := eqJoin_refl v0 v1 v2 (by omega) (by omega) k (by omega) (by omega)
      have heqp := eqPairS_refl v3 (by omega) k (by omega)
      have heq2 := eqJoin_refl (l.map cvFrame) (r.map cvFrame) m (by omega) (by omega) k (by omega) (by omega)
      have hmk := markJoin_eq v0 v1 v2 (by omega) (by omega) k (by omega) (by omega)
      have hmk2 := markJoin_eq (l.map cvFrame) (r.map cvFrame) m (by omega) (by omega) k (by omega) (by omega)
      have hmkp := markPairS_eq v3 (by omega) (1 + 4 * (v0.length : Int) + 4 * (v1.length : Int)) (by omega) (by omega) k (by omega)
      have hhe := heldJoin_eq v0 v1 v2 (by omega) (by omega) k (by omega) (by omega)
      have hhep := heldPairS_eq v3 (by omega) (1 + 4 * (v0.length : Int) + 4 * (v1.length : Int)) (by omega) (by omega) k (by omega)
      rw [hll, hrl] at hmk2
      have n1 : ¬ (1 + 4 * (l.length : Int) + 4 * (r.length : Int) < 0) := by omega
      have n2 : ¬ (1 + 4 * (v0.length : Int) + 4 * (v1.length : Int) < 0) := by omega
      have n3 : ¬ (1 + 4 * (v0.length : Int) + 4 * (v1.length : Int) + 5 * (v3.length : Int) < 0) := by omega
      refine ⟨k, ?_⟩
      simp only [laws_FnExactAddJoin.f, laws_szJoin.f, laws_szFrameS.f, laws_toFrame.f, e, e2, if_neg hn, if_neg hn2, Option.bind_some, hto, hsp, him, heq, heqp, heq2, hmk, hmk2, hmkp, hhe, hhep, if_true, bne_self_eq_false, Bool.false_eq_true, if_false, if_neg n1, if_neg n2, if_neg n3]
    · refine ⟨1, ?_⟩
      have hn2 : 1048576 - (l.length : Int) - (r.length : Int) < 0 ∨ 0 ≤ wrap64 (1048576 - (l.length : Int) - (r.length : Int)) := by omega
      have e3 : wrap64 (1048576 - (l.length : Int) - (r.length : Int)) < 0 := by unfold wrap64; omega
      simp [laws_FnExactAddJoin.f, laws_szJoin.f, laws_szFrameS.f, e, hn, e3]
  · refine ⟨1, ?_⟩
    have hn : 1048576 - (l.length : Int) < 0 := by omega
    simp [laws_FnExactAddJoin.f, laws_szJoin.f, laws_szFrameS.f, e, hn]
end Go.Proofs.Ythjdjknlcknkdaa.Pure
namespace Go.Proofs.Ythjdjknlcknkdaa.fnExactAddJoin
open Go.ChangeShapes Go.WideShapes Go.ChangeAt Go.RowKit Go.Proofs.YthjdjknlcknkdaaW.PrintWords Go.Proofs.Ythjdjknlcknkdaa.K Go.Proofs.YthjdjknlcknkdaaO
open Go.ChangeMaps (open_string shut_string)
set_option linter.unusedVariables false
theorem own : ownKnob Try.prog.godebug = none := by kernel_rfl
theorem laidOut : laidOutB Try.prog = true := by kernel_rfl
set_option maxRecDepth 100000 in
theorem lifted (os : Os) (started : os.Started) (H : Type) (enc : TypeId × Value → H) :
    ReturnsInHanded {} Try.checked os 3 .any (Rows.fnExactAddJoinSpec.pre6 enc Try.prog Try.f3 Rows.fnExactAddJoinRow.domain false) (Rows.fnExactAddJoinSpec.post enc Try.prog Try.f3 false true false false) := by
  refine returnsInHanded_of_change_sized (C := Try.checked) own started (by kernel_rfl) Try.func3
    (ChangeSpec.witness6 (enc := enc) (C := Try.checked) false ⟨#[], #[.agg #[.slice none 0 0, .slice none 0 0, .int .i64 0], .int .i64 0, .bool false, .agg #[.int .i64 0, .int .i64 0, .int .i64 0, .int .i64 0]], []⟩ 8 (by kernel_rfl) (by kernel_rfl) (by kernel_rfl) (by kernel_rfl)) ?_
  intro W base args ds gs before hval0 hW hcnd hsz0 _
  have hval : ∀ (j : Nat) t v, Try.f3.params[j]? = some t → args[j]? = some v → Value.okWide Try.prog W .any base t v := hval0
  have hW' := hW
  obtain ⟨p, q, hA0, hV, rfl, hfz, hnd⟩ := hW
  have hA : DataW.TrodAll enc Try.prog W 0 (fun _ => true) true Try.f3.params.toList args.toList ds p := hA0
  rw [Try.params3] at hA hval
  obtain ⟨v0, vs0, d0, ds0, p0, q0, hargs, rfl, rfl, h0, r0⟩ := trodAll_cons hA
  obtain ⟨v1, vs1, d1, ds1, p1, q1, rfl, rfl, rfl, h1, r1⟩ := trodAll_cons r0
  obtain ⟨v2, vs2, d2, ds2, p2, q2, rfl, rfl, rfl, h2, r2⟩ := trodAll_cons r1
  obtain ⟨v3, vs3, d3, ds3, p3, q3, rfl, rfl, rfl, h3, r3⟩ := trodAll_cons r2
  obtain ⟨rfl, rfl, rfl⟩ := trodAll_nil r3
  obtain rfl : args = #[v0, v1, v2, v3] := by cases args; simp_all
  obtain ⟨rfl, rfl⟩ := trodVars_none hV
  have k0 := h0
  have lt0 : ∀ x ∈ p0, x.block < W.heap.size := by obtain ⟨m, hm⟩ := k0; exact DataW.trod_lt m _ _ _ hm
  obtain ⟨cs0, rfl, sz0⟩ := okWide_struct Try.underlying24 (hval 0 24 v0 rfl rfl)
  obtain ⟨⟨l0_0, l0_1, a0_2⟩, hk0, ⟨w0_0, w0_1, w0_2⟩⟩ := ((opens_struct Try.underlying24 (by kernel_rfl) (opensF_cons (opens_slice Try.underlying22 (by kernel_rfl) (opens_iso (opens_struct Try.underlying26 (by kernel_rfl) (opensF_cons (opens_int Try.underlying3 (by kernel_rfl)) (opensF_cons (opens_int Try.underlying3 (by kernel_rfl)) (opensF_cons (opens_int Try.underlying3 (by kernel_rfl)) (opensF_last (opens_int Try.underlying3 (by kernel_rfl))) rfl) rfl) rfl)) (fun x : S26 => (x.f0, x.f1, x.f2, x.f3)) (fun p => ⟨p.1, p.2.1, p.2.2.1, p.2.2.2⟩) (fun _ => rfl))) (opensF_cons (opens_slice Try.underlying22 (by kernel_rfl) (opens_iso (opens_struct Try.underlying26 (by kernel_rfl) (opensF_cons (opens_int Try.underlying3 (by kernel_rfl)) (opensF_cons (opens_int Try.underlying3 (by kernel_rfl)) (opensF_cons (opens_int Try.underlying3 (by kernel_rfl)) (opensF_last (opens_int Try.underlying3 (by kernel_rfl))) rfl) rfl) rfl)) (fun x : S26 => (x.f0, x.f1, x.f2, x.f3)) (fun p => ⟨p.1, p.2.1, p.2.2.1, p.2.2.2⟩) (fun _ => rfl))) (opensF_last (opens_int Try.underlying3 (by kernel_rfl))) rfl) rfl)) : Opens enc Try.prog W 0 (fun _ => true) true 24 (Kd.pair (Kd.slice 26 k26) (Kd.pair (Kd.slice 26 k26) (Kd.int .i64))) _).at h0
  obtain ⟨_, _, he0, ⟨A0_0, c0_0, rfl, hc0_0, hC0_0⟩, ⟨_, _, rfl, ⟨A0_1, c0_1, rfl, hc0_1, hC0_1⟩, rfl⟩⟩ := hk0
  obtain rfl : cs0 = #[.slice A0_0 l0_0.length c0_0, .slice A0_1 l0_1.length c0_1, .int .i64 a0_2] := by cases cs0; simpa [Value.cells] using he0
  obtain ⟨a1, rfl, rfl, rfl, w1⟩ := open_int Try.underlying3 (hval 1 3 v1 rfl rfl) h1
  obtain ⟨a2, rfl, rfl, rfl⟩ := open_bool Try.underlying4 (hval 2 4 v2 rfl rfl) h2
  have k3 := h3
  have lt3 : ∀ x ∈ p3, x.block < W.heap.size := by obtain ⟨m, hm⟩ := k3; exact DataW.trod_lt m _ _ _ hm
  obtain ⟨cs3, rfl, sz3⟩ := okWide_struct Try.underlying26 (hval 3 26 v3 rfl rfl)
  obtain ⟨⟨a3_0, a3_1, a3_2, a3_3⟩, hk3, ⟨w3_0, w3_1, w3_2, w3_3⟩⟩ := ((opens_struct Try.underlying26 (by kernel_rfl) (opensF_cons (opens_int Try.underlying3 (by kernel_rfl)) (opensF_cons (opens_int Try.underlying3 (by kernel_rfl)) (opensF_cons (opens_int Try.underlying3 (by kernel_rfl)) (opensF_last (opens_int Try.underlying3 (by kernel_rfl))) rfl) rfl) rfl)) : Opens enc Try.prog W 0 (fun _ => true) true 26 (Kd.pair (Kd.int .i64) (Kd.pair (Kd.int .i64) (Kd.pair (Kd.int .i64) (Kd.int .i64)))) _).at h3
  obtain ⟨_, _, he3, rfl, ⟨_, _, rfl, rfl, ⟨_, _, rfl, rfl, rfl⟩⟩⟩ := hk3
  obtain rfl : cs3 = #[.int .i64 a3_0, .int .i64 a3_1, .int .i64 a3_2, .int .i64 a3_3] := by cases cs3; simpa [Value.cells] using he3
  clear hA0 hval0 hsz0
  obtain ⟨k, hk⟩ := Pure.FnExactAddJoin l0_0 l0_1 a0_2 a1 a2 a3_0 a3_1 a3_2 a3_3 w0_0 w0_1 w0_2 w1 w3_0 w3_1 w3_2 w3_3
  refine (laws_FnExactAddJoin.calls k A0_0 c0_0 l0_0 A0_1 c0_1 l0_1 a0_2 a1 a2 a3_0 a3_1 a3_2 a3_3 true W hC0_0 hc0_0 hC0_1 hc0_1 hk).mono fun e W' ⟨he, bel⟩ => ?_
  subst he
  exact ⟨_, rfl, _, _, _, [], _, [], hW', trodAll_mk1 (shut_bool Try.underlying4 _), (trodAll_cons_mk (Below.trod laidOut (by kernel_rfl) (of_decide_eq_true (by kernel_rfl)) k0 bel lt0) (trodAll_cons_mk (shut_int Try.underlying3 w1) (trodAll_cons_mk (shut_bool Try.underlying4 _) (trodAll_cons_mk (Below.trod laidOut (by kernel_rfl) (of_decide_eq_true (by kernel_rfl)) k3 bel lt3) trodAll_mk0)))), rfl, bel.frame _, fun h => by cases h⟩
theorem over : Rows.fnExactAddJoinRow.holds Try.pinned (OpenSpec.ofChange Rows.fnExactAddJoinSpec) :=
  OpenClaim.holds_of_wide 3 Try.f3 rfl rfl rfl rfl rfl rfl rfl ⟨rfl, rfl, rfl, rfl, rfl⟩ rfl rfl rfl rfl rfl (by kernel_rfl) Try.func3 (by kernel_rfl)
    (of_decide_eq_true (by kernel_rfl)) (by unfold Func.isWrapper; first | (rw [if_pos (by decide +kernel)]; kernel_rfl) | (rw [if_neg (by decide +kernel)]; exact ⟨rfl, rfl⟩))
    (fun os started H enc _ => lifted os started H enc)
theorem proved : Rows.FnExactAddJoinSaid := over
#print axioms proved
end Go.Proofs.Ythjdjknlcknkdaa.fnExactAddJoin
namespace Go.Proofs.Ythjdjknlcknkdaa
theorem fnExactAddJoin_holds : Rows.FnExactAddJoinSaid := fnExactAddJoin.proved
end Go.Proofs.Ythjdjknlcknkdaa
