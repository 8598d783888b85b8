/- Part 1 of a proof: a logic of walks over a heap, contracts of the given functions, and the law walked.  -/
import Derived.Test.YtbmoifddenagiaaDa0
import Derived.Test.YtbmoifddenagiaaProg
import Derived.KernelRfl
namespace Go.HL
open Go Go.RowKit
set_option linter.unusedVariables false
set_option linter.unusedSimpArgs false
variable {P : Program}

structure Env.le (E E' : Env) : Prop where
  r : ∀ t y, E.r t = some y → E'.r t = some y
  x : ∀ t cs, E.x t = some cs → E'.x t = some cs
theorem Env.le.refl (E : Env) : E.le E := ⟨fun _ _ h => h, fun _ _ h => h⟩
theorem Env.le.trans {A B C : Env} (h : A.le B) (k : B.le C) : A.le C := ⟨fun t y e => k.r t y (h.r t y e), fun t y e => k.x t y (h.x t y e)⟩
theorem Env.le.put {E E' : Env} (h : E.le E') (d : Option Nat) (y : AV) : (E.put d y).le (E'.put d y) := by
  cases d with
  | none => exact h
  | some d =>
    refine ⟨fun t z e => ?_, h.x⟩
    simp only [Env.put, upd] at e ⊢
    split
    · rename_i ht; rw [if_pos ht] at e; exact e
    · rename_i ht; rw [if_neg ht] at e; exact h.r t z e
theorem Env.le.nv {E E' : Env} (h : E.le E') (d : Nat) (cs : List Value) : (E.nv d cs).le (E'.nv d cs) := by
  refine ⟨fun t z e => ?_, fun t c e => ?_⟩
  · simp only [Env.nv, upd] at e ⊢
    split
    · rename_i ht; rw [if_pos ht] at e; exact e
    · rename_i ht
      rw [if_neg ht] at e
      cases hr : E.r t with
      | none => rw [hr] at e; cases e
      | some y => rw [h.r t y hr, ← hr]; exact e
  · simp only [Env.nv, upd] at e ⊢
    split
    · rename_i ht; rw [if_pos ht] at e; exact e
    · rename_i ht; rw [if_neg ht] at e; exact h.x t c e
theorem Env.le.sv {E E' : Env} (h : E.le E') (d : Nat) (cs : List Value) : (E.sv d cs).le (E'.sv d cs) := by
  refine ⟨h.r, fun t c e => ?_⟩
  simp only [Env.sv, upd] at e ⊢
  split
  · rename_i ht; rw [if_pos ht] at e; exact e
  · rename_i ht; rw [if_neg ht] at e; exact h.x t c e

theorem AO.ev_le {E E' : Env} (h : E.le E') {a : AO} {y : AV} (e : a.ev E = some y) : a.ev E' = some y := by
  cases a with
  | r t => exact h.r t y e
  | c v => exact e
  | f g => exact e
theorem AO.val_le {E E' : Env} (h : E.le E') {a : AO} {v : Value} (e : a.val E = some v) : a.val E' = some v := by
  unfold AO.val at e ⊢
  cases he : a.ev E with
  | none => rw [he] at e; cases e
  | some z => rw [he] at e; rw [AO.ev_le h he]; exact e
theorem vals_le {E E' : Env} (h : E.le E') : ∀ {l : List AO} {vs}, vals E l = some vs → vals E' l = some vs
  | [], _, e => e
  | a :: l, vs, e => by
    simp only [vals] at e ⊢
    cases ha : a.val E with
    | none => rw [ha] at e; cases e
    | some v =>
      rw [ha] at e; rw [AO.val_le h ha]
      cases hl : vals E l with
      | none => simp only [hl] at e; cases e
      | some us => simp only [hl] at e; simp only [vals_le h hl]; exact e
theorem parts3_le {E E' : Env} (h : E.le E') : ∀ {l : List (Nat × Nat × AO)} {vs}, parts3 E l = some vs → parts3 E' l = some vs
  | [], _, e => e
  | (_, _, a) :: l, vs, e => by
    simp only [parts3] at e ⊢
    cases ha : a.val E with
    | none => rw [ha] at e; cases e
    | some v =>
      rw [ha] at e; rw [AO.val_le h ha]
      cases hl : parts3 E l with
      | none => simp only [hl] at e; cases e
      | some us => simp only [hl] at e; simp only [parts3_le h hl]; exact e
theorem parts2_le {E E' : Env} (h : E.le E') {sz : Nat} : ∀ {l : List (Nat × AO)} {vs}, parts2 E sz l = some vs → parts2 E' sz l = some vs
  | [], _, e => e
  | (_, a) :: l, vs, e => by
    simp only [parts2] at e ⊢
    cases ha : a.val E with
    | none => rw [ha] at e; cases e
    | some v =>
      rw [ha] at e; rw [AO.val_le h ha]
      cases hl : parts2 E sz l with
      | none => simp only [hl] at e; cases e
      | some us => simp only [hl] at e; simp only [parts2_le h hl]; exact e
theorem bnd_le {E E' : Env} (h : E.le E') {x : Option AO} {d l r : Nat} (e : bnd E x d l = some r) : bnd E' x d l = some r := by
  cases x with
  | none => exact e
  | some x =>
    simp only [bnd] at e ⊢
    cases hv : x.val E with
    | none => rw [hv] at e; cases e
    | some v => rw [hv] at e; rw [AO.val_le h hv]; exact e
theorem AOp.form_le {E E' : Env} (h : E.le E') {o : AOp} {F : Form} (e : o.form E = some F) : o.form E' = some F := by
  cases o with
  | mv a =>
    simp only [AOp.form, Option.map_eq_some_iff] at e ⊢
    obtain ⟨y, hy, rfl⟩ := e
    exact ⟨y, AO.ev_le h hy, rfl⟩
  | pk c a b =>
    simp only [AOp.form] at e ⊢
    cases hv : c.val E with
    | none => rw [hv] at e; cases e
    | some v =>
      rw [hv] at e; rw [AO.val_le h hv]
      cases v with
      | bool q =>
        cases q with
        | true =>
          simp only [Option.map_eq_some_iff] at e ⊢
          obtain ⟨y, hy, rfl⟩ := e
          exact ⟨y, AO.ev_le h hy, rfl⟩
        | false =>
          simp only [Option.map_eq_some_iff] at e ⊢
          obtain ⟨y, hy, rfl⟩ := e
          exact ⟨y, AO.ev_le h hy, rfl⟩
      | _ => cases e
  | fa a off | nc a =>
    simp only [AOp.form] at e ⊢
    cases hv : a.ev E with
    | none => rw [hv] at e; cases e
    | some y => rw [hv] at e; rw [AO.ev_le h hv]; exact e
  | lv n agg root a =>
    simp only [AOp.form] at e ⊢
    cases hv : a.ev E with
    | none => rw [hv] at e; cases e
    | some y =>
      rw [hv] at e; rw [AO.ev_le h hv]
      cases y with
      | p t o =>
        cases hx : E.x t with
        | none => simp only [hx] at e; cases e
        | some c => simp only [hx] at e; simp only [h.x t c hx]; exact e
      | v x => cases e
  | sv n root a z =>
    simp only [AOp.form] at e ⊢
    cases hv : a.ev E with
    | none => rw [hv] at e; cases e
    | some y =>
      rw [hv] at e; rw [AO.ev_le h hv]
      cases y with
      | p t o =>
        cases hx : E.x t with
        | none => simp only [hx] at e; cases e
        | some c =>
          simp only [hx] at e; simp only [h.x t c hx]
          cases hz : z.val E with
          | none => simp only [hz] at e; cases e
          | some u => simp only [hz] at e; simp only [AO.val_le h hz]; exact e
      | v x => cases e
  | sl sz a lo hi m3 =>
    simp only [AOp.form] at e ⊢
    cases hv : a.val E with
    | none => rw [hv] at e; cases e
    | some v =>
      rw [hv] at e; rw [AO.val_le h hv]
      simp only [Option.map_eq_some_iff] at e ⊢
      obtain ⟨z, hz, rfl⟩ := e
      refine ⟨z, ?_, rfl⟩
      cases v with
      | slice b len cap =>
        simp only [slV] at hz ⊢
        cases h3 : bnd E m3 cap cap with
        | none => simp only [h3] at hz; cases hz
        | some m =>
          simp only [h3] at hz; simp only [bnd_le h h3]
          cases h2 : bnd E hi len m with
          | none => simp only [h2] at hz; cases hz
          | some hh =>
            simp only [h2] at hz; simp only [bnd_le h h2]
            cases h1 : bnd E lo 0 hh with
            | none => simp only [h1] at hz; cases hz
            | some l => simp only [h1] at hz; simp only [bnd_le h h1]; exact hz
      | _ => cases hz
  | bd z ps =>
    simp only [AOp.form] at e ⊢
    cases hv : parts3 E ps with
    | none => rw [hv] at e; cases e
    | some v => rw [hv] at e; rw [parts3_le h hv]; exact e
  | bs ty sz n z ps =>
    simp only [AOp.form] at e ⊢
    cases hv : parts2 E sz ps with
    | none => rw [hv] at e; cases e
    | some v => rw [hv] at e; rw [parts2_le h hv]; exact e
  | mn l | mx l | mf g l | ca g l =>
    simp only [AOp.form] at e ⊢
    cases hv : vals E l with
    | none => rw [hv] at e; cases e
    | some v => rw [hv] at e; rw [vals_le h hv]; exact e
  | cf a l =>
    simp only [AOp.form] at e ⊢
    cases hv : a.val E with
    | none => rw [hv] at e; cases e
    | some v =>
      rw [hv] at e; rw [AO.val_le h hv]
      cases hl : vals E l with
      | none => simp only [hl] at e; split at e <;> cases e
      | some us => simp only [hl] at e; simp only [vals_le h hl]; exact e
  | nz c => exact e
  | hz ty c => exact e
  | bi op a b | eb ng a b | es ng a b | eg ng nn a b | ia sz a b | st n a b | ms ty sz by_ z a b | ap ty sz by_ z a b | cy sz a b =>
    simp only [AOp.form] at e ⊢
    cases hv : a.val E with
    | none => rw [hv] at e; cases e
    | some v =>
      rw [hv] at e; rw [AO.val_le h hv]
      cases hw : b.val E with
      | none => simp only [hw] at e; (repeat' split at e) <;> cases e
      | some u => simp only [hw] at e; simp only [AO.val_le h hw]; exact e
  | _ =>
    simp only [AOp.form] at e ⊢
    cases hv : AO.val E (by assumption) with
    | none => rw [hv] at e; cases e
    | some v => rw [hv] at e; rw [AO.val_le h hv]; exact e
theorem AOper.form_le {E E' : Env} (h : E.le E') {o : AOper} {F : Form} (e : o.form E = some F) : o.form E' = some F := by
  unfold AOper.form at e ⊢
  cases hg : o.g with
  | none => simp only [hg] at e ⊢; exact AOp.form_le h e
  | some q =>
    obtain ⟨t, b⟩ := q
    simp only [hg] at e ⊢
    cases hr : E.r t with
    | none => rw [hr] at e; cases e
    | some y =>
      rw [hr] at e; rw [h.r t y hr]
      cases y with
      | p _ _ => cases e
      | v u => cases u with
        | bool c =>
          simp only at e ⊢
          split
          · rename_i hc; rw [if_pos hc] at e; exact AOp.form_le h e
          · rename_i hc; rw [if_neg hc] at e; exact e
        | _ => exact e

/-- Told slots alone count. -/
class Up (Q : X → Env → Hp → Prop) : Prop where
  up : ∀ x E E' H, E.le E' → Q x E H → Q x E' H
theorem Form.W_le {d : Option Nat} {x : Bool} {E E' : Env} {H : Hp} {K : Env → Hp → Prop} (h : E.le E') (hK : ∀ E E' H, E.le E' → K E H → K E' H) {F : Form} (w : F.W P d x E H K) : F.W P d x E' H K := by
  have pt : ∀ {y H}, K (E.put d y) H → K (E'.put d y) H := fun k => hK _ _ _ (h.put d _) k
  cases F with
  | pv y => exact pt w
  | nv cs => cases d with
    | none => exact w
    | some t => exact hK _ _ _ (h.nv t cs) w
  | sv t cs => exact ⟨w.1, hK _ _ _ (h.sv t cs) w.2⟩
  | lh a n agg => obtain ⟨vs, h1, h2, h3⟩ := w; exact ⟨vs, h1, h2, pt h3⟩
  | sh a vs => obtain ⟨h0, cs, t, h1, h2, h3, h4⟩ := w; exact ⟨h0, cs, t, h1, h2, h3, hK _ _ _ h h4⟩
  | al t cs len => exact fun b hb => pt (w b hb)
  | ca g l => exact CallR.mono w fun v H' ⟨h1, h2⟩ => ⟨h1, pt h2⟩
  | ap t sz bytes base n cap src m =>
    obtain ⟨news, h1, h2, h3, h4, h5⟩ := w
    refine ⟨news, h1, h2, h3, h4, ?_⟩
    split
    · rename_i hc
      rw [if_pos hc] at h5
      rcases h5 with ⟨h5, h6⟩ | ⟨a, cs, t', h5, h6, h7, h8, h9, h10⟩
      · exact .inl ⟨h5, pt h6⟩
      · exact .inr ⟨a, cs, t', h5, h6, h7, h8, h9, pt h10⟩
    · rename_i hc
      rw [if_neg hc] at h5
      obtain ⟨olds, h6, h7, h8⟩ := h5
      exact ⟨olds, h6, h7, fun b c r p1 p2 p3 p4 => pt (h8 b c r p1 p2 p3 p4)⟩
  | cy sz base n src m =>
    obtain ⟨news, h1, h2, h3⟩ := w
    refine ⟨news, h1, h2, ?_⟩
    rcases h3 with ⟨h5, h6⟩ | ⟨a, cs, t', h5, h6, h7, h8, h9, h10⟩
    · exact .inl ⟨h5, pt h6⟩
    · exact .inr ⟨a, cs, t', h5, h6, h7, h8, h9, pt h10⟩
  | cl base vs =>
    rcases w with ⟨h5, h6⟩ | ⟨a, cs, t', h5, h6, h7, h8, h9, h10⟩
    · exact .inl ⟨h5, pt h6⟩
    · exact .inr ⟨a, cs, t', h5, h6, h7, h8, h9, pt h10⟩
theorem AOper.W_le {o : AOper} {E E' : Env} {H : Hp} {K : Env → Hp → Prop} (h : E.le E') (hK : ∀ E E' H, E.le E' → K E H → K E' H) (w : o.W P E H K) : o.W P E' H K := by
  rw [AOper.W_def] at *
  obtain ⟨F, e, w⟩ := w
  exact ⟨F, AOper.form_le h e, Form.W_le h hK w⟩
theorem WL_le : ∀ {l : List AOper} {E E' : Env} {H : Hp} {K : Env → Hp → Prop}, E.le E' → (∀ E E' H, E.le E' → K E H → K E' H) → WL P l E H K → WL P l E' H K
  | [], _, _, _, _, h, hK, w => hK _ _ _ h w
  | o :: l, _, _, _, _, h, hK, w => AOper.W_le (K := fun E' H' => WL P l E' H' _) h (fun _ _ _ h' w' => WL_le (l := l) h' hK w') w
theorem iterW_le {body : Env → Hp → (X → Env → Hp → Prop) → Prop} (hb : ∀ E E' H Q, Up Q → E.le E' → body E H Q → body E' H Q) {Q : X → Env → Hp → Prop} (hQ : Up Q) :
    ∀ n E E' H, E.le E' → iterW body Q n E H → iterW body Q n E' H
  | 0, _, _, _, _, w => w
  | n + 1, E, E', H, h, w => hb _ _ _ _ ⟨fun x E E' H h' w' => by
      cases x with
      | n => exact iterW_le hb hQ n E E' H h' w'
      | x i => exact hQ.up _ _ _ _ h' w'
      | r => exact hQ.up _ _ _ _ h' w'⟩ h w
theorem AC.W_le : ∀ {c : AC} {E E' : Env} {H : Hp} {Q : X → Env → Hp → Prop}, Up Q → E.le E' → c.W P E H Q → c.W P E' H Q
  | .sk, _, _, _, _, u, h, w => u.up _ _ _ _ h w
  | .rg l, _, _, _, _, u, h, w => WL_le h (fun _ _ _ h' w' => u.up _ _ _ _ h' w') w
  | .sq a b, _, _, _, Q, u, h, w => AC.W_le (c := a) ⟨fun x E E' H h' w' => by
      cases x with
      | n => exact AC.W_le (c := b) u h' w'
      | x i => exact u.up _ _ _ _ h' w'
      | r => exact u.up _ _ _ _ h' w'⟩ h w
  | .cd c t e, E, E', _, _, u, h, w => by
    simp only [AC.W] at w ⊢
    cases hv : c.val E with
    | none => rw [hv] at w; exact w.elim
    | some v =>
      rw [hv] at w; rw [AO.val_le h hv]
      cases v with
      | bool b => exact ⟨fun q => AC.W_le (c := t) u h (w.1 q), fun q => AC.W_le (c := e) u h (w.2 q)⟩
      | _ => exact w.elim
  | .bk id c, _, _, _, Q, u, h, w => AC.W_le (c := c) ⟨fun x E E' H h' w' => by
      cases x with
      | n => exact u.up .n _ _ _ h' w'
      | x i =>
        simp only [bkQ] at w' ⊢
        split
        · rename_i hi; rw [if_pos hi] at w'; exact u.up .n _ _ _ h' w'
        · rename_i hi; rw [if_neg hi] at w'; exact u.up (.x i) _ _ _ h' w'
      | r => exact u.up .r _ _ _ h' w'⟩ h w
  | .lp c, _, _, _, _, u, h, ⟨n, w⟩ => ⟨n, iterW_le (body := fun E H Q => c.W P E H Q) (fun _ _ _ _ u' h' w' => AC.W_le (c := c) u' h' w') u n _ _ _ h w⟩
  | .xt id, _, _, _, _, u, h, w => u.up _ _ _ _ h w
  | .rt, _, _, _, _, u, h, w => u.up _ _ _ _ h w

instance up_seq {b : AC} {Q : X → Env → Hp → Prop} [u : Up Q] : Up (seqQ (fun E' H' => AC.W P b E' H' Q) Q) := ⟨fun x E E' H h w => by
  cases x with
  | n => exact AC.W_le u h w
  | x i => exact u.up _ _ _ _ h w
  | r => exact u.up _ _ _ _ h w⟩
instance up_bk {i : Nat} {Q : X → Env → Hp → Prop} [u : Up Q] : Up (bkQ i Q) := ⟨fun x E E' H h w => by
  cases x with
  | n => exact u.up .n _ _ _ h w
  | x j =>
    simp only [bkQ] at w ⊢
    split
    · rename_i hi; rw [if_pos hi] at w; exact u.up .n _ _ _ h w
    · rename_i hi; rw [if_neg hi] at w; exact u.up (.x j) _ _ _ h w
  | r => exact u.up .r _ _ _ h w⟩
theorem AR.val_le {E E' : Env} (h : E.le E') {a : AR} {v : Value} (e : a.val E = some v) : a.val E' = some v := by
  cases a with
  | tm r =>
    simp only [AR.val] at e ⊢
    cases hr : E.r r with
    | none => rw [hr] at e; cases e
    | some y => rw [hr] at e; rw [h.r r y hr]; exact e
  | cl r n agg =>
    simp only [AR.val] at e ⊢
    cases hr : E.r r with
    | none => rw [hr] at e; cases e
    | some y =>
      rw [hr] at e; rw [h.r r y hr]
      cases y with
      | v x => cases e
      | p t o =>
        cases hx : E.x t with
        | none => simp only [hx] at e; cases e
        | some c => simp only [hx] at e; simp only [h.x t c hx]; exact e
theorem resL_le {E E' : Env} (h : E.le E') : ∀ {l : List AR} {vs}, resL E l = some vs → resL E' l = some vs
  | [], _, e => e
  | a :: l, vs, e => by
    simp only [resL] at e ⊢
    cases ha : a.val E with
    | none => rw [ha] at e; cases e
    | some v =>
      rw [ha] at e; rw [AR.val_le h ha]
      cases hl : resL E l with
      | none => simp only [hl] at e; cases e
      | some us => simp only [hl] at e; simp only [resL_le h hl]; exact e
instance up_fin {res : List AR} {R : Value → Hp → Prop} : Up (finQ res R) := ⟨fun x E E' H h w => by
  have key : (∃ v, resV E res = some v ∧ R v H) → ∃ v, resV E' res = some v ∧ R v H := by
    rintro ⟨v, hv, hr⟩
    refine ⟨v, ?_, hr⟩
    unfold resV at hv ⊢
    cases hl : resL E res with
    | none => rw [hl] at hv; cases hv
    | some vs => rw [hl] at hv; rw [resL_le h hl]; exact hv
  cases x with
  | n => exact key w
  | x i => exact w
  | r => exact key w⟩

/-! Slots by a list. -/
def EL (rs : List (Nat × AV)) (xs : List (Nat × List Value)) : Env := { r := fun t => rs.lookup t, x := fun t => xs.lookup t }
theorem EL_nil {E : Env} : (EL [] []).le E := ⟨fun t y h => (by cases h), fun t y h => (by cases h)⟩
theorem EL_r {E : Env} {t : Nat} {y : AV} {rs : List (Nat × AV)} {xs : List (Nat × List Value)} (h : E.r t = some y) (k : (EL rs xs).le E) : (EL ((t, y) :: rs) xs).le E := by
  refine ⟨fun s z e => ?_, k.x⟩
  simp only [EL, List.lookup_cons] at e
  split at e
  · rename_i hs
    have : s = t := by simpa using hs
    subst this
    simp only [Option.some.injEq] at e; subst e; exact h
  · exact k.r s z e
theorem EL_x {E : Env} {t : Nat} {y : List Value} {rs : List (Nat × AV)} {xs : List (Nat × List Value)} (h : E.x t = some y) (k : (EL rs xs).le E) : (EL rs ((t, y) :: xs)).le E := by
  refine ⟨k.r, fun s z e => ?_⟩
  simp only [EL, List.lookup_cons] at e
  split at e
  · rename_i hs
    have : s = t := by simpa using hs
    subst this
    simp only [Option.some.injEq] at e; subst e; exact h
  · exact k.x s z e

/-- What holds behind a round: the slots that are told, the measure less. -/
def Rnd {ι : Type} (rs : ι → List (Nat × AV)) (xs : ι → List (Nat × List Value)) (J : ι → Hp → Prop) (μ : ι → Nat) (n : Nat) (E : Env) (H : Hp) : Prop := ∃ i, μ i < n ∧ (EL (rs i) (xs i)).le E ∧ J i H
instance up_rnd {ι : Type} {rs : ι → List (Nat × AV)} {xs : ι → List (Nat × List Value)} {J : ι → Hp → Prop} {μ : ι → Nat} {n : Nat} {Q : X → Env → Hp → Prop} [u : Up Q] : Up (seqQ (Rnd rs xs J μ n) Q) := ⟨fun x E E' H h w => by
  cases x with
  | n => obtain ⟨i, h1, h2, h3⟩ := w; exact ⟨i, h1, h2.trans h, h3⟩
  | x i => exact u.up _ _ _ _ h w
  | r => exact u.up _ _ _ _ h w⟩
theorem S_lpE {c : AC} {E : Env} {H : Hp} {Q : X → Env → Hp → Prop} [u : Up Q] {ι : Type} (rs : ι → List (Nat × AV)) (xs : ι → List (Nat × List Value)) (J : ι → Hp → Prop) (μ : ι → Nat) (i0 : ι)
    (h0 : (EL (rs i0) (xs i0)).le E) (hJ : J i0 H) (h : ∀ i H, J i H → AC.W P c (EL (rs i) (xs i)) H (seqQ (Rnd rs xs J μ (μ i)) Q)) : AC.W P (.lp c) E H Q := by
  refine S_lp (fun n E H => ∃ i, μ i = n ∧ (EL (rs i) (xs i)).le E ∧ J i H) (μ i0) ⟨i0, rfl, h0, hJ⟩ ?_
  rintro n E H ⟨i, rfl, hE, hJ⟩
  refine AC.W_mono (AC.W_le inferInstance hE (h i H hJ)) fun x E' H' hx => ?_
  cases x with
  | n => obtain ⟨j, h1, h2, h3⟩ := hx; exact ⟨μ j, h1, j, rfl, h2, h3⟩
  | x k => exact hx
  | r => exact hx
end Go.HL
namespace Go.HL
open Go Go.RowKit
set_option linter.unusedVariables false
set_option linter.unusedSimpArgs false
variable {P : Program}
section
variable {E : Env} {H : Hp} {K : Env → Hp → Prop} {Q : X → Env → Hp → Prop} {k : Env → Hp → Prop}
theorem S_q1 {i : Nat} (h : Q (.x i) E H) : seqQ k Q (.x i) E H := h
theorem S_q2 (h : Q .r E H) : seqQ k Q .r E H := h
theorem S_q3 {i : Nat} (h : Q .n E H) : bkQ i Q .n E H := h
theorem S_q4 {i : Nat} (h : Q .n E H) : bkQ i Q (.x i) E H := by simp only [bkQ, if_true]; exact h
theorem S_q5 {i j : Nat} (e : (j == i) = false) (h : Q (.x j) E H) : bkQ i Q (.x j) E H := by
  have : ¬ j = i := by simpa using e
  simp only [bkQ, this, if_false]; exact h
theorem S_q6 {i : Nat} (h : Q .r E H) : bkQ i Q .r E H := h
theorem S_q7 (h : k E H) : seqQ k Q .n E H := h
end
theorem tf {p : Bool} (h : p = true) (h' : p = false) {C : Prop} : C := by rw [h] at h'; cases h'
end Go.HL
namespace Go.HL
open Go Go.RowKit
set_option linter.unusedVariables false
set_option linter.unusedSimpArgs false
variable {P : Program}

theorem add_add (a : Addr) (m j : Nat) : (a.add m).add j = a.add (m + j) := by
  unfold Addr.add
  by_cases hm : m = 0
  · subst hm; simp
  · by_cases hj : j = 0
    · subst hj; simp [hm]
    · have : ¬ (m + j = 0) := by omega
      simp only [hm, hj, this, if_false]
      congr 1
      omega
theorem wrap_nat {n : Nat} (h : n ≤ 9223372036854775807) : IntKind.i64.wrap (n : Int) = (n : Int) := by rw [IntKind.wrap_i64]; omega
theorem wrap_i {n : Int} (h : -9223372036854775808 ≤ n) (h' : n ≤ 9223372036854775807) : IntKind.i64.wrap n = n := by rw [IntKind.wrap_i64]; omega
theorem wrap_succ {n : Nat} (h : n < 9223372036854775807) : IntKind.i64.wrap ((n : Int) + 1) = ((n + 1 : Nat) : Int) := by rw [IntKind.wrap_i64]; omega

theorem HasAll.le {H H' : Hp} (h : H.le H') {A : Option Addr} {vs : List Value} (k : HasAll H A vs) : HasAll H' A vs := by
  rcases k with k | ⟨ad, e, k⟩
  · exact .inl k
  · exact .inr ⟨ad, e, fun i u hu => h.has (k i u hu)⟩
theorem flat_get {α : Type} {enc : α → List Value} {sz : Nat} (hsz : ∀ x, (enc x).length = sz) : ∀ {l : List α} {i j : Nat} {x : α} {u : Value}, l[i]? = some x → (enc x)[j]? = some u → (l.flatMap enc)[i * sz + j]? = some u
  | [], i, j, x, u, h, _ => by simp at h
  | y :: l, 0, j, x, u, h, k => by
    simp only [List.getElem?_cons_zero, Option.some.injEq] at h; subst h
    rw [List.flatMap_cons, Nat.zero_mul, Nat.zero_add, List.getElem?_append_left (List.getElem?_eq_some_iff.1 k).1]; exact k
  | y :: l, i + 1, j, x, u, h, k => by
    simp only [List.getElem?_cons_succ] at h
    rw [List.flatMap_cons, List.getElem?_append_right (by rw [hsz, Nat.succ_mul]; omega), hsz, show (i + 1) * sz + j - sz = i * sz + j by rw [Nat.succ_mul]; omega]
    exact flat_get hsz h k
theorem flat_len {α : Type} {enc : α → List Value} {sz : Nat} (hsz : ∀ x, (enc x).length = sz) (l : List α) : (l.flatMap enc).length = l.length * sz := by
  induction l with
  | nil => simp
  | cons y l ih => rw [List.flatMap_cons, List.length_append, hsz, ih, List.length_cons, Nat.succ_mul]; omega
theorem flat_snoc {α : Type} {enc : α → List Value} (l : List α) (x : α) : (l ++ [x]).flatMap enc = l.flatMap enc ++ enc x := by simp [List.flatMap_append]
/-- An element of a row that is read. -/
theorem HasAll.get {H : Hp} {α : Type} {enc : α → List Value} {sz : Nat} (hsz : ∀ x, (enc x).length = sz) (h0 : 0 < sz) {A : Option Addr} {l : List α} (h : HasAll H A (l.flatMap enc)) {i : Nat} {x : α} (hi : l[i]? = some x) :
    ∃ ad, A = some ad ∧ ∀ j u, (enc x)[j]? = some u → H.Has ((ad.add (i * sz)).add j) u := by
  rcases h with h | ⟨ad, e, h⟩
  · exfalso
    have h1 := flat_len hsz l
    rw [h] at h1
    have h2 : 0 < l.length := by have := (List.getElem?_eq_some_iff.1 hi).1; omega
    have : 0 < l.length * sz := Nat.mul_pos h2 h0
    simp at h1
    omega
  · refine ⟨ad, e, fun j u hu => ?_⟩
    rw [add_add]
    exact h _ u (flat_get hsz hi hu)
theorem HasAll.of_own {H : Hp} {b : Nat} {cs rest : List Value} {t : TypeId} (h : H.own b = some (cs ++ rest, t)) : HasAll H (some ⟨b, 0, none⟩) cs := by
  refine .inr ⟨_, rfl, fun i u hu => .inr ?_⟩
  have hadd : (⟨b, 0, none⟩ : Addr).add i = ⟨b, i, none⟩ := by unfold Addr.add; split <;> simp_all
  rw [hadd]
  exact ⟨rfl, _, _, h, by rw [List.getElem?_append_left (List.getElem?_eq_some_iff.1 hu).1]; exact hu⟩

/-- A row of this call's own (or of one that is handed on). -/
def OwnS (H : Hp) (t : TypeId) (sz : Nat) (v : Value) (n : Nat) (cells : List Value) : Prop :=
  cells.length = n * sz ∧ ((v = .slice none 0 0 ∧ n = 0) ∨ ∃ b cap rest, v = .slice (some ⟨b, 0, none⟩) n cap ∧ H.own b = some (cells ++ rest, t) ∧ n ≤ cap ∧ (cells ++ rest).length = cap * sz)
def FreshV (H : Hp) (v : Value) : Prop := ∀ b, v.ownBlock = some b → H.Fresh b
theorem OwnS.nil (H : Hp) (t : TypeId) (sz : Nat) : OwnS H t sz (.slice none 0 0) 0 [] := ⟨by simp, .inl ⟨rfl, rfl⟩⟩
theorem FreshV.nil (H : Hp) : FreshV H (.slice none 0 0) := fun b h => by simp [Value.ownBlock] at h
theorem OwnS.le {H H' : Hp} (h : H.le H') {t : TypeId} {sz n : Nat} {v : Value} {cells : List Value} (k : OwnS H t sz v n cells) : OwnS H' t sz v n cells := by
  refine ⟨k.1, ?_⟩
  rcases k.2 with k | ⟨b, cap, rest, h1, h2, h3⟩
  · exact .inl k
  · exact .inr ⟨b, cap, rest, h1, h.2 _ _ h2, h3⟩
theorem OwnS.slice {H : Hp} {t : TypeId} {sz n : Nat} {v : Value} {cells : List Value} (k : OwnS H t sz v n cells) : ∃ A cap, v = .slice A n cap ∧ HasAll H A cells := by
  rcases k.2 with ⟨rfl, rfl⟩ | ⟨b, cap, rest, rfl, h2, _⟩
  · refine ⟨none, 0, rfl, .inl ?_⟩
    have := k.1
    exact List.eq_nil_of_length_eq_zero (by simpa using this)
  · exact ⟨_, cap, rfl, HasAll.of_own h2⟩
theorem FreshV.mono {H H' : Hp} (h : ∀ b, H'.Fresh b → H.Fresh b) {v : Value} (k : FreshV H' v) : FreshV H v := fun b hb => h b (k b hb)
theorem Hp.le.fresh {H H' : Hp} (h : H.le H') {b : Nat} (k : H'.Fresh b) : H.Fresh b := by
  refine ⟨?_, fun a ha => by rw [← h.1]; exact k.2 a ha⟩
  cases ho : H.own b with
  | none => rfl
  | some x => have := h.2 b x ho; rw [k.1] at this; cases this

section
variable {E : Env} {H : Hp} {K : Env → Hp → Prop} {l : List AOper} {d : Nat} {op : AOp}
theorem S_ia {sz : Nat} {a i : AO} {x : Bool} {ad : Addr} {len cap j : Nat} {k : IntKind} (ha : a.val E = some (.slice (some ad) len cap)) (hi : i.val E = some (.int k (j : Int))) (h1 : j < len)
    (h : WL P l (E.put (some d) (.v (.pointer (some (ad.add (j * sz)))))) H K) : WL P (⟨some d, .ia sz a i, none, x⟩ :: l) E H K := by
  refine S_pv (y := .v (.pointer (some (ad.add (j * sz))))) ?_ h
  simp only [AOp.form, ha, hi]
  rw [if_pos ⟨by omega, by omega⟩, Int.toNat_natCast]
theorem S_ld {a : Addr} {n : Nat} {agg x : Bool} {vs : List Value} {v : Value} (hf : op.form E = some (.lh a n agg)) (hl : vs.length = n) (hh : ∀ i u, vs[i]? = some u → H.Has (a.add i) u) (hv : mkV agg vs = v) (h : WL P l (E.put (some d) (.v v)) H K) :
    WL P (⟨some d, op, none, x⟩ :: l) E H K := S_lh hf hl hh (by rw [hv]; exact h)
/-- An append to a row of the call's own. -/
theorem S_apO {x : Bool} {H0 : Hp} {t : TypeId} {sz bytes n cap m : Nat} {base src : Option Addr} {cells news : List Value} (hf : op.form E = some (.ap t sz bytes base n cap src m)) (ho : OwnS H t sz (.slice base n cap) n cells) (hF : FreshV H0 (.slice base n cap)) (hle : H0.le H)
    (hs : HasAll H src news) (hl : news.length = m * sz) (h1 : ∀ u ∈ news, u.oneCell' = true) (hb : (n + m) * bytes ≤ 140737488355328) (h63 : n + m ≤ 140737488355328)
    (h : ∀ v' H', OwnS H' t sz v' (n + m) (cells ++ news) → FreshV H0 v' → H0.le H' → WL P l (E.put (some d) (.v v')) H' K) : WL P (⟨some d, op, none, x⟩ :: l) E H K := by
  show AOper.W P _ E H _
  rw [AOper.W_def]
  refine ⟨_, hf, news, hl, hs, hb, h63, ?_⟩
  have hcl : (cells ++ news).length = (n + m) * sz := by rw [List.length_append, ho.1, hl, Nat.add_mul]
  by_cases hr : n + m ≤ cap
  · rw [if_pos hr]
    rcases ho.2 with ⟨he, hn⟩ | ⟨b, cap', rest, he, hown, hle2, hlen⟩
    · injection he with e1 e2 e3
      subst e1 e3
      have hm : m = 0 := by omega
      subst hm
      have hnews : news = [] := List.eq_nil_of_length_eq_zero (by simpa using hl)
      subst hnews
      refine .inl ⟨rfl, h _ H ⟨hcl, .inl ⟨?_, by omega⟩⟩ ?_ hle⟩
      · rw [e2]
      · exact fun b hb => by simp [Value.ownBlock] at hb
    · injection he with e1 e2 e3
      subst e1 e3
      have hsz : n * sz + m * sz ≤ cap * sz := by rw [← Nat.add_mul]; exact Nat.mul_le_mul_right _ hr
      refine .inr ⟨_, cells ++ rest, t, rfl, rfl, hown, by rw [hlen]; simp only [Nat.zero_add]; exact Nat.mul_le_mul_right _ hr, h1, ?_⟩
      have hspl : splice (cells ++ rest) (0 + n * sz) news = (cells ++ news) ++ rest.drop news.length := by
        unfold splice
        rw [Nat.zero_add, ← ho.1, List.take_left', List.drop_append, List.drop_of_length_le (by omega), List.nil_append]
        · congr 2
          omega
        · rfl
      rw [hspl]
      have hfb : H0.Fresh b := hF b rfl
      refine h _ _ ⟨hcl, .inr ⟨b, cap, rest.drop news.length, rfl, upd_eq _ _ _, hr, ?_⟩⟩ (fun b' hb' => hF b' hb') ?_
      · rw [List.length_append, hcl, List.length_drop]
        rw [List.length_append, ho.1] at hlen
        rw [Nat.add_mul]
        omega
      · refine ⟨hle.1, fun b' z hz => ?_⟩
        have hne : b' ≠ b := fun e => by subst e; rw [hfb.1] at hz; cases hz
        simp only [Hp.set, upd_ne _ _ hne]; exact hle.2 b' z hz
  · rw [if_neg hr]
    obtain ⟨A, cap', he, hA⟩ := ho.slice
    injection he with e1 e2 e3
    subst e1
    refine ⟨cells, ho.1, hA, fun b cap'' rest hc hcm hrest hfr => ?_⟩
    refine h _ _ ⟨hcl, .inr ⟨b, cap'', rest, rfl, upd_eq _ _ _, hc, ?_⟩⟩ (fun b' hb' => ?_) ?_
    · rw [List.length_append, hcl, hrest, ← Nat.add_mul]
      congr 1
      omega
    · simp only [Value.ownBlock, Option.some.injEq] at hb'
      subst hb'; exact hle.fresh hfr
    · exact hle.trans (hfr.le _)
end
end Go.HL
namespace Go.HL
open Go Go.RowKit
set_option linter.unusedVariables false
set_option linter.unusedSimpArgs false
variable {P : Program}

theorem set_set (H : Hp) (b : Nat) (c c' : List Value × TypeId) : (H.set b c).set b c' = H.set b c' := by
  refine Hp.eq ?_ rfl ?_
  · funext i; simp only [Hp.set, upd]; split <;> rfl
  · show max (max H.lim (b + 1)) (b + 1) = max H.lim (b + 1); omega
theorem add0 (b k : Nat) : (⟨b, 0, none⟩ : Addr).add k = ⟨b, k, none⟩ := by unfold Addr.add; split <;> simp_all
theorem addk (b j k : Nat) : (⟨b, j, none⟩ : Addr).add k = ⟨b, j + k, none⟩ := by unfold Addr.add; split <;> simp_all
theorem set_own (H : Hp) (b : Nat) (c : List Value × TypeId) : (H.set b c).own b = some c := upd_eq _ _ _
theorem set_own_ne (H : Hp) {b b' : Nat} (c : List Value × TypeId) (h : b' ≠ b) : (H.set b c).own b' = H.own b' := upd_ne _ _ h

/-- A row by what its elements stand for. -/
def RdG {α : Type} (R : Hp → α → List Value → Prop) (H : Hp) (v : Value) (l : List α) : Prop :=
  ∃ (A : Option Addr) (cap : Nat) (css : List (List Value)), v = .slice A l.length cap ∧ css.length = l.length ∧ (∀ (i : Nat) (x : α), l[i]? = some x → ∃ cs, css[i]? = some cs ∧ R H x cs) ∧ HasAll H A css.flatten
def RdS {α : Type} (enc : α → List Value) (H : Hp) (v : Value) (l : List α) : Prop := ∃ A cap, v = .slice A l.length cap ∧ HasAll H A (l.flatMap enc)
theorem RdS.le {α : Type} {enc : α → List Value} {H H' : Hp} (h : H.le H') {v : Value} {l : List α} (k : RdS enc H v l) : RdS enc H' v l := by
  obtain ⟨A, cap, e, k⟩ := k; exact ⟨A, cap, e, k.le h⟩
theorem RdG.le {α : Type} {R : Hp → α → List Value → Prop} (hR : ∀ {H H' x cs}, H.le H' → R H x cs → R H' x cs) {H H' : Hp} (h : H.le H') {v : Value} {l : List α} (k : RdG R H v l) : RdG R H' v l := by
  obtain ⟨A, cap, css, e, h1, h2, k⟩ := k
  exact ⟨A, cap, css, e, h1, fun i x hx => by obtain ⟨cs, a, b⟩ := h2 i x hx; exact ⟨cs, a, hR h b⟩, k.le h⟩
theorem flatten_get {sz : Nat} : ∀ {css : List (List Value)} (_ : ∀ cs ∈ css, cs.length = sz) {i j : Nat} {cs : List Value} {u : Value}, css[i]? = some cs → cs[j]? = some u → css.flatten[i * sz + j]? = some u
  | [], _, i, j, cs, u, h, _ => by simp at h
  | y :: l, hl, 0, j, cs, u, h, k => by
    simp only [List.getElem?_cons_zero, Option.some.injEq] at h; subst h
    rw [List.flatten_cons, Nat.zero_mul, Nat.zero_add, List.getElem?_append_left (List.getElem?_eq_some_iff.1 k).1]; exact k
  | y :: l, hl, i + 1, j, cs, u, h, k => by
    simp only [List.getElem?_cons_succ] at h
    have hy : y.length = sz := hl y (by simp)
    rw [List.flatten_cons, List.getElem?_append_right (by rw [hy, Nat.succ_mul]; omega), hy, show (i + 1) * sz + j - sz = i * sz + j by rw [Nat.succ_mul]; omega]
    exact flatten_get (fun c hc => hl c (by simp [hc])) h k
theorem RdG.get {α : Type} {R : Hp → α → List Value → Prop} {sz : Nat} (hsz : ∀ {H x cs}, R H x cs → cs.length = sz) (h0 : 0 < sz) {H : Hp} {A : Option Addr} {l : List α} {css : List (List Value)} (hl : css.length = l.length)
    (h2 : ∀ (i : Nat) (x : α), l[i]? = some x → ∃ cs, css[i]? = some cs ∧ R H x cs) (h : HasAll H A css.flatten) {i : Nat} {x : α} (hi : l[i]? = some x) :
    ∃ ad cs, A = some ad ∧ R H x cs ∧ ∀ j u, cs[j]? = some u → H.Has ((ad.add (i * sz)).add j) u := by
  obtain ⟨cs, hc, hr⟩ := h2 i x hi
  have hall : ∀ c ∈ css, c.length = sz := by
    intro c hc
    obtain ⟨j, hj, e⟩ := List.getElem_of_mem hc
    have hj' : j < l.length := by omega
    obtain ⟨cs', e', hr'⟩ := h2 j _ (List.getElem?_eq_getElem hj')
    rw [List.getElem?_eq_getElem hj, e] at e'
    rw [show c = cs' from Option.some.inj e']
    exact hsz hr'
  rcases h with h | ⟨ad, e, h⟩
  · exfalso
    have hlen := hsz hr
    have : cs[0]? ≠ none := by simp; intro e; simp [e] at hlen; omega
    cases hu : cs[0]? with
    | none => exact this hu
    | some u =>
      have := flatten_get hall hc hu
      rw [h] at this; simp at this
  · refine ⟨ad, cs, e, hr, fun j u hu => ?_⟩
    rw [add_add]
    exact h _ u (flatten_get hall hc hu)
theorem get_lt {α : Type} {l : List α} {i : Nat} (h : i < l.length) : ∃ x, l[i]? = some x := ⟨_, List.getElem?_eq_getElem h⟩
theorem beq_take {α : Type} [BEq α] [LawfulBEq α] {la lb : List α} (hl : la.length = lb.length) {i : Nat} {x y : α} (ha : la[i]? = some x) (hb : lb[i]? = some y) (ht : la.take i = lb.take i) (e : x = y) : la.take (i + 1) = lb.take (i + 1) := by
  rw [List.take_add_one, List.take_add_one, ht, ha, hb, e]
theorem beq_ne {α : Type} [BEq α] [LawfulBEq α] {la lb : List α} {i : Nat} {x y : α} (ha : la[i]? = some x) (hb : lb[i]? = some y) (e : x ≠ y) : (la == lb) = false := by
  cases h : la == lb with
  | false => rfl
  | true =>
    have := eq_of_beq h
    subst this
    rw [ha] at hb
    exact absurd (Option.some.inj hb) e
theorem beq_take_all {α : Type} [BEq α] [LawfulBEq α] {la lb : List α} (hl : la.length = lb.length) {i : Nat} (hi : la.length ≤ i) (ht : la.take i = lb.take i) : (la == lb) = true := by
  rw [List.take_of_length_le hi, List.take_of_length_le (by omega)] at ht
  simp [ht]
theorem beq_len {α : Type} [BEq α] [LawfulBEq α] {la lb : List α} (hl : la.length ≠ lb.length) : (la == lb) = false := by
  cases h : la == lb with
  | false => rfl
  | true => exact absurd (congrArg List.length (eq_of_beq h)) hl

/-! Rows that are filled, and rows that are marked. -/
theorem set_id {H : Hp} {b : Nat} {c : List Value × TypeId} (h : H.own b = some c) : H.set b c = H := by
  refine Hp.eq ?_ rfl ?_
  · funext i; simp only [Hp.set, upd]; split
    · rename_i e; rw [e, h]
    · rfl
  · show max H.lim (b + 1) = H.lim
    have : ¬ H.lim ≤ b := fun e => by rw [(H.wf b e).1] at h; cases h
    omega
theorem rep_flat (n : Nat) {zero : List Value} {sz : Nat} (hz : zero.length = sz) : (List.replicate n zero).flatten.length = n * sz := by
  induction n with
  | zero => simp
  | succ n ih => rw [List.replicate_succ, List.flatten_cons, List.length_append, ih, hz, Nat.succ_mul]; omega
theorem fill_len {α : Type} {enc : α → List Value} {sz : Nat} (hsz : ∀ x, (enc x).length = sz) {zero : List Value} (hz : zero.length = sz) (l : List α) {i : Nat} (hi : i ≤ l.length) :
    ((l.take i).flatMap enc ++ (List.replicate (l.length - i) zero).flatten).length = l.length * sz := by
  rw [List.length_append, flat_len hsz, rep_flat _ hz, List.length_take, Nat.min_eq_left hi, ← Nat.add_mul]
  congr 1; omega
theorem splice_mid {P cs S vs : List Value} {k : Nat} (hP : P.length = k) (hv : vs.length = cs.length) : splice (P ++ (cs ++ S)) k vs = P ++ (vs ++ S) := by
  subst hP
  unfold splice
  rw [List.take_left' rfl, List.append_assoc, List.drop_append, List.drop_of_length_le (by omega), List.nil_append]
  congr 2
  rw [show P.length + vs.length - P.length = cs.length by omega, List.drop_left' rfl]
theorem splice_one {P cs S : List Value} {k j : Nat} {u : Value} (hP : P.length = k) (hj : j < cs.length) : splice (P ++ (cs ++ S)) (k + j) [u] = P ++ (cs.set j u ++ S) := by
  have h1 : P ++ (cs ++ S) = (P ++ cs.take j) ++ ([cs[j]] ++ (cs.drop (j + 1) ++ S)) := by
    simp only [List.append_assoc]
    congr 1
    rw [← List.append_assoc [cs[j]], ← List.append_assoc (cs.take j), ← List.append_assoc]
    congr 1
    simp
  rw [h1, splice_mid (P := P ++ cs.take j) (cs := [cs[j]]) (vs := [u]) (by simp; omega) rfl]
  simp only [List.append_assoc]
  congr 1
  rw [List.set_eq_take_append_cons_drop, if_pos hj]
  simp
theorem fill_step {α : Type} {enc : α → List Value} {sz : Nat} (hsz : ∀ x, (enc x).length = sz) {zero : List Value} (hz : zero.length = sz) {l : List α} {i : Nat} {x : α} (hx : l[i]? = some x) :
    splice ((l.take i).flatMap enc ++ (List.replicate (l.length - i) zero).flatten) (i * sz) (enc x) = (l.take (i + 1)).flatMap enc ++ (List.replicate (l.length - (i + 1)) zero).flatten := by
  have hi : i < l.length := (List.getElem?_eq_some_iff.1 hx).1
  rw [show l.length - i = (l.length - (i + 1)) + 1 by omega, List.replicate_succ, List.flatten_cons, splice_mid (by rw [flat_len hsz, List.length_take, Nat.min_eq_left (by omega)]) (by rw [hsz, hz]), List.take_add_one, hx]
  simp [List.flatMap_append]
theorem flat_split {α : Type} {enc : α → List Value} {l : List α} {i : Nat} {x : α} (hx : l[i]? = some x) : (l.drop i).flatMap enc = enc x ++ (l.drop (i + 1)).flatMap enc := by
  have hi := List.getElem?_eq_some_iff.1 hx
  rw [List.drop_eq_getElem_cons hi.1, List.flatMap_cons, hi.2]

section
variable {E : Env} {H : Hp} {K : Env → Hp → Prop} {l : List AOper} {d : Nat} {op : AOp}
theorem S_inc {a : AO} {k : Nat} {x : Bool} (ha : a.val E = some (vi (k : Int))) (hk : k < 9223372036854775807) (h : WL P l (E.put (some d) (.v (vi ((k + 1 : Nat) : Int)))) H K) : WL P (⟨some d, .bi .add a (ki 1), none, x⟩ :: l) E H K := by
  refine S_pv (y := .v (vi ((k + 1 : Nat) : Int))) ?_ h
  have : binV .add (vi (k : Int)) (vi 1) = some (vi (IntKind.i64.wrap ((k : Int) + 1))) := rfl
  have h1 : (ki 1).val E = some (vi 1) := rfl
  simp only [AOp.form, ha, h1, this, wrap_succ hk, Option.map]
theorem S_ms {t : TypeId} {sz bytes n : Nat} {zero : List Value} {k k' : IntKind} {a c : AO} {x : Bool} (ha : a.val E = some (.int k (n : Int))) (hc : c.val E = some (.int k' (n : Int))) (h1 : n * bytes ≤ 140737488355328) (h2 : n ≤ 140737488355328)
    (h : ∀ b, H.Fresh b → WL P l (E.put (some d) (.v (.slice (some ⟨b, 0, none⟩) n n))) (H.set b ((List.replicate n zero).flatten, t)) K) : WL P (⟨some d, .ms t sz bytes zero a c, none, x⟩ :: l) E H K := by
  refine S_al (t := t) (cs := (List.replicate n zero).flatten) (len := some n) ?_ h
  simp only [AOp.form, ha, hc, Int.toNat_natCast]
  rw [if_pos ⟨trivial, by omega, h1, by omega⟩]
theorem S_ld1 {a : Addr} {x : Bool} {u : Value} (hf : op.form E = some (.lh a 1 false)) (hh : H.Has a u) (h : WL P l (E.put (some d) (.v u)) H K) : WL P (⟨some d, op, none, x⟩ :: l) E H K := by
  refine S_lh (vs := [u]) hf rfl (fun i w hw => ?_) h
  cases i with
  | zero =>
    simp only [List.getElem?_cons_zero, Option.some.injEq] at hw
    subst hw
    have : a.add 0 = a := by unfold Addr.add; simp
    rw [this]; exact hh
  | succ i => simp at hw
/-- A whole element stored into an own row. -/
theorem S_stE {ad : Addr} {b k : Nat} {vs cs cs' : List Value} {t : TypeId} {x : Bool} (hf : op.form E = some (.sh ad vs)) (had : ad = ⟨b, k, none⟩) (hl : k + vs.length ≤ cs.length) (hs : splice cs k vs = cs')
    (h : WL P l E (H.set b (cs', t)) K) : WL P (⟨none, op, none, x⟩ :: l) E (H.set b (cs, t)) K := by
  subst had
  refine S_sh hf rfl (set_own _ _ _) hl ?_
  rw [set_set, hs]; exact h
/-- One field of an element. -/
theorem S_stP {ad : Addr} {b k j : Nat} {u : Value} {PP cs S : List Value} {t : TypeId} {x : Bool} (hP : PP.length = k) (hf : op.form E = some (.sh ad [u])) (had : ad = ⟨b, k + j, none⟩) (hj : j < cs.length)
    (h : WL P l E (H.set b (PP ++ (cs.set j u ++ S), t)) K) : WL P (⟨none, op, none, x⟩ :: l) E (H.set b (PP ++ (cs ++ S), t)) K := by
  refine S_stE hf had ?_ (splice_one hP hj) h
  simp only [List.length_append, List.length_cons, List.length_nil]; omega
end

/-- Blocks of a kind may turn, their shape stays. -/
def Msk (S : Nat → Prop) (H H' : Hp) : Prop := H'.ro = H.ro ∧ (∀ b, ¬ S b → H'.own b = H.own b) ∧ ∀ b cs t, H.own b = some (cs, t) → ∃ cs', H'.own b = some (cs', t) ∧ cs'.length = cs.length
theorem Msk.refl (S : Nat → Prop) (H : Hp) : Msk S H H := ⟨rfl, fun _ _ => rfl, fun b cs t h => ⟨cs, h, rfl⟩⟩
theorem Msk.trans {S : Nat → Prop} {A B C : Hp} (h : Msk S A B) (k : Msk S B C) : Msk S A C :=
  ⟨k.1.trans h.1, fun b hb => (k.2.1 b hb).trans (h.2.1 b hb), fun b cs t e => by
    obtain ⟨c1, h1, h2⟩ := h.2.2 b cs t e
    obtain ⟨c2, h3, h4⟩ := k.2.2 b c1 t h1
    exact ⟨c2, h3, h4.trans h2⟩⟩
theorem Msk.set {S : Nat → Prop} {H : Hp} {b : Nat} {cs cs' : List Value} {t : TypeId} (hb : S b) (h : H.own b = some (cs, t)) (hl : cs'.length = cs.length) : Msk S H (H.set b (cs', t)) := by
  refine ⟨rfl, fun b' hb' => set_own_ne _ _ (fun e => hb' (e ▸ hb)), fun b' c t' e => ?_⟩
  by_cases hbb : b' = b
  · subst hbb
    rw [h] at e
    obtain ⟨rfl, rfl⟩ := Prod.mk.inj (Option.some.inj e)
    exact ⟨cs', set_own _ _ _, hl⟩
  · exact ⟨c, by rw [set_own_ne _ _ hbb]; exact e, rfl⟩
theorem Msk.le {S : Nat → Prop} {H0 H H' : Hp} (h : Msk S H H') (hS : ∀ b, S b → H0.own b = none) (k : H0.le H) : H0.le H' :=
  ⟨h.1.trans k.1, fun b x e => by rw [h.2.1 b (fun hs => by rw [hS b hs] at e; cases e)]; exact k.2 b x e⟩
end Go.HL
namespace Go.HL
theorem drop_split {sz : Nat} (cells : List Value) (i : Nat) : cells.drop (i * sz) = (cells.drop (i * sz)).take sz ++ cells.drop ((i + 1) * sz) := by
  conv => lhs; rw [← List.take_append_drop sz (cells.drop (i * sz))]
  rw [List.drop_drop, Nat.succ_mul]
theorem take_len {sz : Nat} {cells : List Value} {i n : Nat} (hl : cells.length = n * sz) (hi : i < n) : ((cells.drop (i * sz)).take sz).length = sz := by
  rw [List.length_take, List.length_drop, hl]
  have : (i + 1) * sz ≤ n * sz := Nat.mul_le_mul_right _ hi
  rw [Nat.succ_mul] at this
  omega
theorem len1 {cs : List Value} (h : cs.length = 1) : ∃ a, cs = [a] := by
  match cs, h with
  | [a], _ => exact ⟨a, rfl⟩
theorem len2 {cs : List Value} (h : cs.length = 2) : ∃ a b, cs = [a, b] := by
  match cs, h with
  | [a, b], _ => exact ⟨a, b, rfl⟩
theorem len3 {cs : List Value} (h : cs.length = 3) : ∃ a b c, cs = [a, b, c] := by
  match cs, h with
  | [a, b, c], _ => exact ⟨a, b, c, rfl⟩
theorem len4 {cs : List Value} (h : cs.length = 4) : ∃ a b c d, cs = [a, b, c, d] := by
  match cs, h with
  | [a, b, c, d], _ => exact ⟨a, b, c, d, rfl⟩
theorem len5 {cs : List Value} (h : cs.length = 5) : ∃ a b c d e, cs = [a, b, c, d, e] := by
  match cs, h with
  | [a, b, c, d, e], _ => exact ⟨a, b, c, d, e, rfl⟩
theorem len6 {cs : List Value} (h : cs.length = 6) : ∃ a b c d e f, cs = [a, b, c, d, e, f] := by
  match cs, h with
  | [a, b, c, d, e, f], _ => exact ⟨a, b, c, d, e, f, rfl⟩
/-- A row of which the elements are told by their places. -/
def mks {α : Type} (mk : Nat → α) (sz k n : Nat) : List α := (List.range n).map fun i => mk (k + sz * i)
theorem mks_succ {α : Type} (mk : Nat → α) (sz k n : Nat) : mks mk sz k (n + 1) = mks mk sz k n ++ [mk (k + sz * n)] := by simp [mks, List.range_succ]
theorem mks_len {α : Type} (mk : Nat → α) (sz k n : Nat) : (mks mk sz k n).length = n := by simp [mks]
theorem mks_get {α : Type} (mk : Nat → α) (sz k : Nat) {n i : Nat} (h : i < n) : (mks mk sz k n)[i]? = some (mk (k + sz * i)) := by simp [mks, h]
end Go.HL
namespace Go.HL
open Go Go.RowKit
def sumL {α : Type} (f : α → Nat) (l : List α) : Nat := (l.map f).sum
theorem sumL_nil {α : Type} (f : α → Nat) : sumL f [] = 0 := rfl
theorem sumL_take {α : Type} {f : α → Nat} {l : List α} {i : Nat} {x : α} (hx : l[i]? = some x) : sumL f (l.take (i + 1)) = sumL f (l.take i) + f x := by
  rw [List.take_add_one, hx]
  simp [sumL]
theorem sumL_le {α : Type} (f : α → Nat) (l : List α) (i : Nat) : sumL f (l.take i) ≤ sumL f l := by
  conv => rhs; rw [← List.take_append_drop i l]
  simp only [sumL, List.map_append, List.sum_append]
  omega
theorem flatten_split {css : List (List Value)} {i : Nat} {cs : List Value} (h : css[i]? = some cs) : css.flatten = (css.take i).flatten ++ (cs ++ (css.drop (i + 1)).flatten) := by
  have hi := List.getElem?_eq_some_iff.1 h
  conv => lhs; rw [← List.take_append_drop i css, List.drop_eq_getElem_cons hi.1, hi.2]
  simp
theorem flatten_set {css : List (List Value)} {i : Nat} {cs : List Value} (h : i < css.length) : (css.set i cs).flatten = (css.take i).flatten ++ (cs ++ (css.drop (i + 1)).flatten) := by
  rw [List.set_eq_take_append_cons_drop, if_pos h]
  simp
theorem flatten_len {sz : Nat} : ∀ {css : List (List Value)} (_ : ∀ cs ∈ css, cs.length = sz), css.flatten.length = css.length * sz
  | [], _ => by simp
  | y :: l, h => by rw [List.flatten_cons, List.length_append, h y (by simp), flatten_len (fun c hc => h c (by simp [hc])), List.length_cons, Nat.succ_mul]; omega
theorem Hp.le.setF {H H' : Hp} (h : H.le H') {b : Nat} (hb : H.Fresh b) (c : List Value × TypeId) : H.le (H'.set b c) :=
  ⟨h.1, fun b' x e => by
    have hne : b' ≠ b := fun e' => by subst e'; rw [hb.1] at e; cases e
    rw [set_own_ne _ _ hne]; exact h.2 b' x e⟩
theorem fresh_ne {H : Hp} {b b' : Nat} {c : List Value × TypeId} (h : H.Fresh b) (k : H.own b' = some c) : b ≠ b' := fun e => by subst e; rw [h.1] at k; cases k
theorem Has.of_own {H : Hp} {b k : Nat} {cs : List Value} {t : TypeId} {u : Value} (h : H.own b = some (cs, t)) (hu : cs[k]? = some u) : H.Has ⟨b, k, none⟩ u := .inr ⟨rfl, cs, t, h, hu⟩
theorem mid_get {P cs S : List Value} {k j : Nat} {u : Value} (hP : P.length = k) (h : cs[j]? = some u) : (P ++ (cs ++ S))[k + j]? = some u := by
  have hj := (List.getElem?_eq_some_iff.1 h).1
  rw [List.getElem?_append_right (by omega), show k + j - P.length = j by omega, List.getElem?_append_left hj]; exact h
section
variable {P : Program} {E : Env} {H : Hp} {K : Env → Hp → Prop} {l : List AOper} {d : Nat} {op : AOp}
theorem S_stF {ad : Addr} {b k : Nat} {vs cs cs' : List Value} {t : TypeId} {x : Bool} (hf : op.form E = some (.sh ad vs)) (had : ad = ⟨b, k, none⟩) (ho : H.own b = some (cs, t)) (hl : k + vs.length ≤ cs.length) (hs : splice cs k vs = cs')
    (h : WL P l E (H.set b (cs', t)) K) : WL P (⟨none, op, none, x⟩ :: l) E H K := by
  subst had
  refine S_sh hf rfl ho hl ?_
  rw [hs]; exact h
theorem S_stQ {ad : Addr} {b k j : Nat} {u : Value} {PP cs S : List Value} {t : TypeId} {x : Bool} (hP : PP.length = k) (hf : op.form E = some (.sh ad [u])) (had : ad = ⟨b, k + j, none⟩) (ho : H.own b = some (PP ++ (cs ++ S), t)) (hj : j < cs.length)
    (h : WL P l E (H.set b (PP ++ (cs.set j u ++ S), t)) K) : WL P (⟨none, op, none, x⟩ :: l) E H K := by
  refine S_stF hf had ho ?_ (splice_one hP hj) h
  simp only [List.length_append, List.length_cons, List.length_nil]; omega
end
theorem Msk.mono {S S' : Nat → Prop} {H H' : Hp} (h : Msk S H H') (k : ∀ b, S b → S' b) : Msk S' H H' := ⟨h.1, fun b hb => h.2.1 b (fun hs => hb (k b hs)), h.2.2⟩
end Go.HL
namespace Go.HL
section
variable {P : Program} {E : Env} {H : Hp} {K : Env → Hp → Prop} {l : List AOper} {d : Nat} {op : AOp}
theorem S_dec {a : AO} {k : Nat} {x : Bool} (ha : a.val E = some (vi (k : Int))) (h0 : 0 < k) (hk : k < 9223372036854775807) (h : WL P l (E.put (some d) (.v (vi ((k - 1 : Nat) : Int)))) H K) : WL P (⟨some d, .bi .sub a (ki 1), none, x⟩ :: l) E H K := by
  refine S_pv (y := .v (vi ((k - 1 : Nat) : Int))) ?_ h
  have : binV .sub (vi (k : Int)) (vi 1) = some (vi (IntKind.i64.wrap ((k : Int) - 1))) := rfl
  have h1 : (ki 1).val E = some (vi 1) := rfl
  have h2 : IntKind.i64.wrap ((k : Int) - 1) = ((k - 1 : Nat) : Int) := by rw [wrap_i (by omega) (by omega)]; omega
  simp only [AOp.form, ha, h1, this, h2, Option.map]
end
end Go.HL
open Go Go.HL Go.Proofs
namespace Go.Proofs.Ytbmoifddenagiaa.C
/-- laws.FnExactTakeSave -/
def c3 : AF := .mk 93 1 (.sq (.rg [o 2 (.mv (.c (.bool false)))]) (.sq (.sq (.rg [o 13 (.mv (.r 0)), o 14 (.ln (.r 13)), o 15 (.bi .gtr (.r 14) (ki 1048576))]) (.cd (.r 15) (.sq (.rg [o 2 (.mv (.c (.bool true)))]) .rt) .sk)) (.sq (.rg [o 17 (.mv (.r 0)), o 18 (.ca 13 [.r 17]), o 19 (.ca 12 [.r 18]), o 16 (.mv (.r 19)), o 20 (.ex (.r 16) 0), o 21 (.ex (.r 16) 1), o 3 (.nz [.int .i64 0, .slice none 0 0, .int .i64 0, .int .i64 0, .int .i64 0]), oN (.sv 5 3 (.r 3) (.r 20)), o 4 (.mv (.r 21))]) (.sq (.rg [o 22 (.mv (.r 0)), o 23 (.ca 13 [.r 22]), o 5 (.mv (.r 23))]) (.sq (.rg [o 25 (.mv (.r 5)), o 26 (.ca 14 [.r 25]), o 24 (.mv (.r 26)), o 27 (.ex (.r 24) 0), o 28 (.ex (.r 24) 1), o 6 (.nz [.int .i64 0, .slice none 0 0, .int .i64 0, .int .i64 0, .int .i64 0]), oN (.sv 5 6 (.r 6) (.r 27)), o 7 (.mv (.r 28))]) (.sq (.sq (.rg [o 29 (.lv 5 true 6 (.r 6)), o 30 (.lv 5 true 3 (.r 3)), o 31 (.ca 15 [.r 29, .r 30]), o 32 (.un .not (.r 31)), o 33 (.mv (.r 32)), g 34 (33, false) (.mv (.r 7)), g 35 (33, false) (.mv (.r 4)), g 36 (33, false) (.bi .neq (.r 34) (.r 35)), o 37 (.pk (.r 33) (.c (.bool true)) (.r 36))]) (.cd (.r 37) (.sq (.rg [o 2 (.mv (.c (.bool false)))]) .rt) .sk)) (.sq (.sq (.rg [o 38 (.mv (.r 5)), o 39 (.mv (.r 0)), o 40 (.ca 13 [.r 39]), o 41 (.ca 16 [.r 38, .r 40]), o 42 (.un .not (.r 41))]) (.cd (.r 42) (.sq (.rg [o 2 (.mv (.c (.bool false)))]) .rt) .sk)) (.sq (.rg [o 8 (.mv (ki 1))]) (.sq (.rg [o 43 (.mv (.r 5)), o 44 (.mv (.r 8)), o 45 (.ca 17 [.r 43, .r 44]), o 8 (.mv (.r 45))]) (.sq (.sq (.rg [o 46 (.mv (.r 8)), o 47 (.bi .lss (.r 46) (ki 0)), o 48 (.mv (.r 47)), g 49 (48, false) (.lv 5 true 6 (.r 6)), g 50 (48, false) (.lv 5 true 3 (.r 3)), g 51 (48, false) (.ca 15 [.r 49, .r 50]), g 52 (48, false) (.un .not (.r 51)), o 53 (.pk (.r 48) (.c (.bool true)) (.r 52)), o 54 (.mv (.r 53)), g 55 (54, false) (.mv (.r 7)), g 56 (54, false) (.mv (.r 4)), g 57 (54, false) (.bi .neq (.r 55) (.r 56)), o 58 (.pk (.r 54) (.c (.bool true)) (.r 57))]) (.cd (.r 58) (.sq (.rg [o 2 (.mv (.c (.bool false)))]) .rt) .sk)) (.sq (.rg [o 9 (.mv (ki 1))]) (.sq (.rg [o 59 (.lv 5 true 6 (.r 6)), o 60 (.mv (.r 9)), o 61 (.ca 18 [.r 59, .r 60]), o 9 (.mv (.r 61))]) (.sq (.rg [o 10 (.mv (ki 1))]) (.sq (.rg [o 62 (.lv 5 true 6 (.r 6)), o 63 (.mv (.r 10)), o 64 (.ca 19 [.r 62, .r 63]), o 10 (.mv (.r 64))]) (.sq (.sq (.rg [o 65 (.mv (.r 10)), o 66 (.bi .lss (.r 65) (ki 0))]) (.cd (.r 66) (.sq (.rg [o 2 (.mv (.c (.bool false)))]) .rt) .sk)) (.sq (.sq (.rg [o 67 (.mv (.r 10)), o 68 (.mv (.r 9)), o 69 (.bi .neq (.r 67) (.r 68))]) (.cd (.r 69) (.sq (.rg [o 2 (.mv (.c (.bool false)))]) .rt) .sk)) (.sq (.rg [o 71 (.mv (.r 0)), o 72 (.ca 13 [.r 71]), o 73 (.ca 14 [.r 72]), o 70 (.mv (.r 73)), o 74 (.ex (.r 70) 0), o 75 (.ex (.r 70) 1), o 11 (.nz [.int .i64 0, .slice none 0 0, .int .i64 0, .int .i64 0, .int .i64 0]), oN (.sv 5 11 (.r 11) (.r 74)), o 12 (.mv (.r 75))]) (.sq (.sq (.rg [o 76 (.lv 5 true 11 (.r 11)), o 77 (.lv 5 true 3 (.r 3)), o 78 (.ca 15 [.r 76, .r 77]), o 79 (.un .not (.r 78)), o 80 (.mv (.r 79)), g 81 (80, false) (.mv (.r 12)), g 82 (80, false) (.mv (.r 4)), g 83 (80, false) (.bi .neq (.r 81) (.r 82)), o 84 (.pk (.r 80) (.c (.bool true)) (.r 83))]) (.cd (.r 84) (.sq (.rg [o 2 (.mv (.c (.bool false)))]) .rt) .sk)) (.sq (.rg [o 10 (.mv (ki 1))]) (.sq (.rg [o 85 (.lv 5 true 6 (.r 6)), o 86 (.mv (.r 10)), o 87 (.ca 19 [.r 85, .r 86]), o 10 (.mv (.r 87))]) (.sq (.sq (.rg [o 88 (.mv (.r 10)), o 89 (.bi .lss (.r 88) (ki 0))]) (.cd (.r 89) (.sq (.rg [o 2 (.mv (.c (.bool false)))]) .rt) .sk)) (.sq (.sq (.rg [o 90 (.mv (.r 10)), o 91 (.mv (.r 9)), o 92 (.bi .neq (.r 90) (.r 91))]) (.cd (.r 92) (.sq (.rg [o 2 (.mv (.c (.bool false)))]) .rt) .sk)) (.sq (.rg [o 2 (.mv (.c (.bool true)))]) .rt))))))))))))))))))))))) [.tm 2]
theorem t3 : trF Try.prog [3, 6, 11] [(3, 3), (6, 6), (11, 11)] Try.f3 = some c3 := by kernel_rfl
/-- laws.FnExactResumeAt -/
def c4 : AF := .mk 101 2 (.sq (.rg [o 4 (.mv (.c (.bool false)))]) (.sq (.rg [o 5 (.mv (ki 1048576))]) (.sq (.rg [o 16 (.mv (.r 0)), o 17 (.mv (.r 5)), o 18 (.ca 20 [.r 16, .r 17]), o 5 (.mv (.r 18))]) (.sq (.sq (.rg [o 19 (.mv (.r 5)), o 20 (.bi .lss (.r 19) (ki 0))]) (.cd (.r 20) (.sq (.rg [o 4 (.mv (.c (.bool true)))]) .rt) .sk)) (.sq (.rg [o 22 (.mv (.r 0)), o 23 (.ca 22 [.r 22]), o 24 (.mv (.r 1)), o 25 (.ca 21 [.r 23, .r 24]), o 21 (.mv (.r 25)), o 26 (.ex (.r 21) 0), o 27 (.ex (.r 21) 1), o 6 (.nz [.int .i64 0, .slice none 0 0, .int .i64 0, .int .i64 0, .int .i64 0]), oN (.sv 5 6 (.r 6) (.r 26)), o 7 (.mv (.r 27))]) (.sq (.rg [o 28 (.mv (.r 0)), o 29 (.ca 22 [.r 28]), o 8 (.mv (.r 29))]) (.sq (.rg [o 31 (.mv (.r 8)), o 32 (.mv (.r 1)), o 33 (.ca 23 [.r 31, .r 32]), o 30 (.mv (.r 33)), o 34 (.ex (.r 30) 0), o 35 (.ex (.r 30) 1), o 9 (.nz [.int .i64 0, .slice none 0 0, .int .i64 0, .int .i64 0, .int .i64 0]), oN (.sv 5 9 (.r 9) (.r 34)), o 10 (.mv (.r 35))]) (.sq (.sq (.rg [o 36 (.lv 5 true 9 (.r 9)), o 37 (.lv 5 true 6 (.r 6)), o 38 (.ca 15 [.r 36, .r 37]), o 39 (.un .not (.r 38)), o 40 (.mv (.r 39)), g 41 (40, false) (.mv (.r 10)), g 42 (40, false) (.mv (.r 7)), g 43 (40, false) (.eb true (.r 41) (.r 42)), o 44 (.pk (.r 40) (.c (.bool true)) (.r 43))]) (.cd (.r 44) (.sq (.rg [o 4 (.mv (.c (.bool false)))]) .rt) .sk)) (.sq (.sq (.rg [o 45 (.mv (.r 8)), o 46 (.mv (.r 0)), o 47 (.ca 22 [.r 46]), o 48 (.ca 24 [.r 45, .r 47]), o 49 (.un .not (.r 48))]) (.cd (.r 49) (.sq (.rg [o 4 (.mv (.c (.bool false)))]) .rt) .sk)) (.sq (.rg [o 11 (.mv (ki 1))]) (.sq (.rg [o 50 (.mv (.r 8)), o 51 (.mv (.r 11)), o 52 (.ca 25 [.r 50, .r 51]), o 11 (.mv (.r 52))]) (.sq (.sq (.rg [o 53 (.mv (.r 11)), o 54 (.bi .lss (.r 53) (ki 0)), o 55 (.mv (.r 54)), g 56 (55, false) (.lv 5 true 9 (.r 9)), g 57 (55, false) (.lv 5 true 6 (.r 6)), g 58 (55, false) (.ca 15 [.r 56, .r 57]), g 59 (55, false) (.un .not (.r 58)), o 60 (.pk (.r 55) (.c (.bool true)) (.r 59)), o 61 (.mv (.r 60)), g 62 (61, false) (.mv (.r 10)), g 63 (61, false) (.mv (.r 7)), g 64 (61, false) (.eb true (.r 62) (.r 63)), o 65 (.pk (.r 61) (.c (.bool true)) (.r 64))]) (.cd (.r 65) (.sq (.rg [o 4 (.mv (.c (.bool false)))]) .rt) .sk)) (.sq (.rg [o 12 (.mv (ki 1))]) (.sq (.rg [o 66 (.lv 5 true 9 (.r 9)), o 67 (.mv (.r 12)), o 68 (.ca 18 [.r 66, .r 67]), o 12 (.mv (.r 68))]) (.sq (.rg [o 13 (.mv (ki 1))]) (.sq (.rg [o 69 (.lv 5 true 9 (.r 9)), o 70 (.mv (.r 13)), o 71 (.ca 19 [.r 69, .r 70]), o 13 (.mv (.r 71))]) (.sq (.sq (.rg [o 72 (.mv (.r 13)), o 73 (.bi .lss (.r 72) (ki 0))]) (.cd (.r 73) (.sq (.rg [o 4 (.mv (.c (.bool false)))]) .rt) .sk)) (.sq (.sq (.rg [o 74 (.mv (.r 13)), o 75 (.mv (.r 12)), o 76 (.bi .neq (.r 74) (.r 75))]) (.cd (.r 76) (.sq (.rg [o 4 (.mv (.c (.bool false)))]) .rt) .sk)) (.sq (.rg [o 78 (.mv (.r 0)), o 79 (.ca 22 [.r 78]), o 80 (.mv (.r 1)), o 81 (.ca 23 [.r 79, .r 80]), o 77 (.mv (.r 81)), o 82 (.ex (.r 77) 0), o 83 (.ex (.r 77) 1), o 14 (.nz [.int .i64 0, .slice none 0 0, .int .i64 0, .int .i64 0, .int .i64 0]), oN (.sv 5 14 (.r 14) (.r 82)), o 15 (.mv (.r 83))]) (.sq (.sq (.rg [o 84 (.lv 5 true 14 (.r 14)), o 85 (.lv 5 true 6 (.r 6)), o 86 (.ca 15 [.r 84, .r 85]), o 87 (.un .not (.r 86)), o 88 (.mv (.r 87)), g 89 (88, false) (.mv (.r 15)), g 90 (88, false) (.mv (.r 7)), g 91 (88, false) (.eb true (.r 89) (.r 90)), o 92 (.pk (.r 88) (.c (.bool true)) (.r 91))]) (.cd (.r 92) (.sq (.rg [o 4 (.mv (.c (.bool false)))]) .rt) .sk)) (.sq (.rg [o 13 (.mv (ki 1))]) (.sq (.rg [o 93 (.lv 5 true 9 (.r 9)), o 94 (.mv (.r 13)), o 95 (.ca 19 [.r 93, .r 94]), o 13 (.mv (.r 95))]) (.sq (.sq (.rg [o 96 (.mv (.r 13)), o 97 (.bi .lss (.r 96) (ki 0))]) (.cd (.r 97) (.sq (.rg [o 4 (.mv (.c (.bool false)))]) .rt) .sk)) (.sq (.sq (.rg [o 98 (.mv (.r 13)), o 99 (.mv (.r 12)), o 100 (.bi .neq (.r 98) (.r 99))]) (.cd (.r 100) (.sq (.rg [o 4 (.mv (.c (.bool false)))]) .rt) .sk)) (.sq (.rg [o 4 (.mv (.c (.bool true)))]) .rt))))))))))))))))))))))))) [.tm 4]
theorem t4 : trF Try.prog [6, 9, 14] [(6, 6), (9, 9), (14, 14)] Try.f4 = some c4 := by kernel_rfl
/-- laws.FnExactPutSaves -/
def c5 : AF := .mk 96 1 (.sq (.rg [o 2 (.mv (.c (.bool false)))]) (.sq (.rg [o 3 (.mv (ki 1048576))]) (.sq (.rg [o 14 (.mv (.r 0)), o 15 (.mv (.r 3)), o 16 (.ca 20 [.r 14, .r 15]), o 3 (.mv (.r 16))]) (.sq (.sq (.rg [o 17 (.mv (.r 3)), o 18 (.bi .lss (.r 17) (ki 0))]) (.cd (.r 18) (.sq (.rg [o 2 (.mv (.c (.bool true)))]) .rt) .sk)) (.sq (.rg [o 20 (.mv (.r 0)), o 21 (.ca 22 [.r 20]), o 22 (.ca 26 [.r 21]), o 19 (.mv (.r 22)), o 23 (.ex (.r 19) 0), o 24 (.ex (.r 19) 1), o 4 (.mv (.r 23)), o 5 (.mv (.r 24))]) (.sq (.rg [o 25 (.mv (.r 0)), o 26 (.ca 22 [.r 25]), o 6 (.mv (.r 26))]) (.sq (.rg [o 28 (.mv (.r 6)), o 29 (.ca 27 [.r 28]), o 27 (.mv (.r 29)), o 30 (.ex (.r 27) 0), o 31 (.ex (.r 27) 1), o 7 (.mv (.r 30)), o 8 (.mv (.r 31))]) (.sq (.sq (.rg [o 32 (.mv (.r 7)), o 33 (.mv (.r 4)), o 34 (.ca 16 [.r 32, .r 33]), o 35 (.un .not (.r 34)), o 36 (.mv (.r 35)), g 37 (36, false) (.mv (.r 8)), g 38 (36, false) (.mv (.r 5)), g 39 (36, false) (.eb true (.r 37) (.r 38)), o 40 (.pk (.r 36) (.c (.bool true)) (.r 39))]) (.cd (.r 40) (.sq (.rg [o 2 (.mv (.c (.bool false)))]) .rt) .sk)) (.sq (.sq (.rg [o 41 (.mv (.r 6)), o 42 (.mv (.r 0)), o 43 (.ca 22 [.r 42]), o 44 (.ca 24 [.r 41, .r 43]), o 45 (.un .not (.r 44))]) (.cd (.r 45) (.sq (.rg [o 2 (.mv (.c (.bool false)))]) .rt) .sk)) (.sq (.rg [o 9 (.mv (ki 1))]) (.sq (.rg [o 46 (.mv (.r 6)), o 47 (.mv (.r 9)), o 48 (.ca 25 [.r 46, .r 47]), o 9 (.mv (.r 48))]) (.sq (.sq (.rg [o 49 (.mv (.r 9)), o 50 (.bi .lss (.r 49) (ki 0)), o 51 (.mv (.r 50)), g 52 (51, false) (.mv (.r 7)), g 53 (51, false) (.mv (.r 4)), g 54 (51, false) (.ca 16 [.r 52, .r 53]), g 55 (51, false) (.un .not (.r 54)), o 56 (.pk (.r 51) (.c (.bool true)) (.r 55)), o 57 (.mv (.r 56)), g 58 (57, false) (.mv (.r 8)), g 59 (57, false) (.mv (.r 5)), g 60 (57, false) (.eb true (.r 58) (.r 59)), o 61 (.pk (.r 57) (.c (.bool true)) (.r 60))]) (.cd (.r 61) (.sq (.rg [o 2 (.mv (.c (.bool false)))]) .rt) .sk)) (.sq (.rg [o 10 (.mv (ki 1))]) (.sq (.rg [o 62 (.mv (.r 7)), o 63 (.mv (.r 10)), o 64 (.ca 17 [.r 62, .r 63]), o 10 (.mv (.r 64))]) (.sq (.rg [o 11 (.mv (ki 1))]) (.sq (.rg [o 65 (.mv (.r 7)), o 66 (.mv (.r 11)), o 67 (.ca 28 [.r 65, .r 66]), o 11 (.mv (.r 67))]) (.sq (.sq (.rg [o 68 (.mv (.r 11)), o 69 (.bi .lss (.r 68) (ki 0))]) (.cd (.r 69) (.sq (.rg [o 2 (.mv (.c (.bool false)))]) .rt) .sk)) (.sq (.sq (.rg [o 70 (.mv (.r 11)), o 71 (.mv (.r 10)), o 72 (.bi .neq (.r 70) (.r 71))]) (.cd (.r 72) (.sq (.rg [o 2 (.mv (.c (.bool false)))]) .rt) .sk)) (.sq (.rg [o 74 (.mv (.r 0)), o 75 (.ca 22 [.r 74]), o 76 (.ca 27 [.r 75]), o 73 (.mv (.r 76)), o 77 (.ex (.r 73) 0), o 78 (.ex (.r 73) 1), o 12 (.mv (.r 77)), o 13 (.mv (.r 78))]) (.sq (.sq (.rg [o 79 (.mv (.r 12)), o 80 (.mv (.r 4)), o 81 (.ca 16 [.r 79, .r 80]), o 82 (.un .not (.r 81)), o 83 (.mv (.r 82)), g 84 (83, false) (.mv (.r 13)), g 85 (83, false) (.mv (.r 5)), g 86 (83, false) (.eb true (.r 84) (.r 85)), o 87 (.pk (.r 83) (.c (.bool true)) (.r 86))]) (.cd (.r 87) (.sq (.rg [o 2 (.mv (.c (.bool false)))]) .rt) .sk)) (.sq (.rg [o 11 (.mv (ki 1))]) (.sq (.rg [o 88 (.mv (.r 7)), o 89 (.mv (.r 11)), o 90 (.ca 28 [.r 88, .r 89]), o 11 (.mv (.r 90))]) (.sq (.sq (.rg [o 91 (.mv (.r 11)), o 92 (.bi .lss (.r 91) (ki 0))]) (.cd (.r 92) (.sq (.rg [o 2 (.mv (.c (.bool false)))]) .rt) .sk)) (.sq (.sq (.rg [o 93 (.mv (.r 11)), o 94 (.mv (.r 10)), o 95 (.bi .neq (.r 93) (.r 94))]) (.cd (.r 95) (.sq (.rg [o 2 (.mv (.c (.bool false)))]) .rt) .sk)) (.sq (.rg [o 2 (.mv (.c (.bool true)))]) .rt))))))))))))))))))))))))) [.tm 2]
theorem t5 : trF Try.prog [] [] Try.f5 = some c5 := by kernel_rfl
/-- laws.eqSave -/
def c15 : AF := .mk 16 2 (.sq (.rg [o 2 (.nb 5 (.r 0)), o 3 (.nb 5 (.r 1)), o 4 (.mv (.c (.bool false)))]) (.sq (.sq (.rg [o 5 (.fa (.r 2) 0), o 6 (.lv 1 false 2 (.r 5)), o 7 (.fa (.r 3) 0), o 8 (.lv 1 false 3 (.r 7)), o 9 (.bi .neq (.r 6) (.r 8))]) (.cd (.r 9) (.sq (.rg [o 4 (.mv (.c (.bool false)))]) .rt) .sk)) (.sq (.sq (.rg [o 10 (.fa (.r 2) 1), o 11 (.lv 4 true 2 (.r 10)), o 12 (.fa (.r 3) 1), o 13 (.lv 4 true 3 (.r 12)), o 14 (.ca 50 [.r 11, .r 13]), o 15 (.un .not (.r 14))]) (.cd (.r 15) (.sq (.rg [o 4 (.mv (.c (.bool false)))]) .rt) .sk)) (.sq (.rg [o 4 (.mv (.c (.bool true)))]) .rt)))) [.tm 4]
theorem t15 : trF Try.prog [2, 3] [(2, 2), (3, 3), (5, 2), (7, 3), (10, 2), (12, 3)] Try.f15 = some c15 := by kernel_rfl
/-- laws.markSave -/
def c18 : AF := .mk 10 2 (.sq (.rg [o 2 (.nb 5 (.r 0)), o 4 (.mv (ki 0))]) (.sq (.rg [o 5 (.fa (.r 2) 1), o 6 (.lv 4 true 2 (.r 5)), o 7 (.mv (.r 1)), o 8 (.ca 52 [.r 6, .r 7]), o 1 (.mv (.r 8))]) (.sq (.rg [o 9 (.mv (.r 1)), o 4 (.mv (.r 9))]) .rt))) [.tm 4]
theorem t18 : trF Try.prog [2] [(2, 2), (5, 2)] Try.f18 = some c18 := by kernel_rfl
/-- laws.heldSave -/
def c19 : AF := .mk 12 2 (.sq (.rg [o 2 (.nb 5 (.r 0)), o 4 (.mv (ki 0))]) (.sq (.rg [o 5 (.fa (.r 2) 1), o 6 (.lv 4 true 2 (.r 5)), o 7 (.mv (.r 1)), o 8 (.ca 54 [.r 6, .r 7]), o 1 (.mv (.r 8))]) (.sq (.sq (.rg [o 9 (.mv (.r 1)), o 10 (.bi .lss (.r 9) (ki 0))]) (.cd (.r 10) (.sq (.rg [o 4 (.mv (ki (-1)))]) .rt) .sk)) (.sq (.rg [o 11 (.mv (.r 1)), o 4 (.mv (.r 11))]) .rt)))) [.tm 4]
theorem t19 : trF Try.prog [2] [(2, 2), (5, 2)] Try.f19 = some c19 := by kernel_rfl
/-- laws.szSaveS -/
def c20 : AF := .mk 27 2 (.sq (.rg [o 4 (.mv (ki 0))]) (.sq (.rg [o 6 (.mv (.r 1)), o 7 (.mv (.r 0)), o 8 (.ln (.r 7)), o 9 (.bi .sub (.r 6) (.r 8)), o 1 (.mv (.r 9))]) (.sq (.sq (.rg [o 10 (.mv (.r 1)), o 11 (.bi .lss (.r 10) (ki 0))]) (.cd (.r 11) (.sq (.rg [o 4 (.mv (ki (-1)))]) .rt) .sk)) (.sq (.sq (.rg [o 5 (.mv (ki 0))]) (.bk 0 (.lp (.sq (.sq (.rg [o 12 (.mv (.r 5)), o 13 (.mv (.r 0)), o 14 (.ln (.r 13)), o 15 (.bi .lss (.r 12) (.r 14))]) (.cd (.r 15) .sk (.xt 0))) (.sq (.bk 1 (.sq (.rg [o 18 (.mv (.r 0)), o 19 (.mv (.r 5)), o 20 (.ia 5 (.r 18) (.r 19)), o 21 (.ld 5 true (.r 20)), o 22 (.mv (.r 1)), o 23 (.ca 63 [.r 21, .r 22]), o 1 (.mv (.r 23))]) (.sq (.rg [o 24 (.mv (.r 1)), o 25 (.bi .lss (.r 24) (ki 0))]) (.cd (.r 25) (.sq (.rg [o 4 (.mv (ki (-1)))]) .rt) .sk)))) (.rg [o 16 (.mv (.r 5)), o 17 (.bi .add (.r 16) (ki 1)), o 5 (.mv (.r 17))])))))) (.sq (.rg [o 26 (.mv (.r 1)), o 4 (.mv (.r 26))]) .rt))))) [.tm 4]
theorem t20 : trF Try.prog [] [] Try.f20 = some c20 := by kernel_rfl
/-- spec.ResumeAt -/
def c21 : AF := .mk 41 2 (.sq (.rg [o 4 (.nz [.int .i64 0, .slice none 0 0, .int .i64 0, .int .i64 0, .int .i64 0]), o 5 (.mv (.c (.bool false)))]) (.sq (.rg [o 6 (.mv (ki (-1)))]) (.sq (.sq (.rg [o 8 (.mv (.r 0)), o 9 (.ln (.r 8)), o 10 (.bi .gtr (.r 9) (ki 20))]) (.cd (.r 10) (.sq (.rg [o 11 (.bd [.int .i64 0, .slice none 0 0, .int .i64 0, .int .i64 0, .int .i64 0] []), oN (.sv 5 4 (.r 4) (.r 11)), o 5 (.mv (.c (.bool false)))]) .rt) .sk)) (.sq (.sq (.rg [o 7 (.mv (ki 0))]) (.bk 0 (.lp (.sq (.sq (.rg [o 12 (.mv (.r 7)), o 13 (.mv (.r 0)), o 14 (.ln (.r 13)), o 15 (.bi .lss (.r 12) (.r 14))]) (.cd (.r 15) .sk (.xt 0))) (.sq (.bk 1 (.sq (.sq (.rg [o 18 (.mv (.r 0)), o 19 (.mv (.r 7)), o 20 (.ia 5 (.r 18) (.r 19)), o 21 (.ld 5 true (.r 20)), o 22 (.ca 58 [.r 21]), o 23 (.un .not (.r 22))]) (.cd (.r 23) (.sq (.rg [o 24 (.bd [.int .i64 0, .slice none 0 0, .int .i64 0, .int .i64 0, .int .i64 0] []), oN (.sv 5 4 (.r 4) (.r 24)), o 5 (.mv (.c (.bool false)))]) .rt) .sk)) (.sq (.rg [o 25 (.mv (.r 0)), o 26 (.mv (.r 7)), o 27 (.ia 5 (.r 25) (.r 26)), o 28 (.fa (.r 27) 0), o 29 (.ld 1 false (.r 28)), o 30 (.mv (.r 1)), o 31 (.bi .leq (.r 29) (.r 30))]) (.cd (.r 31) (.rg [o 32 (.mv (.r 7)), o 6 (.mv (.r 32))]) .sk)))) (.rg [o 16 (.mv (.r 7)), o 17 (.bi .add (.r 16) (ki 1)), o 7 (.mv (.r 17))])))))) (.sq (.sq (.rg [o 33 (.mv (.r 6)), o 34 (.bi .lss (.r 33) (ki 0))]) (.cd (.r 34) (.sq (.rg [o 35 (.bd [.int .i64 0, .slice none 0 0, .int .i64 0, .int .i64 0, .int .i64 0] []), oN (.sv 5 4 (.r 4) (.r 35)), o 5 (.mv (.c (.bool false)))]) .rt) .sk)) (.sq (.rg [o 36 (.mv (.r 0)), o 37 (.mv (.r 6)), o 38 (.ia 5 (.r 36) (.r 37)), o 39 (.ld 5 true (.r 38)), o 40 (.ca 64 [.r 39]), oN (.sv 5 4 (.r 4) (.r 40)), o 5 (.mv (.c (.bool true)))]) .rt)))))) [.cl 4 5 true, .tm 5]
theorem t21 : trF Try.prog [4] [(4, 4)] Try.f21 = some c21 := by kernel_rfl
/-- laws.toSaveS -/
def c22 : AF := .mk 23 1 (.sq (.rg [o 2 (.mv (.c (.slice none 0 0)))]) (.sq (.rg [o 5 (.mv (.r 0)), o 6 (.ln (.r 5)), o 7 (.ms 27 5 56 [.int .i64 0, .slice none 0 0, .int .i64 0, .int .i64 0, .int .i64 0] (.r 6) (.r 6)), o 3 (.mv (.r 7))]) (.sq (.sq (.rg [o 4 (.mv (ki 0))]) (.bk 0 (.lp (.sq (.sq (.rg [o 8 (.mv (.r 4)), o 9 (.mv (.r 0)), o 10 (.ln (.r 9)), o 11 (.bi .lss (.r 8) (.r 10))]) (.cd (.r 11) .sk (.xt 0))) (.sq (.bk 1 (.rg [o 14 (.mv (.r 3)), o 15 (.mv (.r 4)), o 16 (.mv (.r 0)), o 17 (.mv (.r 4)), o 18 (.ia 5 (.r 16) (.r 17)), o 19 (.ld 5 true (.r 18)), o 20 (.ca 65 [.r 19]), o 21 (.ia 5 (.r 14) (.r 15)), oN (.st 5 (.r 21) (.r 20))])) (.rg [o 12 (.mv (.r 4)), o 13 (.bi .add (.r 12) (ki 1)), o 4 (.mv (.r 13))])))))) (.sq (.rg [o 22 (.mv (.r 3)), o 2 (.mv (.r 22))]) .rt)))) [.tm 2]
theorem t22 : trF Try.prog [] [] Try.f22 = some c22 := by kernel_rfl
/-- impl.ResumeAt -/
def c23 : AF := .mk 34 2 (.sq (.rg [o 4 (.nz [.int .i64 0, .slice none 0 0, .int .i64 0, .int .i64 0, .int .i64 0]), o 5 (.mv (.c (.bool false)))]) (.sq (.sq (.rg [o 8 (.mv (.r 0)), o 9 (.ca 66 [.r 8]), o 10 (.un .not (.r 9))]) (.cd (.r 10) (.sq (.rg [o 11 (.bd [.int .i64 0, .slice none 0 0, .int .i64 0, .int .i64 0, .int .i64 0] []), oN (.sv 5 4 (.r 4) (.r 11)), o 5 (.mv (.c (.bool false)))]) .rt) .sk)) (.sq (.sq (.rg [o 12 (.mv (.r 0)), o 13 (.ln (.r 12)), o 14 (.bi .sub (.r 13) (ki 1)), o 6 (.mv (.r 14))]) (.bk 0 (.lp (.sq (.sq (.rg [o 15 (.mv (.r 6)), o 16 (.bi .geq (.r 15) (ki 0))]) (.cd (.r 16) .sk (.xt 0))) (.sq (.bk 1 (.sq (.rg [o 19 (.mv (.r 0)), o 20 (.mv (.r 6)), o 21 (.ia 5 (.r 19) (.r 20)), o 22 (.ld 5 true (.r 21)), o 7 (.nz [.int .i64 0, .slice none 0 0, .int .i64 0, .int .i64 0, .int .i64 0]), oN (.sv 5 7 (.r 7) (.r 22))]) (.sq (.rg [o 23 (.fa (.r 7) 0), o 24 (.lv 1 false 7 (.r 23)), o 25 (.mv (.r 1)), o 26 (.bi .leq (.r 24) (.r 25))]) (.cd (.r 26) (.sq (.rg [o 27 (.fa (.r 7) 0), o 29 (.fa (.r 7) 1), o 28 (.lv 1 false 7 (.r 27)), o 30 (.lv 4 true 7 (.r 29)), o 31 (.ca 67 [.r 30]), o 32 (.bd [.int .i64 0, .slice none 0 0, .int .i64 0, .int .i64 0, .int .i64 0] [(0, 1, .r 28), (1, 4, .r 31)]), oN (.sv 5 4 (.r 4) (.r 32)), o 5 (.mv (.c (.bool true)))]) .rt) .sk)))) (.rg [o 17 (.mv (.r 6)), o 18 (.bi .sub (.r 17) (ki 1)), o 6 (.mv (.r 18))])))))) (.sq (.rg [o 33 (.bd [.int .i64 0, .slice none 0 0, .int .i64 0, .int .i64 0, .int .i64 0] []), oN (.sv 5 4 (.r 4) (.r 33)), o 5 (.mv (.c (.bool false)))]) .rt)))) [.cl 4 5 true, .tm 5]
theorem t23 : trF Try.prog [4, 7] [(4, 4), (7, 7), (23, 7), (27, 7), (29, 7)] Try.f23 = some c23 := by kernel_rfl
/-- laws.eqSaveS -/
def c24 : AF := .mk 27 2 (.sq (.rg [o 4 (.mv (.c (.bool false)))]) (.sq (.sq (.rg [o 6 (.mv (.r 0)), o 7 (.ln (.r 6)), o 8 (.mv (.r 1)), o 9 (.ln (.r 8)), o 10 (.bi .neq (.r 7) (.r 9))]) (.cd (.r 10) (.sq (.rg [o 4 (.mv (.c (.bool false)))]) .rt) .sk)) (.sq (.sq (.rg [o 5 (.mv (ki 0))]) (.bk 0 (.lp (.sq (.sq (.rg [o 11 (.mv (.r 5)), o 12 (.mv (.r 0)), o 13 (.ln (.r 12)), o 14 (.bi .lss (.r 11) (.r 13))]) (.cd (.r 14) .sk (.xt 0))) (.sq (.bk 1 (.sq (.rg [o 17 (.mv (.r 0)), o 18 (.mv (.r 5)), o 19 (.ia 5 (.r 17) (.r 18)), o 21 (.mv (.r 1)), o 22 (.mv (.r 5)), o 23 (.ia 5 (.r 21) (.r 22)), o 20 (.ld 5 true (.r 19)), o 24 (.ld 5 true (.r 23)), o 25 (.ca 15 [.r 20, .r 24]), o 26 (.un .not (.r 25))]) (.cd (.r 26) (.sq (.rg [o 4 (.mv (.c (.bool false)))]) .rt) .sk))) (.rg [o 15 (.mv (.r 5)), o 16 (.bi .add (.r 15) (ki 1)), o 5 (.mv (.r 16))])))))) (.sq (.rg [o 4 (.mv (.c (.bool true)))]) .rt)))) [.tm 4]
theorem t24 : trF Try.prog [] [] Try.f24 = some c24 := by kernel_rfl
/-- laws.markSaveS -/
def c25 : AF := .mk 52 2 (.sq (.rg [o 4 (.mv (ki 0))]) (.sq (.sq (.rg [o 5 (.mv (ki 0))]) (.bk 0 (.lp (.sq (.sq (.rg [o 6 (.mv (.r 5)), o 7 (.mv (.r 0)), o 8 (.ln (.r 7)), o 9 (.bi .lss (.r 6) (.r 8))]) (.cd (.r 9) .sk (.xt 0))) (.sq (.bk 1 (.sq (.rg [o 12 (.mv (.r 0)), o 13 (.mv (.r 5)), o 14 (.mv (.r 1)), o 15 (.ia 5 (.r 12) (.r 13)), o 16 (.fa (.r 15) 0), oN (.st 1 (.r 16) (.r 14))]) (.sq (.rg [o 17 (.mv (.r 1)), o 18 (.bi .add (.r 17) (ki 1)), o 1 (.mv (.r 18))]) (.sq (.rg [o 19 (.mv (.r 0)), o 20 (.mv (.r 5)), o 21 (.ia 5 (.r 19) (.r 20)), o 22 (.fa (.r 21) 1), o 23 (.fa (.r 22) 0), o 24 (.ld 1 false (.r 23)), o 25 (.mv (.r 1)), o 26 (.ca 68 [.r 24, .r 25]), o 1 (.mv (.r 26))]) (.sq (.rg [o 27 (.mv (.r 0)), o 28 (.mv (.r 5)), o 29 (.mv (.r 1)), o 30 (.ia 5 (.r 27) (.r 28)), o 31 (.fa (.r 30) 1), o 32 (.fa (.r 31) 1), oN (.st 1 (.r 32) (.r 29))]) (.sq (.rg [o 33 (.mv (.r 1)), o 34 (.bi .add (.r 33) (ki 1)), o 1 (.mv (.r 34))]) (.sq (.rg [o 35 (.mv (.r 0)), o 36 (.mv (.r 5)), o 37 (.mv (.r 1)), o 38 (.ia 5 (.r 35) (.r 36)), o 39 (.fa (.r 38) 1), o 40 (.fa (.r 39) 2), oN (.st 1 (.r 40) (.r 37))]) (.sq (.rg [o 41 (.mv (.r 1)), o 42 (.bi .add (.r 41) (ki 1)), o 1 (.mv (.r 42))]) (.sq (.rg [o 43 (.mv (.r 0)), o 44 (.mv (.r 5)), o 45 (.mv (.r 1)), o 46 (.ia 5 (.r 43) (.r 44)), o 47 (.fa (.r 46) 1), o 48 (.fa (.r 47) 3), oN (.st 1 (.r 48) (.r 45))]) (.rg [o 49 (.mv (.r 1)), o 50 (.bi .add (.r 49) (ki 1)), o 1 (.mv (.r 50))])))))))))) (.rg [o 10 (.mv (.r 5)), o 11 (.bi .add (.r 10) (ki 1)), o 5 (.mv (.r 11))])))))) (.sq (.rg [o 51 (.mv (.r 1)), o 4 (.mv (.r 51))]) .rt))) [.tm 4]
theorem t25 : trF Try.prog [] [] Try.f25 = some c25 := by kernel_rfl
/-- spec.ShardOk -/
def c44 : AF := .mk 59 1 (.sq (.rg [o 1 (.nb 4 (.r 0)), o 2 (.mv (.c (.bool false)))]) (.sq (.sq (.rg [o 4 (.fa (.r 1) 0), o 5 (.lv 1 false 1 (.r 4)), o 6 (.ln (.r 5)), o 7 (.bi .gtr (.r 6) (ki 40)), o 8 (.mv (.r 7)), g 9 (8, false) (.fa (.r 1) 1), g 10 (8, false) (.lv 1 false 1 (.r 9)), g 11 (8, false) (.ca 83 [.r 10]), g 12 (8, false) (.un .not (.r 11)), o 13 (.pk (.r 8) (.c (.bool true)) (.r 12)), o 14 (.mv (.r 13)), g 15 (14, false) (.fa (.r 1) 2), g 16 (14, false) (.lv 1 false 1 (.r 15)), g 17 (14, false) (.ca 84 [.r 16, ki 0, ki 1000000000]), g 18 (14, false) (.un .not (.r 17)), o 19 (.pk (.r 14) (.c (.bool true)) (.r 18)), o 20 (.mv (.r 19)), g 21 (20, false) (.fa (.r 1) 3), g 22 (20, false) (.lv 1 false 1 (.r 21)), g 23 (20, false) (.ca 84 [.r 22, ki 0, ki 1000000000]), g 24 (20, false) (.un .not (.r 23)), o 25 (.pk (.r 20) (.c (.bool true)) (.r 24))]) (.cd (.r 25) (.sq (.rg [o 2 (.mv (.c (.bool false)))]) .rt) .sk)) (.sq (.sq (.rg [o 3 (.mv (ki 0))]) (.bk 0 (.lp (.sq (.sq (.rg [o 26 (.mv (.r 3)), o 27 (.fa (.r 1) 0), o 28 (.lv 1 false 1 (.r 27)), o 29 (.ln (.r 28)), o 30 (.bi .lss (.r 26) (.r 29))]) (.cd (.r 30) .sk (.xt 0))) (.sq (.bk 1 (.sq (.rg [o 33 (.fa (.r 1) 0), o 35 (.mv (.r 3)), o 34 (.lv 1 false 1 (.r 33)), o 36 (.ia 6 (.r 34) (.r 35)), o 37 (.ld 6 true (.r 36)), o 38 (.ca 85 [.r 37]), o 39 (.un .not (.r 38)), o 40 (.mv (.r 39)), g 41 (40, false) (.mv (.r 3)), g 42 (40, false) (.bi .gtr (.r 41) (ki 0)), g 43 (40, false) (.mv (.r 42)), g 44 (43, true) (.fa (.r 1) 0), g 46 (43, true) (.mv (.r 3)), g 47 (43, true) (.bi .sub (.r 46) (ki 1)), g 50 (43, true) (.fa (.r 1) 0), g 52 (43, true) (.mv (.r 3)), g 45 (43, true) (.lv 1 false 1 (.r 44)), g 48 (43, true) (.ia 6 (.r 45) (.r 47)), g 51 (43, true) (.lv 1 false 1 (.r 50)), g 53 (43, true) (.ia 6 (.r 51) (.r 52)), g 49 (43, true) (.ld 6 true (.r 48)), g 54 (43, true) (.ld 6 true (.r 53)), g 55 (43, true) (.ca 86 [.r 49, .r 54]), g 56 (43, true) (.un .not (.r 55)), g 57 (40, false) (.pk (.r 43) (.r 56) (.c (.bool false))), o 58 (.pk (.r 40) (.c (.bool true)) (.r 57))]) (.cd (.r 58) (.sq (.rg [o 2 (.mv (.c (.bool false)))]) .rt) .sk))) (.rg [o 31 (.mv (.r 3)), o 32 (.bi .add (.r 31) (ki 1)), o 3 (.mv (.r 32))])))))) (.sq (.rg [o 2 (.mv (.c (.bool true)))]) .rt)))) [.tm 2]
theorem t44 : trF Try.prog [1] [(1, 1), (4, 1), (9, 1), (15, 1), (21, 1), (27, 1), (33, 1), (44, 1), (50, 1)] Try.f44 = some c44 := by kernel_rfl
/-- laws.szShard -/
def c45 : AF := .mk 12 2 (.sq (.rg [o 2 (.nb 4 (.r 0)), o 4 (.mv (ki 0))]) (.sq (.rg [o 5 (.fa (.r 2) 0), o 6 (.lv 1 false 2 (.r 5)), o 7 (.mv (.r 1)), o 8 (.ca 87 [.r 6, .r 7]), o 1 (.mv (.r 8))]) (.sq (.sq (.rg [o 9 (.mv (.r 1)), o 10 (.bi .lss (.r 9) (ki 0))]) (.cd (.r 10) (.sq (.rg [o 4 (.mv (ki (-1)))]) .rt) .sk)) (.sq (.rg [o 11 (.mv (.r 1)), o 4 (.mv (.r 11))]) .rt)))) [.tm 4]
theorem t45 : trF Try.prog [2] [(2, 2), (5, 2)] Try.f45 = some c45 := by kernel_rfl
/-- laws.toShard -/
def c48 : AF := .mk 18 1 (.sq (.rg [o 1 (.nb 4 (.r 0)), o 2 (.nz [.slice none 0 0, .int .i64 0, .int .i64 0, .int .i64 0])]) (.sq (.rg [o 3 (.nz [.slice none 0 0, .int .i64 0, .int .i64 0, .int .i64 0])]) (.sq (.rg [o 4 (.fa (.r 1) 0), o 5 (.lv 1 false 1 (.r 4)), o 6 (.ca 93 [.r 5]), o 7 (.fa (.r 3) 0), oN (.sv 1 3 (.r 7) (.r 6))]) (.sq (.rg [o 8 (.fa (.r 1) 1), o 9 (.lv 1 false 1 (.r 8)), o 10 (.fa (.r 3) 1), oN (.sv 1 3 (.r 10) (.r 9))]) (.sq (.rg [o 11 (.fa (.r 1) 2), o 12 (.lv 1 false 1 (.r 11)), o 13 (.fa (.r 3) 2), oN (.sv 1 3 (.r 13) (.r 12))]) (.sq (.rg [o 14 (.fa (.r 1) 3), o 15 (.lv 1 false 1 (.r 14)), o 16 (.fa (.r 3) 3), oN (.sv 1 3 (.r 16) (.r 15))]) (.sq (.rg [o 17 (.lv 4 true 3 (.r 3)), oN (.sv 4 2 (.r 2) (.r 17))]) .rt))))))) [.cl 2 4 true]
theorem t48 : trF Try.prog [1, 2, 3] [(1, 1), (2, 2), (3, 3), (4, 1), (7, 3), (8, 1), (10, 3), (11, 1), (13, 3), (14, 1), (16, 3)] Try.f48 = some c48 := by kernel_rfl
/-- laws.eqShard -/
def c50 : AF := .mk 26 2 (.sq (.rg [o 2 (.nb 4 (.r 0)), o 3 (.nb 4 (.r 1)), o 4 (.mv (.c (.bool false)))]) (.sq (.sq (.rg [o 5 (.fa (.r 2) 0), o 6 (.lv 1 false 2 (.r 5)), o 7 (.fa (.r 3) 0), o 8 (.lv 1 false 3 (.r 7)), o 9 (.ca 95 [.r 6, .r 8]), o 10 (.un .not (.r 9))]) (.cd (.r 10) (.sq (.rg [o 4 (.mv (.c (.bool false)))]) .rt) .sk)) (.sq (.sq (.rg [o 11 (.fa (.r 2) 1), o 12 (.lv 1 false 2 (.r 11)), o 13 (.fa (.r 3) 1), o 14 (.lv 1 false 3 (.r 13)), o 15 (.bi .neq (.r 12) (.r 14))]) (.cd (.r 15) (.sq (.rg [o 4 (.mv (.c (.bool false)))]) .rt) .sk)) (.sq (.sq (.rg [o 16 (.fa (.r 2) 2), o 17 (.lv 1 false 2 (.r 16)), o 18 (.fa (.r 3) 2), o 19 (.lv 1 false 3 (.r 18)), o 20 (.bi .neq (.r 17) (.r 19))]) (.cd (.r 20) (.sq (.rg [o 4 (.mv (.c (.bool false)))]) .rt) .sk)) (.sq (.sq (.rg [o 21 (.fa (.r 2) 3), o 22 (.lv 1 false 2 (.r 21)), o 23 (.fa (.r 3) 3), o 24 (.lv 1 false 3 (.r 23)), o 25 (.bi .neq (.r 22) (.r 24))]) (.cd (.r 25) (.sq (.rg [o 4 (.mv (.c (.bool false)))]) .rt) .sk)) (.sq (.rg [o 4 (.mv (.c (.bool true)))]) .rt)))))) [.tm 4]
theorem t50 : trF Try.prog [2, 3] [(2, 2), (3, 3), (5, 2), (7, 3), (11, 2), (13, 3), (16, 2), (18, 3), (21, 2), (23, 3)] Try.f50 = some c50 := by kernel_rfl
/-- laws.markShard -/
def c52 : AF := .mk 10 2 (.sq (.rg [o 2 (.nb 4 (.r 0)), o 4 (.mv (ki 0))]) (.sq (.rg [o 5 (.fa (.r 2) 0), o 6 (.lv 1 false 2 (.r 5)), o 7 (.mv (.r 1)), o 8 (.ca 68 [.r 6, .r 7]), o 1 (.mv (.r 8))]) (.sq (.rg [o 9 (.mv (.r 1)), o 4 (.mv (.r 9))]) .rt))) [.tm 4]
theorem t52 : trF Try.prog [2] [(2, 2), (5, 2)] Try.f52 = some c52 := by kernel_rfl
/-- laws.heldShard -/
def c54 : AF := .mk 12 2 (.sq (.rg [o 2 (.nb 4 (.r 0)), o 4 (.mv (ki 0))]) (.sq (.rg [o 5 (.fa (.r 2) 0), o 6 (.lv 1 false 2 (.r 5)), o 7 (.mv (.r 1)), o 8 (.ca 71 [.r 6, .r 7]), o 1 (.mv (.r 8))]) (.sq (.sq (.rg [o 9 (.mv (.r 1)), o 10 (.bi .lss (.r 9) (ki 0))]) (.cd (.r 10) (.sq (.rg [o 4 (.mv (ki (-1)))]) .rt) .sk)) (.sq (.rg [o 11 (.mv (.r 1)), o 4 (.mv (.r 11))]) .rt)))) [.tm 4]
theorem t54 : trF Try.prog [2] [(2, 2), (5, 2)] Try.f54 = some c54 := by kernel_rfl
/-- spec.SaveOk -/
def c58 : AF := .mk 11 1 (.sq (.rg [o 1 (.nb 5 (.r 0)), o 2 (.mv (.c (.bool false)))]) (.sq (.rg [o 3 (.fa (.r 1) 0), o 4 (.lv 1 false 1 (.r 3)), o 5 (.ca 84 [.r 4, ki 0, ki 300]), o 6 (.mv (.r 5)), g 7 (6, true) (.fa (.r 1) 1), g 8 (6, true) (.lv 4 true 1 (.r 7)), g 9 (6, true) (.ca 44 [.r 8]), o 10 (.pk (.r 6) (.r 9) (.c (.bool false))), o 2 (.mv (.r 10))]) .rt)) [.tm 2]
theorem t58 : trF Try.prog [1] [(1, 1), (3, 1), (7, 1)] Try.f58 = some c58 := by kernel_rfl
/-- laws.szSave -/
def c63 : AF := .mk 12 2 (.sq (.rg [o 2 (.nb 5 (.r 0)), o 4 (.mv (ki 0))]) (.sq (.rg [o 5 (.fa (.r 2) 1), o 6 (.lv 4 true 2 (.r 5)), o 7 (.mv (.r 1)), o 8 (.ca 45 [.r 6, .r 7]), o 1 (.mv (.r 8))]) (.sq (.sq (.rg [o 9 (.mv (.r 1)), o 10 (.bi .lss (.r 9) (ki 0))]) (.cd (.r 10) (.sq (.rg [o 4 (.mv (ki (-1)))]) .rt) .sk)) (.sq (.rg [o 11 (.mv (.r 1)), o 4 (.mv (.r 11))]) .rt)))) [.tm 4]
theorem t63 : trF Try.prog [2] [(2, 2), (5, 2)] Try.f63 = some c63 := by kernel_rfl
/-- spec.l14Save -/
def c64 : AF := .mk 9 1 (.sq (.rg [o 1 (.nb 5 (.r 0)), o 2 (.nz [.int .i64 0, .slice none 0 0, .int .i64 0, .int .i64 0, .int .i64 0])]) (.sq (.rg [o 3 (.fa (.r 1) 0), o 5 (.fa (.r 1) 1), o 4 (.lv 1 false 1 (.r 3)), o 6 (.lv 4 true 1 (.r 5)), o 7 (.ca 88 [.r 6]), o 8 (.bd [.int .i64 0, .slice none 0 0, .int .i64 0, .int .i64 0, .int .i64 0] [(0, 1, .r 4), (1, 4, .r 7)]), oN (.sv 5 2 (.r 2) (.r 8))]) .rt)) [.cl 2 5 true]
theorem t64 : trF Try.prog [1, 2] [(1, 1), (2, 2), (3, 1), (5, 1)] Try.f64 = some c64 := by kernel_rfl
/-- laws.toSave -/
def c65 : AF := .mk 12 1 (.sq (.rg [o 1 (.nb 5 (.r 0)), o 2 (.nz [.int .i64 0, .slice none 0 0, .int .i64 0, .int .i64 0, .int .i64 0])]) (.sq (.rg [o 3 (.nz [.int .i64 0, .slice none 0 0, .int .i64 0, .int .i64 0, .int .i64 0])]) (.sq (.rg [o 4 (.fa (.r 1) 0), o 5 (.lv 1 false 1 (.r 4)), o 6 (.fa (.r 3) 0), oN (.sv 1 3 (.r 6) (.r 5))]) (.sq (.rg [o 7 (.fa (.r 1) 1), o 8 (.lv 4 true 1 (.r 7)), o 9 (.ca 48 [.r 8]), o 10 (.fa (.r 3) 1), oN (.sv 4 3 (.r 10) (.r 9))]) (.sq (.rg [o 11 (.lv 5 true 3 (.r 3)), oN (.sv 5 2 (.r 2) (.r 11))]) .rt))))) [.cl 2 5 true]
theorem t65 : trF Try.prog [1, 2, 3] [(1, 1), (2, 2), (3, 3), (4, 1), (6, 3), (7, 1), (10, 3)] Try.f65 = some c65 := by kernel_rfl
/-- impl.areSaves -/
def c66 : AF := .mk 11 1 (.sq (.rg [o 2 (.mv (.c (.bool false)))]) (.sq (.rg [o 3 (.mv (.r 0)), o 4 (.ln (.r 3)), o 5 (.bi .leq (.r 4) (ki 20)), o 6 (.mv (.r 5)), g 7 (6, true) (.mv (.r 0)), g 8 (6, true) (.ca 101 [.r 7, .f 102]), g 9 (6, true) (.un .not (.r 8)), o 10 (.pk (.r 6) (.r 9) (.c (.bool false))), o 2 (.mv (.r 10))]) .rt)) [.tm 2]
theorem t66 : trF Try.prog [] [] Try.f66 = some c66 := by kernel_rfl
/-- impl.ownShard -/
def c67 : AF := .mk 8 1 (.sq (.rg [o 1 (.nb 4 (.r 0)), o 2 (.nz [.slice none 0 0, .int .i64 0, .int .i64 0, .int .i64 0])]) (.sq (.rg [o 3 (.fa (.r 1) 0), o 4 (.lv 1 false 1 (.r 3)), o 5 (.ca 103 [.r 4]), o 6 (.fa (.r 1) 0), oN (.sv 1 1 (.r 6) (.r 5))]) (.sq (.rg [o 7 (.lv 4 true 1 (.r 1)), oN (.sv 4 2 (.r 2) (.r 7))]) .rt))) [.cl 2 4 true]
theorem t67 : trF Try.prog [1, 2] [(1, 1), (2, 2), (3, 1), (6, 1)] Try.f67 = some c67 := by kernel_rfl
/-- laws.markAggS -/
def c68 : AF := .mk 55 2 (.sq (.rg [o 4 (.mv (ki 0))]) (.sq (.sq (.rg [o 5 (.mv (ki 0))]) (.bk 0 (.lp (.sq (.sq (.rg [o 6 (.mv (.r 5)), o 7 (.mv (.r 0)), o 8 (.ln (.r 7)), o 9 (.bi .lss (.r 6) (.r 8))]) (.cd (.r 9) .sk (.xt 0))) (.sq (.bk 1 (.sq (.rg [o 12 (.mv (.r 0)), o 13 (.mv (.r 5)), o 14 (.mv (.r 1)), o 15 (.ia 6 (.r 12) (.r 13)), o 16 (.fa (.r 15) 0), oN (.st 1 (.r 16) (.r 14))]) (.sq (.rg [o 17 (.mv (.r 1)), o 18 (.bi .add (.r 17) (ki 1)), o 1 (.mv (.r 18))]) (.sq (.rg [o 19 (.mv (.r 0)), o 20 (.mv (.r 5)), o 21 (.mv (.r 1)), o 22 (.ia 6 (.r 19) (.r 20)), o 23 (.fa (.r 22) 1), oN (.st 1 (.r 23) (.r 21))]) (.sq (.rg [o 24 (.mv (.r 1)), o 25 (.bi .add (.r 24) (ki 1)), o 1 (.mv (.r 25))]) (.sq (.rg [o 26 (.mv (.r 0)), o 27 (.mv (.r 5)), o 28 (.mv (.r 1)), o 29 (.ia 6 (.r 26) (.r 27)), o 30 (.fa (.r 29) 2), oN (.st 1 (.r 30) (.r 28))]) (.sq (.rg [o 31 (.mv (.r 1)), o 32 (.bi .add (.r 31) (ki 1)), o 1 (.mv (.r 32))]) (.sq (.rg [o 33 (.mv (.r 0)), o 34 (.mv (.r 5)), o 35 (.mv (.r 1)), o 36 (.ia 6 (.r 33) (.r 34)), o 37 (.fa (.r 36) 3), oN (.st 1 (.r 37) (.r 35))]) (.sq (.rg [o 38 (.mv (.r 1)), o 39 (.bi .add (.r 38) (ki 1)), o 1 (.mv (.r 39))]) (.sq (.rg [o 40 (.mv (.r 0)), o 41 (.mv (.r 5)), o 42 (.mv (.r 1)), o 43 (.ia 6 (.r 40) (.r 41)), o 44 (.fa (.r 43) 4), oN (.st 1 (.r 44) (.r 42))]) (.sq (.rg [o 45 (.mv (.r 1)), o 46 (.bi .add (.r 45) (ki 1)), o 1 (.mv (.r 46))]) (.sq (.rg [o 47 (.mv (.r 0)), o 48 (.mv (.r 5)), o 49 (.mv (.r 1)), o 50 (.ia 6 (.r 47) (.r 48)), o 51 (.fa (.r 50) 5), oN (.st 1 (.r 51) (.r 49))]) (.rg [o 52 (.mv (.r 1)), o 53 (.bi .add (.r 52) (ki 1)), o 1 (.mv (.r 53))]))))))))))))) (.rg [o 10 (.mv (.r 5)), o 11 (.bi .add (.r 10) (ki 1)), o 5 (.mv (.r 11))])))))) (.sq (.rg [o 54 (.mv (.r 1)), o 4 (.mv (.r 54))]) .rt))) [.tm 4]
theorem t68 : trF Try.prog [] [] Try.f68 = some c68 := by kernel_rfl
/-- laws.heldAggS -/
def c71 : AF := .mk 67 2 (.sq (.rg [o 4 (.mv (ki 0))]) (.sq (.sq (.rg [o 5 (.mv (ki 0))]) (.bk 0 (.lp (.sq (.sq (.rg [o 6 (.mv (.r 5)), o 7 (.mv (.r 0)), o 8 (.ln (.r 7)), o 9 (.bi .lss (.r 6) (.r 8))]) (.cd (.r 9) .sk (.xt 0))) (.sq (.bk 1 (.sq (.sq (.rg [o 12 (.mv (.r 0)), o 13 (.mv (.r 5)), o 14 (.ia 6 (.r 12) (.r 13)), o 15 (.fa (.r 14) 0), o 16 (.ld 1 false (.r 15)), o 17 (.mv (.r 1)), o 18 (.bi .neq (.r 16) (.r 17))]) (.cd (.r 18) (.sq (.rg [o 4 (.mv (ki (-1)))]) .rt) .sk)) (.sq (.rg [o 19 (.mv (.r 1)), o 20 (.bi .add (.r 19) (ki 1)), o 1 (.mv (.r 20))]) (.sq (.sq (.rg [o 21 (.mv (.r 0)), o 22 (.mv (.r 5)), o 23 (.ia 6 (.r 21) (.r 22)), o 24 (.fa (.r 23) 1), o 25 (.ld 1 false (.r 24)), o 26 (.mv (.r 1)), o 27 (.bi .neq (.r 25) (.r 26))]) (.cd (.r 27) (.sq (.rg [o 4 (.mv (ki (-1)))]) .rt) .sk)) (.sq (.rg [o 28 (.mv (.r 1)), o 29 (.bi .add (.r 28) (ki 1)), o 1 (.mv (.r 29))]) (.sq (.sq (.rg [o 30 (.mv (.r 0)), o 31 (.mv (.r 5)), o 32 (.ia 6 (.r 30) (.r 31)), o 33 (.fa (.r 32) 2), o 34 (.ld 1 false (.r 33)), o 35 (.mv (.r 1)), o 36 (.bi .neq (.r 34) (.r 35))]) (.cd (.r 36) (.sq (.rg [o 4 (.mv (ki (-1)))]) .rt) .sk)) (.sq (.rg [o 37 (.mv (.r 1)), o 38 (.bi .add (.r 37) (ki 1)), o 1 (.mv (.r 38))]) (.sq (.sq (.rg [o 39 (.mv (.r 0)), o 40 (.mv (.r 5)), o 41 (.ia 6 (.r 39) (.r 40)), o 42 (.fa (.r 41) 3), o 43 (.ld 1 false (.r 42)), o 44 (.mv (.r 1)), o 45 (.bi .neq (.r 43) (.r 44))]) (.cd (.r 45) (.sq (.rg [o 4 (.mv (ki (-1)))]) .rt) .sk)) (.sq (.rg [o 46 (.mv (.r 1)), o 47 (.bi .add (.r 46) (ki 1)), o 1 (.mv (.r 47))]) (.sq (.sq (.rg [o 48 (.mv (.r 0)), o 49 (.mv (.r 5)), o 50 (.ia 6 (.r 48) (.r 49)), o 51 (.fa (.r 50) 4), o 52 (.ld 1 false (.r 51)), o 53 (.mv (.r 1)), o 54 (.bi .neq (.r 52) (.r 53))]) (.cd (.r 54) (.sq (.rg [o 4 (.mv (ki (-1)))]) .rt) .sk)) (.sq (.rg [o 55 (.mv (.r 1)), o 56 (.bi .add (.r 55) (ki 1)), o 1 (.mv (.r 56))]) (.sq (.sq (.rg [o 57 (.mv (.r 0)), o 58 (.mv (.r 5)), o 59 (.ia 6 (.r 57) (.r 58)), o 60 (.fa (.r 59) 5), o 61 (.ld 1 false (.r 60)), o 62 (.mv (.r 1)), o 63 (.bi .neq (.r 61) (.r 62))]) (.cd (.r 63) (.sq (.rg [o 4 (.mv (ki (-1)))]) .rt) .sk)) (.rg [o 64 (.mv (.r 1)), o 65 (.bi .add (.r 64) (ki 1)), o 1 (.mv (.r 65))]))))))))))))) (.rg [o 10 (.mv (.r 5)), o 11 (.bi .add (.r 10) (ki 1)), o 5 (.mv (.r 11))])))))) (.sq (.rg [o 66 (.mv (.r 1)), o 4 (.mv (.r 66))]) .rt))) [.tm 4]
theorem t71 : trF Try.prog [] [] Try.f71 = some c71 := by kernel_rfl
/-- impl.ShardOk -/
def c79 : AF := .mk 32 1 (.sq (.rg [o 1 (.nb 4 (.r 0)), o 2 (.mv (.c (.bool false)))]) (.sq (.rg [o 3 (.fa (.r 1) 0), o 4 (.lv 1 false 1 (.r 3)), o 5 (.ln (.r 4)), o 6 (.bi .leq (.r 5) (ki 40)), o 7 (.mv (.r 6)), g 8 (7, true) (.fa (.r 1) 0), g 9 (7, true) (.lv 1 false 1 (.r 8)), g 10 (7, true) (.ca 111 [.r 9]), o 11 (.pk (.r 7) (.r 10) (.c (.bool false))), o 12 (.mv (.r 11)), g 13 (12, true) (.fa (.r 1) 0), g 14 (12, true) (.lv 1 false 1 (.r 13)), g 15 (12, true) (.ca 112 [.r 14]), o 16 (.pk (.r 12) (.r 15) (.c (.bool false))), o 17 (.mv (.r 16)), g 18 (17, true) (.fa (.r 1) 1), g 19 (17, true) (.lv 1 false 1 (.r 18)), g 20 (17, true) (.ca 113 [.r 19]), o 21 (.pk (.r 17) (.r 20) (.c (.bool false))), o 22 (.mv (.r 21)), g 23 (22, true) (.fa (.r 1) 2), g 24 (22, true) (.lv 1 false 1 (.r 23)), g 25 (22, true) (.ca 114 [.r 24]), o 26 (.pk (.r 22) (.r 25) (.c (.bool false))), o 27 (.mv (.r 26)), g 28 (27, true) (.fa (.r 1) 3), g 29 (27, true) (.lv 1 false 1 (.r 28)), g 30 (27, true) (.ca 114 [.r 29]), o 31 (.pk (.r 27) (.r 30) (.c (.bool false))), o 2 (.mv (.r 31))]) .rt)) [.tm 2]
theorem t79 : trF Try.prog [1] [(1, 1), (3, 1), (8, 1), (13, 1), (18, 1), (23, 1), (28, 1)] Try.f79 = some c79 := by kernel_rfl
/-- impl.isSize -/
def c80 : AF := .mk 5 1 (.sq (.rg [o 2 (.mv (.c (.bool false)))]) (.sq (.rg [o 3 (.mv (.r 0)), o 4 (.ca 81 [.r 3, ki 1, ki 1000000]), o 2 (.mv (.r 4))]) .rt)) [.tm 2]
theorem t80 : trF Try.prog [] [] Try.f80 = some c80 := by kernel_rfl
/-- impl.within -/
def c81 : AF := .mk 15 3 (.sq (.rg [o 6 (.mv (.c (.bool false)))]) (.sq (.rg [o 7 (.mv (.r 1)), o 8 (.mv (.r 0)), o 9 (.bi .leq (.r 7) (.r 8)), o 10 (.mv (.r 9)), g 11 (10, true) (.mv (.r 0)), g 12 (10, true) (.mv (.r 2)), g 13 (10, true) (.bi .leq (.r 11) (.r 12)), o 14 (.pk (.r 10) (.r 13) (.c (.bool false))), o 6 (.mv (.r 14))]) .rt)) [.tm 6]
theorem t81 : trF Try.prog [] [] Try.f81 = some c81 := by kernel_rfl
/-- spec.l04Mark -/
def c83 : AF := .mk 5 1 (.sq (.rg [o 2 (.mv (.c (.bool false)))]) (.sq (.rg [o 3 (.mv (.r 0)), o 4 (.ca 84 [.r 3, ki (-1), ki 1000000]), o 2 (.mv (.r 4))]) .rt)) [.tm 2]
theorem t83 : trF Try.prog [] [] Try.f83 = some c83 := by kernel_rfl
/-- spec.l01In -/
def c84 : AF := .mk 15 3 (.sq (.rg [o 6 (.mv (.c (.bool false)))]) (.sq (.rg [o 7 (.mv (.r 1)), o 8 (.mv (.r 0)), o 9 (.bi .leq (.r 7) (.r 8)), o 10 (.mv (.r 9)), g 11 (10, true) (.mv (.r 0)), g 12 (10, true) (.mv (.r 2)), g 13 (10, true) (.bi .leq (.r 11) (.r 12)), o 14 (.pk (.r 10) (.r 13) (.c (.bool false))), o 6 (.mv (.r 14))]) .rt)) [.tm 6]
theorem t84 : trF Try.prog [] [] Try.f84 = some c84 := by kernel_rfl
/-- spec.AggOk -/
def c85 : AF := .mk 38 1 (.sq (.rg [o 1 (.nb 6 (.r 0)), o 2 (.mv (.c (.bool false)))]) (.sq (.rg [o 3 (.fa (.r 1) 0), o 4 (.lv 1 false 1 (.r 3)), o 5 (.ca 84 [.r 4, ki 0, ki 1000000]), o 6 (.mv (.r 5)), g 7 (6, true) (.fa (.r 1) 1), g 8 (6, true) (.lv 1 false 1 (.r 7)), g 9 (6, true) (.ca 84 [.r 8, ki 0, ki 65535]), o 10 (.pk (.r 6) (.r 9) (.c (.bool false))), o 11 (.mv (.r 10)), g 12 (11, true) (.fa (.r 1) 2), g 13 (11, true) (.lv 1 false 1 (.r 12)), g 14 (11, true) (.ca 84 [.r 13, ki 1, ki 1000000000]), o 15 (.pk (.r 11) (.r 14) (.c (.bool false))), o 16 (.mv (.r 15)), g 17 (16, true) (.fa (.r 1) 3), g 18 (16, true) (.lv 1 false 1 (.r 17)), g 19 (16, true) (.ca 84 [.r 18, ki (-1000000000), ki 1000000000]), o 20 (.pk (.r 16) (.r 19) (.c (.bool false))), o 21 (.mv (.r 20)), g 22 (21, true) (.fa (.r 1) 4), g 23 (21, true) (.lv 1 false 1 (.r 22)), g 24 (21, true) (.ca 118 [.r 23]), o 25 (.pk (.r 21) (.r 24) (.c (.bool false))), o 26 (.mv (.r 25)), g 27 (26, true) (.fa (.r 1) 5), g 28 (26, true) (.lv 1 false 1 (.r 27)), g 29 (26, true) (.ca 118 [.r 28]), o 30 (.pk (.r 26) (.r 29) (.c (.bool false))), o 31 (.mv (.r 30)), g 32 (31, true) (.fa (.r 1) 4), g 33 (31, true) (.lv 1 false 1 (.r 32)), g 34 (31, true) (.fa (.r 1) 5), g 35 (31, true) (.lv 1 false 1 (.r 34)), g 36 (31, true) (.bi .leq (.r 33) (.r 35)), o 37 (.pk (.r 31) (.r 36) (.c (.bool false))), o 2 (.mv (.r 37))]) .rt)) [.tm 2]
theorem t85 : trF Try.prog [1] [(1, 1), (3, 1), (7, 1), (12, 1), (17, 1), (22, 1), (27, 1), (32, 1), (34, 1)] Try.f85 = some c85 := by kernel_rfl
/-- spec.l05Ahead -/
def c86 : AF := .mk 24 2 (.sq (.rg [o 2 (.nb 6 (.r 0)), o 3 (.nb 6 (.r 1)), o 4 (.mv (.c (.bool false)))]) (.sq (.rg [o 5 (.fa (.r 2) 0), o 6 (.lv 1 false 2 (.r 5)), o 7 (.fa (.r 3) 0), o 8 (.lv 1 false 3 (.r 7)), o 9 (.bi .lss (.r 6) (.r 8)), o 10 (.mv (.r 9)), g 11 (10, false) (.fa (.r 2) 0), g 12 (10, false) (.lv 1 false 2 (.r 11)), g 13 (10, false) (.fa (.r 3) 0), g 14 (10, false) (.lv 1 false 3 (.r 13)), g 15 (10, false) (.bi .eql (.r 12) (.r 14)), g 16 (10, false) (.mv (.r 15)), g 17 (16, true) (.fa (.r 2) 1), g 18 (16, true) (.lv 1 false 2 (.r 17)), g 19 (16, true) (.fa (.r 3) 1), g 20 (16, true) (.lv 1 false 3 (.r 19)), g 21 (16, true) (.bi .lss (.r 18) (.r 20)), g 22 (10, false) (.pk (.r 16) (.r 21) (.c (.bool false))), o 23 (.pk (.r 10) (.c (.bool true)) (.r 22)), o 4 (.mv (.r 23))]) .rt)) [.tm 4]
theorem t86 : trF Try.prog [2, 3] [(2, 2), (3, 3), (5, 2), (7, 3), (11, 2), (13, 3), (17, 2), (19, 3)] Try.f86 = some c86 := by kernel_rfl
/-- laws.szAggS -/
def c87 : AF := .mk 12 2 (.sq (.rg [o 4 (.mv (ki 0))]) (.sq (.rg [o 5 (.mv (.r 1)), o 6 (.mv (.r 0)), o 7 (.ln (.r 6)), o 8 (.bi .sub (.r 5) (.r 7)), o 1 (.mv (.r 8))]) (.sq (.sq (.rg [o 9 (.mv (.r 1)), o 10 (.bi .lss (.r 9) (ki 0))]) (.cd (.r 10) (.sq (.rg [o 4 (.mv (ki (-1)))]) .rt) .sk)) (.sq (.rg [o 11 (.mv (.r 1)), o 4 (.mv (.r 11))]) .rt)))) [.tm 4]
theorem t87 : trF Try.prog [] [] Try.f87 = some c87 := by kernel_rfl
/-- spec.l05Copy -/
def c88 : AF := .mk 30 1 (.sq (.rg [o 1 (.nb 4 (.r 0)), o 2 (.nz [.slice none 0 0, .int .i64 0, .int .i64 0, .int .i64 0])]) (.sq (.rg [o 5 (.fa (.r 1) 1), o 6 (.lv 1 false 1 (.r 5)), o 7 (.fa (.r 1) 2), o 8 (.lv 1 false 1 (.r 7)), o 9 (.fa (.r 1) 3), o 10 (.lv 1 false 1 (.r 9)), o 11 (.bd [.slice none 0 0, .int .i64 0, .int .i64 0, .int .i64 0] [(1, 1, .r 6), (2, 1, .r 8), (3, 1, .r 10)]), o 3 (.nz [.slice none 0 0, .int .i64 0, .int .i64 0, .int .i64 0]), oN (.sv 4 3 (.r 3) (.r 11))]) (.sq (.sq (.rg [o 4 (.mv (ki 0))]) (.bk 0 (.lp (.sq (.sq (.rg [o 12 (.mv (.r 4)), o 13 (.fa (.r 1) 0), o 14 (.lv 1 false 1 (.r 13)), o 15 (.ln (.r 14)), o 16 (.bi .lss (.r 12) (.r 15))]) (.cd (.r 16) .sk (.xt 0))) (.sq (.bk 1 (.rg [o 19 (.fa (.r 3) 0), o 21 (.fa (.r 1) 0), o 23 (.mv (.r 4)), o 20 (.lv 1 false 3 (.r 19)), o 22 (.lv 1 false 1 (.r 21)), o 24 (.ia 6 (.r 22) (.r 23)), o 25 (.ld 6 true (.r 24)), o 26 (.bs 81 6 1 [.int .i64 0, .int .i64 0, .int .i64 0, .int .i64 0, .int .i64 0, .int .i64 0] [(0, .r 25)]), o 27 (.ap 81 6 48 [.int .i64 0, .int .i64 0, .int .i64 0, .int .i64 0, .int .i64 0, .int .i64 0] (.r 20) (.r 26)), o 28 (.fa (.r 3) 0), oN (.sv 1 3 (.r 28) (.r 27))])) (.rg [o 17 (.mv (.r 4)), o 18 (.bi .add (.r 17) (ki 1)), o 4 (.mv (.r 18))])))))) (.sq (.rg [o 29 (.lv 4 true 3 (.r 3)), oN (.sv 4 2 (.r 2) (.r 29))]) .rt)))) [.cl 2 4 true]
theorem t88 : trF Try.prog [1, 2, 3] [(1, 1), (2, 2), (3, 3), (5, 1), (7, 1), (9, 1), (13, 1), (19, 3), (21, 1), (28, 3)] Try.f88 = some c88 := by kernel_rfl
/-- laws.toAggS -/
def c93 : AF := .mk 23 1 (.sq (.rg [o 2 (.mv (.c (.slice none 0 0)))]) (.sq (.rg [o 5 (.mv (.r 0)), o 6 (.ln (.r 5)), o 7 (.ms 81 6 48 [.int .i64 0, .int .i64 0, .int .i64 0, .int .i64 0, .int .i64 0, .int .i64 0] (.r 6) (.r 6)), o 3 (.mv (.r 7))]) (.sq (.sq (.rg [o 4 (.mv (ki 0))]) (.bk 0 (.lp (.sq (.sq (.rg [o 8 (.mv (.r 4)), o 9 (.mv (.r 0)), o 10 (.ln (.r 9)), o 11 (.bi .lss (.r 8) (.r 10))]) (.cd (.r 11) .sk (.xt 0))) (.sq (.bk 1 (.rg [o 14 (.mv (.r 3)), o 15 (.mv (.r 4)), o 16 (.mv (.r 0)), o 17 (.mv (.r 4)), o 18 (.ia 6 (.r 16) (.r 17)), o 19 (.ld 6 true (.r 18)), o 20 (.ca 123 [.r 19]), o 21 (.ia 6 (.r 14) (.r 15)), oN (.st 6 (.r 21) (.r 20))])) (.rg [o 12 (.mv (.r 4)), o 13 (.bi .add (.r 12) (ki 1)), o 4 (.mv (.r 13))])))))) (.sq (.rg [o 22 (.mv (.r 3)), o 2 (.mv (.r 22))]) .rt)))) [.tm 2]
theorem t93 : trF Try.prog [] [] Try.f93 = some c93 := by kernel_rfl
/-- laws.eqAggS -/
def c95 : AF := .mk 27 2 (.sq (.rg [o 4 (.mv (.c (.bool false)))]) (.sq (.sq (.rg [o 6 (.mv (.r 0)), o 7 (.ln (.r 6)), o 8 (.mv (.r 1)), o 9 (.ln (.r 8)), o 10 (.bi .neq (.r 7) (.r 9))]) (.cd (.r 10) (.sq (.rg [o 4 (.mv (.c (.bool false)))]) .rt) .sk)) (.sq (.sq (.rg [o 5 (.mv (ki 0))]) (.bk 0 (.lp (.sq (.sq (.rg [o 11 (.mv (.r 5)), o 12 (.mv (.r 0)), o 13 (.ln (.r 12)), o 14 (.bi .lss (.r 11) (.r 13))]) (.cd (.r 14) .sk (.xt 0))) (.sq (.bk 1 (.sq (.rg [o 17 (.mv (.r 0)), o 18 (.mv (.r 5)), o 19 (.ia 6 (.r 17) (.r 18)), o 21 (.mv (.r 1)), o 22 (.mv (.r 5)), o 23 (.ia 6 (.r 21) (.r 22)), o 20 (.ld 6 true (.r 19)), o 24 (.ld 6 true (.r 23)), o 25 (.ca 124 [.r 20, .r 24]), o 26 (.un .not (.r 25))]) (.cd (.r 26) (.sq (.rg [o 4 (.mv (.c (.bool false)))]) .rt) .sk))) (.rg [o 15 (.mv (.r 5)), o 16 (.bi .add (.r 15) (ki 1)), o 5 (.mv (.r 16))])))))) (.sq (.rg [o 4 (.mv (.c (.bool true)))]) .rt)))) [.tm 4]
theorem t95 : trF Try.prog [] [] Try.f95 = some c95 := by kernel_rfl
/-- impl.SaveOk -/
def c98 : AF := .mk 11 1 (.sq (.rg [o 1 (.nb 5 (.r 0)), o 2 (.mv (.c (.bool false)))]) (.sq (.rg [o 3 (.fa (.r 1) 0), o 4 (.lv 1 false 1 (.r 3)), o 5 (.ca 81 [.r 4, ki 0, ki 300]), o 6 (.mv (.r 5)), g 7 (6, true) (.fa (.r 1) 1), g 8 (6, true) (.lv 4 true 1 (.r 7)), g 9 (6, true) (.ca 79 [.r 8]), o 10 (.pk (.r 6) (.r 9) (.c (.bool false))), o 2 (.mv (.r 10))]) .rt)) [.tm 2]
theorem t98 : trF Try.prog [1] [(1, 1), (3, 1), (7, 1)] Try.f98 = some c98 := by kernel_rfl
/-- impl.Save] -/
def c101 : AF := .mk 9 2 (.sq (.rg [o 4 (.mv (.c (.bool false)))]) (.sq (.rg [o 5 (.mv (.r 0)), o 6 (.mv (.r 1)), o 7 (.ca 125 [.r 5, .r 6]), o 8 (.bi .geq (.r 7) (ki 0)), o 4 (.mv (.r 8))]) .rt)) [.tm 4]
theorem t101 : trF Try.prog [] [] Try.f101 = some c101 := by kernel_rfl
/-- impl.areSaves$1 -/
def c102 : AF := .mk 6 1 (.sq (.rg [o 1 (.nb 5 (.r 0)), o 2 (.mv (.c (.bool false)))]) (.sq (.rg [o 3 (.lv 5 true 1 (.r 1)), o 4 (.ca 98 [.r 3]), o 5 (.un .not (.r 4)), o 2 (.mv (.r 5))]) .rt)) [.tm 2]
theorem t102 : trF Try.prog [1] [(1, 1)] Try.f102 = some c102 := by kernel_rfl
/-- impl.Agg] -/
def c103 : AF := .mk 8 1 (.sq (.rg [o 2 (.mv (.c (.slice none 0 0)))]) (.sq (.sq (.rg [o 3 (.mv (.r 0)), o 4 (.es false (.r 3) (.c (.slice none 0 0)))]) (.cd (.r 4) (.sq (.rg [o 2 (.mv (.c (.slice none 0 0)))]) .rt) .sk)) (.sq (.rg [o 5 (.bs 81 6 0 [.int .i64 0, .int .i64 0, .int .i64 0, .int .i64 0, .int .i64 0, .int .i64 0] []), o 6 (.mv (.r 0)), o 7 (.ap 81 6 48 [.int .i64 0, .int .i64 0, .int .i64 0, .int .i64 0, .int .i64 0, .int .i64 0] (.r 5) (.r 6)), o 2 (.mv (.r 7))]) .rt))) [.tm 2]
theorem t103 : trF Try.prog [] [] Try.f103 = some c103 := by kernel_rfl
/-- impl.areAggs -/
def c111 : AF := .mk 6 1 (.sq (.rg [o 2 (.mv (.c (.bool false)))]) (.sq (.rg [o 3 (.mv (.r 0)), o 4 (.ca 130 [.r 3, .f 131]), o 5 (.un .not (.r 4)), o 2 (.mv (.r 5))]) .rt)) [.tm 2]
theorem t111 : trF Try.prog [] [] Try.f111 = some c111 := by kernel_rfl
/-- impl.areSorted -/
def c112 : AF := .mk 21 1 (.sq (.rg [o 2 (.mv (.c (.bool false)))]) (.sq (.sq (.rg [o 3 (.mv (ki 1))]) (.bk 0 (.lp (.sq (.sq (.rg [o 4 (.mv (.r 3)), o 5 (.mv (.r 0)), o 6 (.ln (.r 5)), o 7 (.bi .lss (.r 4) (.r 6))]) (.cd (.r 7) .sk (.xt 0))) (.sq (.bk 1 (.sq (.rg [o 10 (.mv (.r 0)), o 11 (.mv (.r 3)), o 12 (.bi .sub (.r 11) (ki 1)), o 13 (.ia 6 (.r 10) (.r 12)), o 15 (.mv (.r 0)), o 16 (.mv (.r 3)), o 17 (.ia 6 (.r 15) (.r 16)), o 14 (.ld 6 true (.r 13)), o 18 (.ld 6 true (.r 17)), o 19 (.ca 133 [.r 14, .r 18]), o 20 (.bi .geq (.r 19) (ki 0))]) (.cd (.r 20) (.sq (.rg [o 2 (.mv (.c (.bool false)))]) .rt) .sk))) (.rg [o 8 (.mv (.r 3)), o 9 (.bi .add (.r 8) (ki 1)), o 3 (.mv (.r 9))])))))) (.sq (.rg [o 2 (.mv (.c (.bool true)))]) .rt))) [.tm 2]
theorem t112 : trF Try.prog [] [] Try.f112 = some c112 := by kernel_rfl
/-- impl.isMark -/
def c113 : AF := .mk 5 1 (.sq (.rg [o 2 (.mv (.c (.bool false)))]) (.sq (.rg [o 3 (.mv (.r 0)), o 4 (.ca 81 [.r 3, ki (-1), ki 1000000]), o 2 (.mv (.r 4))]) .rt)) [.tm 2]
theorem t113 : trF Try.prog [] [] Try.f113 = some c113 := by kernel_rfl
/-- impl.isMany -/
def c114 : AF := .mk 5 1 (.sq (.rg [o 2 (.mv (.c (.bool false)))]) (.sq (.rg [o 3 (.mv (.r 0)), o 4 (.ca 81 [.r 3, ki 0, ki 1000000000]), o 2 (.mv (.r 4))]) .rt)) [.tm 2]
theorem t114 : trF Try.prog [] [] Try.f114 = some c114 := by kernel_rfl
/-- spec.l05Value -/
def c118 : AF := .mk 5 1 (.sq (.rg [o 2 (.mv (.c (.bool false)))]) (.sq (.rg [o 3 (.mv (.r 0)), o 4 (.ca 84 [.r 3, ki (-1000000), ki 1000000]), o 2 (.mv (.r 4))]) .rt)) [.tm 2]
theorem t118 : trF Try.prog [] [] Try.f118 = some c118 := by kernel_rfl
/-- laws.toAgg -/
def c123 : AF := .mk 23 1 (.sq (.rg [o 1 (.nb 6 (.r 0)), o 2 (.nz [.int .i64 0, .int .i64 0, .int .i64 0, .int .i64 0, .int .i64 0, .int .i64 0])]) (.sq (.rg [o 3 (.nz [.int .i64 0, .int .i64 0, .int .i64 0, .int .i64 0, .int .i64 0, .int .i64 0])]) (.sq (.rg [o 4 (.fa (.r 1) 0), o 5 (.lv 1 false 1 (.r 4)), o 6 (.fa (.r 3) 0), oN (.sv 1 3 (.r 6) (.r 5))]) (.sq (.rg [o 7 (.fa (.r 1) 1), o 8 (.lv 1 false 1 (.r 7)), o 9 (.fa (.r 3) 1), oN (.sv 1 3 (.r 9) (.r 8))]) (.sq (.rg [o 10 (.fa (.r 1) 2), o 11 (.lv 1 false 1 (.r 10)), o 12 (.fa (.r 3) 2), oN (.sv 1 3 (.r 12) (.r 11))]) (.sq (.rg [o 13 (.fa (.r 1) 3), o 14 (.lv 1 false 1 (.r 13)), o 15 (.fa (.r 3) 3), oN (.sv 1 3 (.r 15) (.r 14))]) (.sq (.rg [o 16 (.fa (.r 1) 4), o 17 (.lv 1 false 1 (.r 16)), o 18 (.fa (.r 3) 4), oN (.sv 1 3 (.r 18) (.r 17))]) (.sq (.rg [o 19 (.fa (.r 1) 5), o 20 (.lv 1 false 1 (.r 19)), o 21 (.fa (.r 3) 5), oN (.sv 1 3 (.r 21) (.r 20))]) (.sq (.rg [o 22 (.lv 6 true 3 (.r 3)), oN (.sv 6 2 (.r 2) (.r 22))]) .rt))))))))) [.cl 2 6 true]
theorem t123 : trF Try.prog [1, 2, 3] [(1, 1), (2, 2), (3, 3), (4, 1), (6, 3), (7, 1), (9, 3), (10, 1), (12, 3), (13, 1), (15, 3), (16, 1), (18, 3), (19, 1), (21, 3)] Try.f123 = some c123 := by kernel_rfl
/-- laws.eqAgg -/
def c124 : AF := .mk 35 2 (.sq (.rg [o 2 (.nb 6 (.r 0)), o 3 (.nb 6 (.r 1)), o 4 (.mv (.c (.bool false)))]) (.sq (.sq (.rg [o 5 (.fa (.r 2) 0), o 6 (.lv 1 false 2 (.r 5)), o 7 (.fa (.r 3) 0), o 8 (.lv 1 false 3 (.r 7)), o 9 (.bi .neq (.r 6) (.r 8))]) (.cd (.r 9) (.sq (.rg [o 4 (.mv (.c (.bool false)))]) .rt) .sk)) (.sq (.sq (.rg [o 10 (.fa (.r 2) 1), o 11 (.lv 1 false 2 (.r 10)), o 12 (.fa (.r 3) 1), o 13 (.lv 1 false 3 (.r 12)), o 14 (.bi .neq (.r 11) (.r 13))]) (.cd (.r 14) (.sq (.rg [o 4 (.mv (.c (.bool false)))]) .rt) .sk)) (.sq (.sq (.rg [o 15 (.fa (.r 2) 2), o 16 (.lv 1 false 2 (.r 15)), o 17 (.fa (.r 3) 2), o 18 (.lv 1 false 3 (.r 17)), o 19 (.bi .neq (.r 16) (.r 18))]) (.cd (.r 19) (.sq (.rg [o 4 (.mv (.c (.bool false)))]) .rt) .sk)) (.sq (.sq (.rg [o 20 (.fa (.r 2) 3), o 21 (.lv 1 false 2 (.r 20)), o 22 (.fa (.r 3) 3), o 23 (.lv 1 false 3 (.r 22)), o 24 (.bi .neq (.r 21) (.r 23))]) (.cd (.r 24) (.sq (.rg [o 4 (.mv (.c (.bool false)))]) .rt) .sk)) (.sq (.sq (.rg [o 25 (.fa (.r 2) 4), o 26 (.lv 1 false 2 (.r 25)), o 27 (.fa (.r 3) 4), o 28 (.lv 1 false 3 (.r 27)), o 29 (.bi .neq (.r 26) (.r 28))]) (.cd (.r 29) (.sq (.rg [o 4 (.mv (.c (.bool false)))]) .rt) .sk)) (.sq (.sq (.rg [o 30 (.fa (.r 2) 5), o 31 (.lv 1 false 2 (.r 30)), o 32 (.fa (.r 3) 5), o 33 (.lv 1 false 3 (.r 32)), o 34 (.bi .neq (.r 31) (.r 33))]) (.cd (.r 34) (.sq (.rg [o 4 (.mv (.c (.bool false)))]) .rt) .sk)) (.sq (.rg [o 4 (.mv (.c (.bool true)))]) .rt)))))))) [.tm 4]
theorem t124 : trF Try.prog [2, 3] [(2, 2), (3, 3), (5, 2), (7, 3), (10, 2), (12, 3), (15, 2), (17, 3), (20, 2), (22, 3), (25, 2), (27, 3), (30, 2), (32, 3)] Try.f124 = some c124 := by kernel_rfl
/-- impl.Save] -/
def c125 : AF := .mk 19 2 (.sq (.rg [o 4 (.mv (ki 0))]) (.sq (.sq (.rg [o 6 (.mv (.r 0)), o 7 (.ln (.r 6)), o 8 (.mv (ki 0))]) (.bk 0 (.lp (.sq (.rg [o 9 (.bi .lss (.r 8) (.r 7))]) (.sq (.cd (.r 9) .sk (.xt 0)) (.sq (.bk 1 (.sq (.rg [o 10 (.mv (.r 8)), o 5 (.mv (.r 10))]) (.sq (.rg [o 11 (.mv (.r 1)), o 12 (.mv (.r 0)), o 13 (.mv (.r 5)), o 14 (.ia 5 (.r 12) (.r 13)), o 15 (.ld 5 true (.r 14)), o 16 (.cf (.r 11) [.r 15])]) (.cd (.r 16) (.sq (.rg [o 17 (.mv (.r 5)), o 4 (.mv (.r 17))]) .rt) .sk)))) (.rg [o 18 (.bi .add (.r 8) (ki 1)), o 8 (.mv (.r 18))]))))))) (.sq (.rg [o 4 (.mv (ki (-1)))]) .rt))) [.tm 4]
theorem t125 : trF Try.prog [] [] Try.f125 = some c125 := by kernel_rfl
/-- impl.Agg] -/
def c130 : AF := .mk 9 2 (.sq (.rg [o 4 (.mv (.c (.bool false)))]) (.sq (.rg [o 5 (.mv (.r 0)), o 6 (.mv (.r 1)), o 7 (.ca 146 [.r 5, .r 6]), o 8 (.bi .geq (.r 7) (ki 0)), o 4 (.mv (.r 8))]) .rt)) [.tm 4]
theorem t130 : trF Try.prog [] [] Try.f130 = some c130 := by kernel_rfl
/-- impl.areAggs$1 -/
def c131 : AF := .mk 6 1 (.sq (.rg [o 1 (.nb 6 (.r 0)), o 2 (.mv (.c (.bool false)))]) (.sq (.rg [o 3 (.lv 6 true 1 (.r 1)), o 4 (.ca 132 [.r 3]), o 5 (.un .not (.r 4)), o 2 (.mv (.r 5))]) .rt)) [.tm 2]
theorem t131 : trF Try.prog [1] [(1, 1)] Try.f131 = some c131 := by kernel_rfl
/-- impl.AggOk -/
def c132 : AF := .mk 38 1 (.sq (.rg [o 1 (.nb 6 (.r 0)), o 2 (.mv (.c (.bool false)))]) (.sq (.rg [o 3 (.fa (.r 1) 0), o 4 (.lv 1 false 1 (.r 3)), o 5 (.ca 135 [.r 4]), o 6 (.mv (.r 5)), g 7 (6, true) (.fa (.r 1) 1), g 8 (6, true) (.lv 1 false 1 (.r 7)), g 9 (6, true) (.ca 134 [.r 8]), o 10 (.pk (.r 6) (.r 9) (.c (.bool false))), o 11 (.mv (.r 10)), g 12 (11, true) (.fa (.r 1) 2), g 13 (11, true) (.lv 1 false 1 (.r 12)), g 14 (11, true) (.ca 81 [.r 13, ki 1, ki 1000000000]), o 15 (.pk (.r 11) (.r 14) (.c (.bool false))), o 16 (.mv (.r 15)), g 17 (16, true) (.fa (.r 1) 3), g 18 (16, true) (.lv 1 false 1 (.r 17)), g 19 (16, true) (.ca 147 [.r 18]), o 20 (.pk (.r 16) (.r 19) (.c (.bool false))), o 21 (.mv (.r 20)), g 22 (21, true) (.fa (.r 1) 4), g 23 (21, true) (.lv 1 false 1 (.r 22)), g 24 (21, true) (.ca 136 [.r 23]), o 25 (.pk (.r 21) (.r 24) (.c (.bool false))), o 26 (.mv (.r 25)), g 27 (26, true) (.fa (.r 1) 5), g 28 (26, true) (.lv 1 false 1 (.r 27)), g 29 (26, true) (.ca 136 [.r 28]), o 30 (.pk (.r 26) (.r 29) (.c (.bool false))), o 31 (.mv (.r 30)), g 32 (31, true) (.fa (.r 1) 4), g 33 (31, true) (.lv 1 false 1 (.r 32)), g 34 (31, true) (.fa (.r 1) 5), g 35 (31, true) (.lv 1 false 1 (.r 34)), g 36 (31, true) (.bi .leq (.r 33) (.r 35)), o 37 (.pk (.r 31) (.r 36) (.c (.bool false))), o 2 (.mv (.r 37))]) .rt)) [.tm 2]
theorem t132 : trF Try.prog [1] [(1, 1), (3, 1), (7, 1), (12, 1), (17, 1), (22, 1), (27, 1), (32, 1), (34, 1)] Try.f132 = some c132 := by kernel_rfl
/-- impl.aggOrder -/
def c133 : AF := .mk 17 2 (.sq (.rg [o 2 (.nb 6 (.r 0)), o 3 (.nb 6 (.r 1)), o 4 (.mv (ki 0))]) (.sq (.rg [o 5 (.fa (.r 2) 0), o 7 (.fa (.r 3) 0), o 10 (.fa (.r 2) 1), o 12 (.fa (.r 3) 1), o 6 (.lv 1 false 2 (.r 5)), o 8 (.lv 1 false 3 (.r 7)), o 11 (.lv 1 false 2 (.r 10)), o 13 (.lv 1 false 3 (.r 12)), o 9 (.ca 149 [.r 6, .r 8]), o 14 (.ca 149 [.r 11, .r 13]), o 15 (.bs 3 1 2 [.int .i64 0] [(0, .r 9), (1, .r 14)]), o 16 (.ca 148 [.r 15]), o 4 (.mv (.r 16))]) .rt)) [.tm 4]
theorem t133 : trF Try.prog [2, 3] [(2, 2), (3, 3), (5, 2), (7, 3), (10, 2), (12, 3)] Try.f133 = some c133 := by kernel_rfl
/-- impl.isKey -/
def c134 : AF := .mk 5 1 (.sq (.rg [o 2 (.mv (.c (.bool false)))]) (.sq (.rg [o 3 (.mv (.r 0)), o 4 (.ca 81 [.r 3, ki 0, ki 65535]), o 2 (.mv (.r 4))]) .rt)) [.tm 2]
theorem t134 : trF Try.prog [] [] Try.f134 = some c134 := by kernel_rfl
/-- impl.isTime -/
def c135 : AF := .mk 5 1 (.sq (.rg [o 2 (.mv (.c (.bool false)))]) (.sq (.rg [o 3 (.mv (.r 0)), o 4 (.ca 81 [.r 3, ki 0, ki 1000000]), o 2 (.mv (.r 4))]) .rt)) [.tm 2]
theorem t135 : trF Try.prog [] [] Try.f135 = some c135 := by kernel_rfl
/-- impl.isValue -/
def c136 : AF := .mk 5 1 (.sq (.rg [o 2 (.mv (.c (.bool false)))]) (.sq (.rg [o 3 (.mv (.r 0)), o 4 (.ca 81 [.r 3, ki (-1000000), ki 1000000]), o 2 (.mv (.r 4))]) .rt)) [.tm 2]
theorem t136 : trF Try.prog [] [] Try.f136 = some c136 := by kernel_rfl
/-- impl.Agg] -/
def c146 : AF := .mk 19 2 (.sq (.rg [o 4 (.mv (ki 0))]) (.sq (.sq (.rg [o 6 (.mv (.r 0)), o 7 (.ln (.r 6)), o 8 (.mv (ki 0))]) (.bk 0 (.lp (.sq (.rg [o 9 (.bi .lss (.r 8) (.r 7))]) (.sq (.cd (.r 9) .sk (.xt 0)) (.sq (.bk 1 (.sq (.rg [o 10 (.mv (.r 8)), o 5 (.mv (.r 10))]) (.sq (.rg [o 11 (.mv (.r 1)), o 12 (.mv (.r 0)), o 13 (.mv (.r 5)), o 14 (.ia 6 (.r 12) (.r 13)), o 15 (.ld 6 true (.r 14)), o 16 (.cf (.r 11) [.r 15])]) (.cd (.r 16) (.sq (.rg [o 17 (.mv (.r 5)), o 4 (.mv (.r 17))]) .rt) .sk)))) (.rg [o 18 (.bi .add (.r 8) (ki 1)), o 8 (.mv (.r 18))]))))))) (.sq (.rg [o 4 (.mv (ki (-1)))]) .rt))) [.tm 4]
theorem t146 : trF Try.prog [] [] Try.f146 = some c146 := by kernel_rfl
/-- impl.isSum -/
def c147 : AF := .mk 5 1 (.sq (.rg [o 2 (.mv (.c (.bool false)))]) (.sq (.rg [o 3 (.mv (.r 0)), o 4 (.ca 81 [.r 3, ki (-1000000000), ki 1000000000]), o 2 (.mv (.r 4))]) .rt)) [.tm 2]
theorem t147 : trF Try.prog [] [] Try.f147 = some c147 := by kernel_rfl
/-- cmp.Or[int] -/
def c148 : AF := .mk 18 1 (.sq (.rg [o 2 (.mv (ki 0))]) (.sq (.rg [o 3 (.mv (ki 0))]) (.sq (.sq (.rg [o 6 (.mv (.r 0)), o 7 (.ln (.r 6)), o 8 (.mv (ki 0))]) (.bk 0 (.lp (.sq (.rg [o 9 (.bi .lss (.r 8) (.r 7))]) (.sq (.cd (.r 9) .sk (.xt 0)) (.sq (.bk 1 (.sq (.rg [o 10 (.ia 1 (.r 6) (.r 8)), o 11 (.ld 1 false (.r 10)), o 5 (.mv (.r 11))]) (.sq (.rg [o 12 (.mv (.r 5)), o 13 (.mv (.r 3)), o 14 (.bi .neq (.r 12) (.r 13))]) (.cd (.r 14) (.sq (.rg [o 15 (.mv (.r 5)), o 2 (.mv (.r 15))]) .rt) .sk)))) (.rg [o 16 (.bi .add (.r 8) (ki 1)), o 8 (.mv (.r 16))]))))))) (.sq (.rg [o 17 (.mv (.r 3)), o 2 (.mv (.r 17))]) .rt)))) [.tm 2]
theorem t148 : trF Try.prog [] [] Try.f148 = some c148 := by kernel_rfl
/-- cmp.Compare[int] -/
def c149 : AF := .mk 20 2 (.sq (.rg [o 4 (.mv (ki 0))]) (.sq (.rg [o 7 (.mv (.r 0)), o 8 (.ca 153 [.r 7]), o 5 (.mv (.r 8))]) (.sq (.rg [o 9 (.mv (.r 1)), o 10 (.ca 153 [.r 9]), o 6 (.mv (.r 10))]) (.sq (.sq (.rg [o 11 (.mv (.r 5))]) (.cd (.r 11) (.sq (.sq (.rg [o 12 (.mv (.r 6))]) (.cd (.r 12) (.sq (.rg [o 4 (.mv (ki 0))]) .rt) .sk)) (.sq (.rg [o 4 (.mv (ki (-1)))]) .rt)) .sk)) (.sq (.sq (.rg [o 13 (.mv (.r 6))]) (.cd (.r 13) (.sq (.rg [o 4 (.mv (ki 1))]) .rt) .sk)) (.sq (.sq (.rg [o 14 (.mv (.r 0)), o 15 (.mv (.r 1)), o 16 (.bi .lss (.r 14) (.r 15))]) (.cd (.r 16) (.sq (.rg [o 4 (.mv (ki (-1)))]) .rt) .sk)) (.sq (.sq (.rg [o 17 (.mv (.r 0)), o 18 (.mv (.r 1)), o 19 (.bi .gtr (.r 17) (.r 18))]) (.cd (.r 19) (.sq (.rg [o 4 (.mv (ki 1))]) .rt) .sk)) (.sq (.rg [o 4 (.mv (ki 0))]) .rt)))))))) [.tm 4]
theorem t149 : trF Try.prog [] [] Try.f149 = some c149 := by kernel_rfl
/-- cmp.isNaN[int] -/
def c153 : AF := .mk 6 1 (.sq (.rg [o 2 (.mv (.c (.bool false)))]) (.sq (.rg [o 3 (.mv (.r 0)), o 4 (.mv (.r 0)), o 5 (.bi .neq (.r 3) (.r 4)), o 2 (.mv (.r 5))]) .rt)) [.tm 2]
theorem t153 : trF Try.prog [] [] Try.f153 = some c153 := by kernel_rfl
end Go.Proofs.Ytbmoifddenagiaa.C
open Go Go.HL Go.Proofs
namespace Go.Proofs.Ytbmoifddenagiaa.C
set_option linter.unusedVariables false
set_option maxRecDepth 100000
set_option linter.unusedSimpArgs false
variable {H : Hp} {Q : Value → Hp → Prop}

@[irreducible] def inR (x lo hi : Int) : Bool := decide (lo ≤ x) && decide (x ≤ hi)
structure Agg where
  win : Int
  key : Int
  cnt : Int
  sum : Int
  mn : Int
  mx : Int
  deriving DecidableEq
structure Frame where
  kind : Int
  key : Int
  time : Int
  val : Int
  deriving DecidableEq
def encA (a : Agg) : List Value := [vi a.win, vi a.key, vi a.cnt, vi a.sum, vi a.mn, vi a.mx]
def encF (f : Frame) : List Value := [vi f.kind, vi f.key, vi f.time, vi f.val]
def va (a : Agg) : Value := .agg #[vi a.win, vi a.key, vi a.cnt, vi a.sum, vi a.mn, vi a.mx]
def vf (f : Frame) : Value := .agg #[vi f.kind, vi f.key, vi f.time, vi f.val]

theorem l01In_c {n lo hi : Int} (h : Q (vb (inR n lo hi)) H) : CallR Try.prog 84 [vi n, vi lo, vi hi] H Q := by
  refine callR_body Try.func84 t84 rfl ?_
  dsimp only [c84]
  repeat' first
    | ((with_reducible apply S_pv); · rfl)
    | ((with_reducible apply S_sv); · rfl)
    | with_reducible apply S_nil2
    | with_reducible apply S_sq
    | with_reducible apply S_rg
    | ((with_reducible apply S_nv); · rfl)
    | ((with_reducible apply S_gt); · rfl)
    | ((with_reducible apply S_gf); · rfl)
    | ((with_reducible apply S_gu); · rfl)
    | ((with_reducible apply S_gs); (· rfl); all_goals (intro hc; rw [hc]))
    | ((with_reducible apply S_pks); (· rfl); all_goals (intro hc; rw [hc]))
    | ((with_reducible apply S_cdt); · rfl)
    | ((with_reducible apply S_cdf); · rfl)
    | ((with_reducible apply S_cd); (· rfl); all_goals (intro hc))
    | with_reducible apply S_rt
    | with_reducible apply S_bk
    | with_reducible apply S_sk
    | with_reducible apply S_xt
    | with_reducible apply S_q2
    | with_reducible apply S_q7
    | with_reducible apply S_q1
    | with_reducible apply S_q3
    | with_reducible apply S_q4
    | with_reducible apply S_q6
    | ((with_reducible apply S_q5); · rfl)
    | ((with_reducible apply S_fin); · rfl)
    | ((with_reducible apply S_fin'); · rfl)
  all_goals (simp only [inR, *, Bool.true_and, Bool.false_and] at h; exact h)
theorem within_c {n lo hi : Int} (h : Q (vb (inR n lo hi)) H) : CallR Try.prog 81 [vi n, vi lo, vi hi] H Q := by
  refine callR_body Try.func81 t81 rfl ?_
  dsimp only [c81]
  repeat' first
    | ((with_reducible apply S_pv); · rfl)
    | ((with_reducible apply S_sv); · rfl)
    | with_reducible apply S_nil2
    | with_reducible apply S_sq
    | with_reducible apply S_rg
    | ((with_reducible apply S_nv); · rfl)
    | ((with_reducible apply S_gt); · rfl)
    | ((with_reducible apply S_gf); · rfl)
    | ((with_reducible apply S_gu); · rfl)
    | ((with_reducible apply S_gs); (· rfl); all_goals (intro hc; rw [hc]))
    | ((with_reducible apply S_pks); (· rfl); all_goals (intro hc; rw [hc]))
    | ((with_reducible apply S_cdt); · rfl)
    | ((with_reducible apply S_cdf); · rfl)
    | ((with_reducible apply S_cd); (· rfl); all_goals (intro hc))
    | with_reducible apply S_rt
    | with_reducible apply S_bk
    | with_reducible apply S_sk
    | with_reducible apply S_xt
    | with_reducible apply S_q2
    | with_reducible apply S_q7
    | with_reducible apply S_q1
    | with_reducible apply S_q3
    | with_reducible apply S_q4
    | with_reducible apply S_q6
    | ((with_reducible apply S_q5); · rfl)
    | ((with_reducible apply S_fin); · rfl)
    | ((with_reducible apply S_fin'); · rfl)
  all_goals (simp only [inR, *, Bool.true_and, Bool.false_and] at h; exact h)
theorem l04Mark_c {n : Int} (h : Q (vb (inR n (-1) 1000000)) H) : CallR Try.prog 83 [vi n] H Q := by
  refine callR_body Try.func83 t83 rfl ?_
  dsimp only [c83]
  repeat' first
    | ((with_reducible apply S_pv); · rfl)
    | ((with_reducible apply S_sv); · rfl)
    | with_reducible apply S_nil2
    | with_reducible apply S_sq
    | with_reducible apply S_rg
    | ((with_reducible apply S_nv); · rfl)
    | ((with_reducible apply S_gt); · rfl)
    | ((with_reducible apply S_gf); · rfl)
    | ((with_reducible apply S_gu); · rfl)
    | ((with_reducible apply S_gs); (· rfl); all_goals (intro hc; rw [hc]))
    | ((with_reducible apply S_pks); (· rfl); all_goals (intro hc; rw [hc]))
    | ((with_reducible apply S_ca); (· rfl); first | refine l01In_c ?_)
    | ((with_reducible apply S_cdt); · rfl)
    | ((with_reducible apply S_cdf); · rfl)
    | ((with_reducible apply S_cd); (· rfl); all_goals (intro hc))
    | with_reducible apply S_rt
    | with_reducible apply S_bk
    | with_reducible apply S_sk
    | with_reducible apply S_xt
    | with_reducible apply S_q2
    | with_reducible apply S_q7
    | with_reducible apply S_q1
    | with_reducible apply S_q3
    | with_reducible apply S_q4
    | with_reducible apply S_q6
    | ((with_reducible apply S_q5); · rfl)
    | ((with_reducible apply S_fin); · rfl)
    | ((with_reducible apply S_fin'); · rfl)
  exact h
theorem l05Value_c {n : Int} (h : Q (vb (inR n (-1000000) 1000000)) H) : CallR Try.prog 118 [vi n] H Q := by
  refine callR_body Try.func118 t118 rfl ?_
  dsimp only [c118]
  repeat' first
    | ((with_reducible apply S_pv); · rfl)
    | ((with_reducible apply S_sv); · rfl)
    | with_reducible apply S_nil2
    | with_reducible apply S_sq
    | with_reducible apply S_rg
    | ((with_reducible apply S_nv); · rfl)
    | ((with_reducible apply S_gt); · rfl)
    | ((with_reducible apply S_gf); · rfl)
    | ((with_reducible apply S_gu); · rfl)
    | ((with_reducible apply S_gs); (· rfl); all_goals (intro hc; rw [hc]))
    | ((with_reducible apply S_pks); (· rfl); all_goals (intro hc; rw [hc]))
    | ((with_reducible apply S_ca); (· rfl); first | refine l01In_c ?_)
    | ((with_reducible apply S_cdt); · rfl)
    | ((with_reducible apply S_cdf); · rfl)
    | ((with_reducible apply S_cd); (· rfl); all_goals (intro hc))
    | with_reducible apply S_rt
    | with_reducible apply S_bk
    | with_reducible apply S_sk
    | with_reducible apply S_xt
    | with_reducible apply S_q2
    | with_reducible apply S_q7
    | with_reducible apply S_q1
    | with_reducible apply S_q3
    | with_reducible apply S_q4
    | with_reducible apply S_q6
    | ((with_reducible apply S_q5); · rfl)
    | ((with_reducible apply S_fin); · rfl)
    | ((with_reducible apply S_fin'); · rfl)
  exact h
theorem isKey_c {n : Int} (h : Q (vb (inR n 0 65535)) H) : CallR Try.prog 134 [vi n] H Q := by
  refine callR_body Try.func134 t134 rfl ?_
  dsimp only [c134]
  repeat' first
    | ((with_reducible apply S_pv); · rfl)
    | ((with_reducible apply S_sv); · rfl)
    | with_reducible apply S_nil2
    | with_reducible apply S_sq
    | with_reducible apply S_rg
    | ((with_reducible apply S_nv); · rfl)
    | ((with_reducible apply S_gt); · rfl)
    | ((with_reducible apply S_gf); · rfl)
    | ((with_reducible apply S_gu); · rfl)
    | ((with_reducible apply S_gs); (· rfl); all_goals (intro hc; rw [hc]))
    | ((with_reducible apply S_pks); (· rfl); all_goals (intro hc; rw [hc]))
    | ((with_reducible apply S_ca); (· rfl); first | refine within_c ?_)
    | ((with_reducible apply S_cdt); · rfl)
    | ((with_reducible apply S_cdf); · rfl)
    | ((with_reducible apply S_cd); (· rfl); all_goals (intro hc))
    | with_reducible apply S_rt
    | with_reducible apply S_bk
    | with_reducible apply S_sk
    | with_reducible apply S_xt
    | with_reducible apply S_q2
    | with_reducible apply S_q7
    | with_reducible apply S_q1
    | with_reducible apply S_q3
    | with_reducible apply S_q4
    | with_reducible apply S_q6
    | ((with_reducible apply S_q5); · rfl)
    | ((with_reducible apply S_fin); · rfl)
    | ((with_reducible apply S_fin'); · rfl)
  exact h
theorem isTime_c {n : Int} (h : Q (vb (inR n 0 1000000)) H) : CallR Try.prog 135 [vi n] H Q := by
  refine callR_body Try.func135 t135 rfl ?_
  dsimp only [c135]
  repeat' first
    | ((with_reducible apply S_pv); · rfl)
    | ((with_reducible apply S_sv); · rfl)
    | with_reducible apply S_nil2
    | with_reducible apply S_sq
    | with_reducible apply S_rg
    | ((with_reducible apply S_nv); · rfl)
    | ((with_reducible apply S_gt); · rfl)
    | ((with_reducible apply S_gf); · rfl)
    | ((with_reducible apply S_gu); · rfl)
    | ((with_reducible apply S_gs); (· rfl); all_goals (intro hc; rw [hc]))
    | ((with_reducible apply S_pks); (· rfl); all_goals (intro hc; rw [hc]))
    | ((with_reducible apply S_ca); (· rfl); first | refine within_c ?_)
    | ((with_reducible apply S_cdt); · rfl)
    | ((with_reducible apply S_cdf); · rfl)
    | ((with_reducible apply S_cd); (· rfl); all_goals (intro hc))
    | with_reducible apply S_rt
    | with_reducible apply S_bk
    | with_reducible apply S_sk
    | with_reducible apply S_xt
    | with_reducible apply S_q2
    | with_reducible apply S_q7
    | with_reducible apply S_q1
    | with_reducible apply S_q3
    | with_reducible apply S_q4
    | with_reducible apply S_q6
    | ((with_reducible apply S_q5); · rfl)
    | ((with_reducible apply S_fin); · rfl)
    | ((with_reducible apply S_fin'); · rfl)
  exact h
theorem isValue_c {n : Int} (h : Q (vb (inR n (-1000000) 1000000)) H) : CallR Try.prog 136 [vi n] H Q := by
  refine callR_body Try.func136 t136 rfl ?_
  dsimp only [c136]
  repeat' first
    | ((with_reducible apply S_pv); · rfl)
    | ((with_reducible apply S_sv); · rfl)
    | with_reducible apply S_nil2
    | with_reducible apply S_sq
    | with_reducible apply S_rg
    | ((with_reducible apply S_nv); · rfl)
    | ((with_reducible apply S_gt); · rfl)
    | ((with_reducible apply S_gf); · rfl)
    | ((with_reducible apply S_gu); · rfl)
    | ((with_reducible apply S_gs); (· rfl); all_goals (intro hc; rw [hc]))
    | ((with_reducible apply S_pks); (· rfl); all_goals (intro hc; rw [hc]))
    | ((with_reducible apply S_ca); (· rfl); first | refine within_c ?_)
    | ((with_reducible apply S_cdt); · rfl)
    | ((with_reducible apply S_cdf); · rfl)
    | ((with_reducible apply S_cd); (· rfl); all_goals (intro hc))
    | with_reducible apply S_rt
    | with_reducible apply S_bk
    | with_reducible apply S_sk
    | with_reducible apply S_xt
    | with_reducible apply S_q2
    | with_reducible apply S_q7
    | with_reducible apply S_q1
    | with_reducible apply S_q3
    | with_reducible apply S_q4
    | with_reducible apply S_q6
    | ((with_reducible apply S_q5); · rfl)
    | ((with_reducible apply S_fin); · rfl)
    | ((with_reducible apply S_fin'); · rfl)
  exact h
theorem isSum_c {n : Int} (h : Q (vb (inR n (-1000000000) 1000000000)) H) : CallR Try.prog 147 [vi n] H Q := by
  refine callR_body Try.func147 t147 rfl ?_
  dsimp only [c147]
  repeat' first
    | ((with_reducible apply S_pv); · rfl)
    | ((with_reducible apply S_sv); · rfl)
    | with_reducible apply S_nil2
    | with_reducible apply S_sq
    | with_reducible apply S_rg
    | ((with_reducible apply S_nv); · rfl)
    | ((with_reducible apply S_gt); · rfl)
    | ((with_reducible apply S_gf); · rfl)
    | ((with_reducible apply S_gu); · rfl)
    | ((with_reducible apply S_gs); (· rfl); all_goals (intro hc; rw [hc]))
    | ((with_reducible apply S_pks); (· rfl); all_goals (intro hc; rw [hc]))
    | ((with_reducible apply S_ca); (· rfl); first | refine within_c ?_)
    | ((with_reducible apply S_cdt); · rfl)
    | ((with_reducible apply S_cdf); · rfl)
    | ((with_reducible apply S_cd); (· rfl); all_goals (intro hc))
    | with_reducible apply S_rt
    | with_reducible apply S_bk
    | with_reducible apply S_sk
    | with_reducible apply S_xt
    | with_reducible apply S_q2
    | with_reducible apply S_q7
    | with_reducible apply S_q1
    | with_reducible apply S_q3
    | with_reducible apply S_q4
    | with_reducible apply S_q6
    | ((with_reducible apply S_q5); · rfl)
    | ((with_reducible apply S_fin); · rfl)
    | ((with_reducible apply S_fin'); · rfl)
  exact h
theorem isMark_c {n : Int} (h : Q (vb (inR n (-1) 1000000)) H) : CallR Try.prog 113 [vi n] H Q := by
  refine callR_body Try.func113 t113 rfl ?_
  dsimp only [c113]
  repeat' first
    | ((with_reducible apply S_pv); · rfl)
    | ((with_reducible apply S_sv); · rfl)
    | with_reducible apply S_nil2
    | with_reducible apply S_sq
    | with_reducible apply S_rg
    | ((with_reducible apply S_nv); · rfl)
    | ((with_reducible apply S_gt); · rfl)
    | ((with_reducible apply S_gf); · rfl)
    | ((with_reducible apply S_gu); · rfl)
    | ((with_reducible apply S_gs); (· rfl); all_goals (intro hc; rw [hc]))
    | ((with_reducible apply S_pks); (· rfl); all_goals (intro hc; rw [hc]))
    | ((with_reducible apply S_ca); (· rfl); first | refine within_c ?_)
    | ((with_reducible apply S_cdt); · rfl)
    | ((with_reducible apply S_cdf); · rfl)
    | ((with_reducible apply S_cd); (· rfl); all_goals (intro hc))
    | with_reducible apply S_rt
    | with_reducible apply S_bk
    | with_reducible apply S_sk
    | with_reducible apply S_xt
    | with_reducible apply S_q2
    | with_reducible apply S_q7
    | with_reducible apply S_q1
    | with_reducible apply S_q3
    | with_reducible apply S_q4
    | with_reducible apply S_q6
    | ((with_reducible apply S_q5); · rfl)
    | ((with_reducible apply S_fin); · rfl)
    | ((with_reducible apply S_fin'); · rfl)
  exact h
theorem isMany_c {n : Int} (h : Q (vb (inR n 0 1000000000)) H) : CallR Try.prog 114 [vi n] H Q := by
  refine callR_body Try.func114 t114 rfl ?_
  dsimp only [c114]
  repeat' first
    | ((with_reducible apply S_pv); · rfl)
    | ((with_reducible apply S_sv); · rfl)
    | with_reducible apply S_nil2
    | with_reducible apply S_sq
    | with_reducible apply S_rg
    | ((with_reducible apply S_nv); · rfl)
    | ((with_reducible apply S_gt); · rfl)
    | ((with_reducible apply S_gf); · rfl)
    | ((with_reducible apply S_gu); · rfl)
    | ((with_reducible apply S_gs); (· rfl); all_goals (intro hc; rw [hc]))
    | ((with_reducible apply S_pks); (· rfl); all_goals (intro hc; rw [hc]))
    | ((with_reducible apply S_ca); (· rfl); first | refine within_c ?_)
    | ((with_reducible apply S_cdt); · rfl)
    | ((with_reducible apply S_cdf); · rfl)
    | ((with_reducible apply S_cd); (· rfl); all_goals (intro hc))
    | with_reducible apply S_rt
    | with_reducible apply S_bk
    | with_reducible apply S_sk
    | with_reducible apply S_xt
    | with_reducible apply S_q2
    | with_reducible apply S_q7
    | with_reducible apply S_q1
    | with_reducible apply S_q3
    | with_reducible apply S_q4
    | with_reducible apply S_q6
    | ((with_reducible apply S_q5); · rfl)
    | ((with_reducible apply S_fin); · rfl)
    | ((with_reducible apply S_fin'); · rfl)
  exact h
theorem isSize_c {n : Int} (h : Q (vb (inR n 1 1000000)) H) : CallR Try.prog 80 [vi n] H Q := by
  refine callR_body Try.func80 t80 rfl ?_
  dsimp only [c80]
  repeat' first
    | ((with_reducible apply S_pv); · rfl)
    | ((with_reducible apply S_sv); · rfl)
    | with_reducible apply S_nil2
    | with_reducible apply S_sq
    | with_reducible apply S_rg
    | ((with_reducible apply S_nv); · rfl)
    | ((with_reducible apply S_gt); · rfl)
    | ((with_reducible apply S_gf); · rfl)
    | ((with_reducible apply S_gu); · rfl)
    | ((with_reducible apply S_gs); (· rfl); all_goals (intro hc; rw [hc]))
    | ((with_reducible apply S_pks); (· rfl); all_goals (intro hc; rw [hc]))
    | ((with_reducible apply S_ca); (· rfl); first | refine within_c ?_)
    | ((with_reducible apply S_cdt); · rfl)
    | ((with_reducible apply S_cdf); · rfl)
    | ((with_reducible apply S_cd); (· rfl); all_goals (intro hc))
    | with_reducible apply S_rt
    | with_reducible apply S_bk
    | with_reducible apply S_sk
    | with_reducible apply S_xt
    | with_reducible apply S_q2
    | with_reducible apply S_q7
    | with_reducible apply S_q1
    | with_reducible apply S_q3
    | with_reducible apply S_q4
    | with_reducible apply S_q6
    | ((with_reducible apply S_q5); · rfl)
    | ((with_reducible apply S_fin); · rfl)
    | ((with_reducible apply S_fin'); · rfl)
  exact h

@[irreducible] def aggOk (a : Agg) : Bool := inR a.win 0 1000000 && (inR a.key 0 65535 && (inR a.cnt 1 1000000000 && (inR a.sum (-1000000000) 1000000000 && (inR a.mn (-1000000) 1000000 && (inR a.mx (-1000000) 1000000 && decide (a.mn ≤ a.mx))))))
theorem aggOkS_c {a : Agg} (h : Q (vb (aggOk a)) H) : CallR Try.prog 85 [va a] H Q := by
  refine callR_body Try.func85 t85 rfl ?_
  dsimp only [c85]
  repeat' first
    | ((with_reducible apply S_pv); · rfl)
    | ((with_reducible apply S_sv); · rfl)
    | with_reducible apply S_nil2
    | with_reducible apply S_sq
    | with_reducible apply S_rg
    | ((with_reducible apply S_nv); · rfl)
    | ((with_reducible apply S_gt); · rfl)
    | ((with_reducible apply S_gf); · rfl)
    | ((with_reducible apply S_gu); · rfl)
    | ((with_reducible apply S_gs); (· rfl); all_goals (intro hc; rw [hc]))
    | ((with_reducible apply S_pks); (· rfl); all_goals (intro hc; rw [hc]))
    | ((with_reducible apply S_ca); (· rfl); first | refine l01In_c ?_ | refine l05Value_c ?_)
    | ((with_reducible apply S_cdt); · rfl)
    | ((with_reducible apply S_cdf); · rfl)
    | ((with_reducible apply S_cd); (· rfl); all_goals (intro hc))
    | with_reducible apply S_rt
    | with_reducible apply S_bk
    | with_reducible apply S_sk
    | with_reducible apply S_xt
    | with_reducible apply S_q2
    | with_reducible apply S_q7
    | with_reducible apply S_q1
    | with_reducible apply S_q3
    | with_reducible apply S_q4
    | with_reducible apply S_q6
    | ((with_reducible apply S_q5); · rfl)
    | ((with_reducible apply S_fin); · rfl)
    | ((with_reducible apply S_fin'); · rfl)
  all_goals (simp only [aggOk, *, Bool.true_and, Bool.false_and] at h; exact h)
theorem aggOkI_c {a : Agg} (h : Q (vb (aggOk a)) H) : CallR Try.prog 132 [va a] H Q := by
  refine callR_body Try.func132 t132 rfl ?_
  dsimp only [c132]
  repeat' first
    | ((with_reducible apply S_pv); · rfl)
    | ((with_reducible apply S_sv); · rfl)
    | with_reducible apply S_nil2
    | with_reducible apply S_sq
    | with_reducible apply S_rg
    | ((with_reducible apply S_nv); · rfl)
    | ((with_reducible apply S_gt); · rfl)
    | ((with_reducible apply S_gf); · rfl)
    | ((with_reducible apply S_gu); · rfl)
    | ((with_reducible apply S_gs); (· rfl); all_goals (intro hc; rw [hc]))
    | ((with_reducible apply S_pks); (· rfl); all_goals (intro hc; rw [hc]))
    | ((with_reducible apply S_ca); (· rfl); first | refine isTime_c ?_ | refine isKey_c ?_ | refine within_c ?_ | refine isSum_c ?_ | refine isValue_c ?_)
    | ((with_reducible apply S_cdt); · rfl)
    | ((with_reducible apply S_cdf); · rfl)
    | ((with_reducible apply S_cd); (· rfl); all_goals (intro hc))
    | with_reducible apply S_rt
    | with_reducible apply S_bk
    | with_reducible apply S_sk
    | with_reducible apply S_xt
    | with_reducible apply S_q2
    | with_reducible apply S_q7
    | with_reducible apply S_q1
    | with_reducible apply S_q3
    | with_reducible apply S_q4
    | with_reducible apply S_q6
    | ((with_reducible apply S_q5); · rfl)
    | ((with_reducible apply S_fin); · rfl)
    | ((with_reducible apply S_fin'); · rfl)
  all_goals (simp only [aggOk, *, Bool.true_and, Bool.false_and] at h; exact h)
@[irreducible] def ahead (a b : Agg) : Bool := decide (a.win < b.win) || (a.win == b.win && decide (a.key < b.key))
theorem ahead_c {a b : Agg} (h : Q (vb (ahead a b)) H) : CallR Try.prog 86 [va a, va b] H Q := by
  refine callR_body Try.func86 t86 rfl ?_
  dsimp only [c86]
  repeat' first
    | ((with_reducible apply S_pv); · rfl)
    | ((with_reducible apply S_sv); · rfl)
    | with_reducible apply S_nil2
    | with_reducible apply S_sq
    | with_reducible apply S_rg
    | ((with_reducible apply S_nv); · rfl)
    | ((with_reducible apply S_gt); · rfl)
    | ((with_reducible apply S_gf); · rfl)
    | ((with_reducible apply S_gu); · rfl)
    | ((with_reducible apply S_gs); (· rfl); all_goals (intro hc; rw [hc]))
    | ((with_reducible apply S_pks); (· rfl); all_goals (intro hc; rw [hc]))
    | ((with_reducible apply S_cdt); · rfl)
    | ((with_reducible apply S_cdf); · rfl)
    | ((with_reducible apply S_cd); (· rfl); all_goals (intro hc))
    | with_reducible apply S_rt
    | with_reducible apply S_bk
    | with_reducible apply S_sk
    | with_reducible apply S_xt
    | with_reducible apply S_q2
    | with_reducible apply S_q7
    | with_reducible apply S_q1
    | with_reducible apply S_q3
    | with_reducible apply S_q4
    | with_reducible apply S_q6
    | ((with_reducible apply S_q5); · rfl)
    | ((with_reducible apply S_fin); · rfl)
    | ((with_reducible apply S_fin'); · rfl)
  all_goals (simp only [ahead, *, Bool.true_and, Bool.false_and, Bool.true_or, Bool.false_or] at h; exact h)
end Go.Proofs.Ytbmoifddenagiaa.C
open Go Go.HL Go.Proofs
namespace Go.Proofs.Ytbmoifddenagiaa.C
set_option linter.unusedVariables false
set_option maxRecDepth 100000
set_option linter.unusedSimpArgs false
variable {H : Hp} {Q : Value → Hp → Prop}
theorem encA_len (x : Agg) : (encA x).length = 6 := rfl

theorem eqAgg_c {a b : Agg} (h : Q (vb (a == b)) H) : CallR Try.prog 124 [va a, va b] H Q := by
  have key : ∀ c : Bool, c = decide (a = b) → Q (vb c) H := fun c e => by rw [e]; exact h
  cases a; cases b
  refine callR_body Try.func124 t124 rfl ?_
  dsimp only [c124]
  repeat' first
    | ((with_reducible apply S_pv); · rfl)
    | ((with_reducible apply S_sv); · rfl)
    | with_reducible apply S_nil2
    | with_reducible apply S_nil
    | with_reducible apply S_sq
    | with_reducible apply S_rg
    | ((with_reducible apply S_nv); · rfl)
    | ((with_reducible apply S_gt); · rfl)
    | ((with_reducible apply S_gf); · rfl)
    | ((with_reducible apply S_gu); · rfl)
    | ((with_reducible apply S_gs); (· rfl); all_goals (intro hc; rw [hc]; (try simp only [decide_eq_true_eq, decide_eq_false_iff_not, bne_iff_ne, bne_eq_false_iff_eq, beq_iff_eq, beq_eq_false_iff_ne, Bool.not_eq_true', Bool.not_eq_false', Bool.not_not, ne_eq, gt_iff_lt, ge_iff_le] at hc); (try (exfalso; omega)); (try exact absurd rfl hc)))
    | ((with_reducible apply S_pks); (· rfl); all_goals (intro hc; rw [hc]; (try simp only [decide_eq_true_eq, decide_eq_false_iff_not, bne_iff_ne, bne_eq_false_iff_eq, beq_iff_eq, beq_eq_false_iff_ne, Bool.not_eq_true', Bool.not_eq_false', Bool.not_not, ne_eq, gt_iff_lt, ge_iff_le] at hc); (try (exfalso; omega)); (try exact absurd rfl hc)))
    | ((with_reducible apply S_cdt); · rfl)
    | ((with_reducible apply S_cdf); · rfl)
    | ((with_reducible apply S_cd); (· rfl); all_goals (intro hc; (try simp only [decide_eq_true_eq, decide_eq_false_iff_not, bne_iff_ne, bne_eq_false_iff_eq, beq_iff_eq, beq_eq_false_iff_ne, Bool.not_eq_true', Bool.not_eq_false', Bool.not_not, ne_eq, gt_iff_lt, ge_iff_le] at hc); (try (exfalso; omega)); (try exact absurd rfl hc)))
    | with_reducible apply S_rt
    | with_reducible apply S_bk
    | with_reducible apply S_sk
    | with_reducible apply S_xt
    | with_reducible apply S_q2
    | with_reducible apply S_q7
    | with_reducible apply S_q1
    | with_reducible apply S_q3
    | with_reducible apply S_q4
    | with_reducible apply S_q6
    | ((with_reducible apply S_q5); · rfl)
    | ((with_reducible apply S_fin); · rfl)
    | ((with_reducible apply S_fin'); · rfl)
  all_goals (apply key; simp_all)
theorem eqAggS_c {la lb : List Agg} {va' vb' : Value} (ha : RdS encA H va' la) (hb : RdS encA H vb' lb) (h20 : la.length ≤ 1048576) (h : Q (vb (la == lb)) H) : CallR Try.prog 95 [va', vb'] H Q := by
  obtain ⟨A, ca, rfl, hA⟩ := ha
  obtain ⟨B, cb, rfl, hB⟩ := hb
  refine callR_body Try.func95 t95 rfl ?_
  dsimp only [c95]
  repeat' first
    | ((with_reducible apply S_pv); · rfl)
    | ((with_reducible apply S_sv); · rfl)
    | with_reducible apply S_nil2
    | with_reducible apply S_nil
    | with_reducible apply S_sq
    | with_reducible apply S_rg
    | ((with_reducible apply S_nv); · rfl)
    | ((with_reducible apply S_gt); · rfl)
    | ((with_reducible apply S_gf); · rfl)
    | ((with_reducible apply S_gu); · rfl)
    | ((with_reducible apply S_gs); (· rfl); all_goals (intro hc; rw [hc]; (try simp only [decide_eq_true_eq, decide_eq_false_iff_not, bne_iff_ne, bne_eq_false_iff_eq, beq_iff_eq, beq_eq_false_iff_ne, Bool.not_eq_true', Bool.not_eq_false', Bool.not_not, ne_eq, gt_iff_lt, ge_iff_le] at hc); (try (exfalso; omega)); (try exact absurd rfl hc)))
    | ((with_reducible apply S_pks); (· rfl); all_goals (intro hc; rw [hc]; (try simp only [decide_eq_true_eq, decide_eq_false_iff_not, bne_iff_ne, bne_eq_false_iff_eq, beq_iff_eq, beq_eq_false_iff_ne, Bool.not_eq_true', Bool.not_eq_false', Bool.not_not, ne_eq, gt_iff_lt, ge_iff_le] at hc); (try (exfalso; omega)); (try exact absurd rfl hc)))
    | ((with_reducible apply S_cdt); · rfl)
    | ((with_reducible apply S_cdf); · rfl)
    | ((with_reducible apply S_cd); (· rfl); all_goals (intro hc; (try simp only [decide_eq_true_eq, decide_eq_false_iff_not, bne_iff_ne, bne_eq_false_iff_eq, beq_iff_eq, beq_eq_false_iff_ne, Bool.not_eq_true', Bool.not_eq_false', Bool.not_not, ne_eq, gt_iff_lt, ge_iff_le] at hc); (try (exfalso; omega)); (try exact absurd rfl hc)))
    | with_reducible apply S_rt
    | with_reducible apply S_bk
    | with_reducible apply S_sk
    | with_reducible apply S_xt
    | with_reducible apply S_q2
    | with_reducible apply S_q7
    | with_reducible apply S_q1
    | with_reducible apply S_q3
    | with_reducible apply S_q4
    | with_reducible apply S_q6
    | ((with_reducible apply S_q5); · rfl)
    | ((with_reducible apply S_fin); · rfl)
    | ((with_reducible apply S_fin'); · rfl)
  · rw [beq_len (by omega)] at h; exact h
  · have hl : la.length = lb.length := by omega
    refine S_lpE (fun i : Nat => [(0, .v (.slice A la.length ca)), (1, .v (.slice B lb.length cb)), (5, .v (vi i))]) (fun _ => []) (fun i H' => H' = H ∧ i ≤ la.length ∧ la.take i = lb.take i) (fun i => la.length - i) 0 (EL_r rfl (EL_r rfl (EL_r rfl EL_nil))) ⟨rfl, by omega, by simp⟩ ?_
    rintro i H' ⟨rfl, hi, ht⟩
    rcases Nat.lt_or_ge i la.length with hlt | hge
    · obtain ⟨x, hx⟩ := get_lt hlt
      obtain ⟨y, hy⟩ := get_lt (l := lb) (i := i) (by omega)
      obtain ⟨ad, rfl, hr⟩ := HasAll.get encA_len (by decide) hA hx
      obtain ⟨ad', rfl, hr'⟩ := HasAll.get encA_len (by decide) hB hy
      repeat' first
        | ((with_reducible apply S_ia); (· rfl); (· rfl); (· omega))
        | ((with_reducible apply S_inc); (· rfl); (· omega))
        | ((with_reducible apply S_ld (vs := encA x) (v := va x)); (· rfl); (· rfl); (· exact hr); (· rfl))
        | ((with_reducible apply S_ld (vs := encA y) (v := va y)); (· rfl); (· rfl); (· exact hr'); (· rfl))
        | ((with_reducible apply S_pv); · rfl)
        | ((with_reducible apply S_sv); · rfl)
        | with_reducible apply S_nil2
        | with_reducible apply S_nil
        | with_reducible apply S_sq
        | with_reducible apply S_rg
        | ((with_reducible apply S_nv); · rfl)
        | ((with_reducible apply S_gt); · rfl)
        | ((with_reducible apply S_gf); · rfl)
        | ((with_reducible apply S_gu); · rfl)
        | ((with_reducible apply S_gs); (· rfl); all_goals (intro hc; rw [hc]; (try simp only [decide_eq_true_eq, decide_eq_false_iff_not, bne_iff_ne, bne_eq_false_iff_eq, beq_iff_eq, beq_eq_false_iff_ne, Bool.not_eq_true', Bool.not_eq_false', Bool.not_not, ne_eq, gt_iff_lt, ge_iff_le] at hc); (try (exfalso; omega)); (try exact absurd rfl hc)))
        | ((with_reducible apply S_pks); (· rfl); all_goals (intro hc; rw [hc]; (try simp only [decide_eq_true_eq, decide_eq_false_iff_not, bne_iff_ne, bne_eq_false_iff_eq, beq_iff_eq, beq_eq_false_iff_ne, Bool.not_eq_true', Bool.not_eq_false', Bool.not_not, ne_eq, gt_iff_lt, ge_iff_le] at hc); (try (exfalso; omega)); (try exact absurd rfl hc)))
        | ((with_reducible apply S_ca); (· rfl); first | refine eqAgg_c ?_)
        | ((with_reducible apply S_cdt); · rfl)
        | ((with_reducible apply S_cdf); · rfl)
        | ((with_reducible apply S_cd); (· rfl); all_goals (intro hc; (try simp only [decide_eq_true_eq, decide_eq_false_iff_not, bne_iff_ne, bne_eq_false_iff_eq, beq_iff_eq, beq_eq_false_iff_ne, Bool.not_eq_true', Bool.not_eq_false', Bool.not_not, ne_eq, gt_iff_lt, ge_iff_le] at hc); (try (exfalso; omega)); (try exact absurd rfl hc)))
        | with_reducible apply S_rt
        | with_reducible apply S_bk
        | with_reducible apply S_sk
        | with_reducible apply S_xt
        | with_reducible apply S_q2
        | with_reducible apply S_q7
        | with_reducible apply S_q1
        | with_reducible apply S_q3
        | with_reducible apply S_q4
        | with_reducible apply S_q6
        | ((with_reducible apply S_q5); · rfl)
        | ((with_reducible apply S_fin); · rfl)
        | ((with_reducible apply S_fin'); · rfl)
      · rw [beq_ne hx hy hc] at h; exact h
      · exact ⟨i + 1, by dsimp only; omega, EL_r rfl (EL_r rfl (EL_r rfl EL_nil)), rfl, hlt, beq_take hl hx hy ht hc⟩
    · skip
      repeat' first
        | ((with_reducible apply S_pv); · rfl)
        | ((with_reducible apply S_sv); · rfl)
        | with_reducible apply S_nil2
        | with_reducible apply S_nil
        | with_reducible apply S_sq
        | with_reducible apply S_rg
        | ((with_reducible apply S_nv); · rfl)
        | ((with_reducible apply S_gt); · rfl)
        | ((with_reducible apply S_gf); · rfl)
        | ((with_reducible apply S_gu); · rfl)
        | ((with_reducible apply S_gs); (· rfl); all_goals (intro hc; rw [hc]; (try simp only [decide_eq_true_eq, decide_eq_false_iff_not, bne_iff_ne, bne_eq_false_iff_eq, beq_iff_eq, beq_eq_false_iff_ne, Bool.not_eq_true', Bool.not_eq_false', Bool.not_not, ne_eq, gt_iff_lt, ge_iff_le] at hc); (try (exfalso; omega)); (try exact absurd rfl hc)))
        | ((with_reducible apply S_pks); (· rfl); all_goals (intro hc; rw [hc]; (try simp only [decide_eq_true_eq, decide_eq_false_iff_not, bne_iff_ne, bne_eq_false_iff_eq, beq_iff_eq, beq_eq_false_iff_ne, Bool.not_eq_true', Bool.not_eq_false', Bool.not_not, ne_eq, gt_iff_lt, ge_iff_le] at hc); (try (exfalso; omega)); (try exact absurd rfl hc)))
        | ((with_reducible apply S_cdt); · rfl)
        | ((with_reducible apply S_cdf); · rfl)
        | ((with_reducible apply S_cd); (· rfl); all_goals (intro hc; (try simp only [decide_eq_true_eq, decide_eq_false_iff_not, bne_iff_ne, bne_eq_false_iff_eq, beq_iff_eq, beq_eq_false_iff_ne, Bool.not_eq_true', Bool.not_eq_false', Bool.not_not, ne_eq, gt_iff_lt, ge_iff_le] at hc); (try (exfalso; omega)); (try exact absurd rfl hc)))
        | with_reducible apply S_rt
        | with_reducible apply S_bk
        | with_reducible apply S_sk
        | with_reducible apply S_xt
        | with_reducible apply S_q2
        | with_reducible apply S_q7
        | with_reducible apply S_q1
        | with_reducible apply S_q3
        | with_reducible apply S_q4
        | with_reducible apply S_q6
        | ((with_reducible apply S_q5); · rfl)
        | ((with_reducible apply S_fin); · rfl)
        | ((with_reducible apply S_fin'); · rfl)
      · rw [beq_take_all hl hge ht] at h; exact h
theorem szAggS_c {la : List Agg} {v : Value} (ha : RdS encA H v la) {left : Nat} (hl : left ≤ 1048576) (h : Q (vi (if la.length ≤ left then ((left - la.length : Nat) : Int) else -1)) H) (h62 : la.length ≤ 9223372036854775807) : CallR Try.prog 87 [v, vi left] H Q := by
  obtain ⟨A, ca, rfl, hA⟩ := ha
  have hw : IntKind.i64.wrap ((left : Int) - (la.length : Int)) = (left : Int) - (la.length : Int) := wrap_i (by omega) (by omega)
  refine callR_body Try.func87 t87 rfl ?_
  dsimp only [c87]
  repeat' first
    | ((with_reducible apply S_pv); · rfl)
    | ((with_reducible apply S_sv); · rfl)
    | with_reducible apply S_nil2
    | with_reducible apply S_nil
    | with_reducible apply S_sq
    | with_reducible apply S_rg
    | ((with_reducible apply S_nv); · rfl)
    | ((with_reducible apply S_gt); · rfl)
    | ((with_reducible apply S_gf); · rfl)
    | ((with_reducible apply S_gu); · rfl)
    | ((with_reducible apply S_gs); (· rfl); all_goals (intro hc; rw [hc]; (try simp only [decide_eq_true_eq, decide_eq_false_iff_not, bne_iff_ne, bne_eq_false_iff_eq, beq_iff_eq, beq_eq_false_iff_ne, Bool.not_eq_true', Bool.not_eq_false', Bool.not_not, ne_eq, gt_iff_lt, ge_iff_le] at hc); (try (exfalso; omega)); (try exact absurd rfl hc)))
    | ((with_reducible apply S_pks); (· rfl); all_goals (intro hc; rw [hc]; (try simp only [decide_eq_true_eq, decide_eq_false_iff_not, bne_iff_ne, bne_eq_false_iff_eq, beq_iff_eq, beq_eq_false_iff_ne, Bool.not_eq_true', Bool.not_eq_false', Bool.not_not, ne_eq, gt_iff_lt, ge_iff_le] at hc); (try (exfalso; omega)); (try exact absurd rfl hc)))
    | ((with_reducible apply S_cdt); · rfl)
    | ((with_reducible apply S_cdf); · rfl)
    | ((with_reducible apply S_cd); (· rfl); all_goals (intro hc; (try simp only [decide_eq_true_eq, decide_eq_false_iff_not, bne_iff_ne, bne_eq_false_iff_eq, beq_iff_eq, beq_eq_false_iff_ne, Bool.not_eq_true', Bool.not_eq_false', Bool.not_not, ne_eq, gt_iff_lt, ge_iff_le] at hc); (try (exfalso; omega)); (try exact absurd rfl hc)))
    | with_reducible apply S_rt
    | with_reducible apply S_bk
    | with_reducible apply S_sk
    | with_reducible apply S_xt
    | with_reducible apply S_q2
    | with_reducible apply S_q7
    | with_reducible apply S_q1
    | with_reducible apply S_q3
    | with_reducible apply S_q4
    | with_reducible apply S_q6
    | ((with_reducible apply S_q5); · rfl)
    | ((with_reducible apply S_fin); · rfl)
    | ((with_reducible apply S_fin'); · rfl)
  · rw [if_neg (by omega)] at h; exact h
  · rw [if_pos (by omega), show ((left - la.length : Nat) : Int) = (left : Int) - (la.length : Int) by omega, ← hw] at h; exact h
theorem toAgg_c {a : Agg} (h : Q (va a) H) : CallR Try.prog 123 [va a] H Q := by
  refine callR_body Try.func123 t123 rfl ?_
  dsimp only [c123]
  repeat' first
    | ((with_reducible apply S_pv); · rfl)
    | ((with_reducible apply S_sv); · rfl)
    | with_reducible apply S_nil2
    | with_reducible apply S_nil
    | with_reducible apply S_sq
    | with_reducible apply S_rg
    | ((with_reducible apply S_nv); · rfl)
    | ((with_reducible apply S_gt); · rfl)
    | ((with_reducible apply S_gf); · rfl)
    | ((with_reducible apply S_gu); · rfl)
    | ((with_reducible apply S_gs); (· rfl); all_goals (intro hc; rw [hc]; (try simp only [decide_eq_true_eq, decide_eq_false_iff_not, bne_iff_ne, bne_eq_false_iff_eq, beq_iff_eq, beq_eq_false_iff_ne, Bool.not_eq_true', Bool.not_eq_false', Bool.not_not, ne_eq, gt_iff_lt, ge_iff_le] at hc); (try (exfalso; omega)); (try exact absurd rfl hc)))
    | ((with_reducible apply S_pks); (· rfl); all_goals (intro hc; rw [hc]; (try simp only [decide_eq_true_eq, decide_eq_false_iff_not, bne_iff_ne, bne_eq_false_iff_eq, beq_iff_eq, beq_eq_false_iff_ne, Bool.not_eq_true', Bool.not_eq_false', Bool.not_not, ne_eq, gt_iff_lt, ge_iff_le] at hc); (try (exfalso; omega)); (try exact absurd rfl hc)))
    | ((with_reducible apply S_cdt); · rfl)
    | ((with_reducible apply S_cdf); · rfl)
    | ((with_reducible apply S_cd); (· rfl); all_goals (intro hc; (try simp only [decide_eq_true_eq, decide_eq_false_iff_not, bne_iff_ne, bne_eq_false_iff_eq, beq_iff_eq, beq_eq_false_iff_ne, Bool.not_eq_true', Bool.not_eq_false', Bool.not_not, ne_eq, gt_iff_lt, ge_iff_le] at hc); (try (exfalso; omega)); (try exact absurd rfl hc)))
    | with_reducible apply S_rt
    | with_reducible apply S_bk
    | with_reducible apply S_sk
    | with_reducible apply S_xt
    | with_reducible apply S_q2
    | with_reducible apply S_q7
    | with_reducible apply S_q1
    | with_reducible apply S_q3
    | with_reducible apply S_q4
    | with_reducible apply S_q6
    | ((with_reducible apply S_q5); · rfl)
    | ((with_reducible apply S_fin); · rfl)
    | ((with_reducible apply S_fin'); · rfl)
  exact h
theorem toAggS_c {la : List Agg} {v : Value} (ha : RdS encA H v la) (h20 : la.length ≤ 1048576) (h : ∀ b, H.Fresh b → Q (.slice (some ⟨b, 0, none⟩) la.length la.length) (H.set b (la.flatMap encA, 81))) : CallR Try.prog 93 [v] H Q := by
  obtain ⟨A, ca, rfl, hA⟩ := ha
  refine callR_body Try.func93 t93 rfl ?_
  dsimp only [c93]
  repeat' first
    | ((with_reducible apply S_ms); (· rfl); (· rfl); (· omega); (· omega); (intro b hb))
    | ((with_reducible apply S_pv); · rfl)
    | ((with_reducible apply S_sv); · rfl)
    | with_reducible apply S_nil2
    | with_reducible apply S_nil
    | with_reducible apply S_sq
    | with_reducible apply S_rg
    | ((with_reducible apply S_nv); · rfl)
    | ((with_reducible apply S_gt); · rfl)
    | ((with_reducible apply S_gf); · rfl)
    | ((with_reducible apply S_gu); · rfl)
    | ((with_reducible apply S_gs); (· rfl); all_goals (intro hc; rw [hc]; (try simp only [decide_eq_true_eq, decide_eq_false_iff_not, bne_iff_ne, bne_eq_false_iff_eq, beq_iff_eq, beq_eq_false_iff_ne, Bool.not_eq_true', Bool.not_eq_false', Bool.not_not, ne_eq, gt_iff_lt, ge_iff_le] at hc); (try (exfalso; omega)); (try exact absurd rfl hc)))
    | ((with_reducible apply S_pks); (· rfl); all_goals (intro hc; rw [hc]; (try simp only [decide_eq_true_eq, decide_eq_false_iff_not, bne_iff_ne, bne_eq_false_iff_eq, beq_iff_eq, beq_eq_false_iff_ne, Bool.not_eq_true', Bool.not_eq_false', Bool.not_not, ne_eq, gt_iff_lt, ge_iff_le] at hc); (try (exfalso; omega)); (try exact absurd rfl hc)))
    | ((with_reducible apply S_cdt); · rfl)
    | ((with_reducible apply S_cdf); · rfl)
    | ((with_reducible apply S_cd); (· rfl); all_goals (intro hc; (try simp only [decide_eq_true_eq, decide_eq_false_iff_not, bne_iff_ne, bne_eq_false_iff_eq, beq_iff_eq, beq_eq_false_iff_ne, Bool.not_eq_true', Bool.not_eq_false', Bool.not_not, ne_eq, gt_iff_lt, ge_iff_le] at hc); (try (exfalso; omega)); (try exact absurd rfl hc)))
    | with_reducible apply S_rt
    | with_reducible apply S_bk
    | with_reducible apply S_sk
    | with_reducible apply S_xt
    | with_reducible apply S_q2
    | with_reducible apply S_q7
    | with_reducible apply S_q1
    | with_reducible apply S_q3
    | with_reducible apply S_q4
    | with_reducible apply S_q6
    | ((with_reducible apply S_q5); · rfl)
    | ((with_reducible apply S_fin); · rfl)
    | ((with_reducible apply S_fin'); · rfl)
  refine S_lpE (fun i : Nat => [(0, .v (.slice A la.length ca)), (3, .v (.slice (some ⟨b, 0, none⟩) la.length la.length)), (4, .v (vi i))]) (fun _ => []) (fun i H' => H' = H.set b ((la.take i).flatMap encA ++ (List.replicate (la.length - i) [vi 0, vi 0, vi 0, vi 0, vi 0, vi 0]).flatten, 81) ∧ i ≤ la.length) (fun i => la.length - i) 0 (EL_r rfl (EL_r rfl (EL_r rfl EL_nil))) ⟨rfl, by omega⟩ ?_
  rintro i H' ⟨rfl, hi⟩
  have hle := hb.le ((la.take i).flatMap encA ++ (List.replicate (la.length - i) [vi 0, vi 0, vi 0, vi 0, vi 0, vi 0]).flatten, 81)
  rcases Nat.lt_or_ge i la.length with hlt | hge
  · obtain ⟨x, hx⟩ := get_lt hlt
    obtain ⟨ad, rfl, hr⟩ := HasAll.get encA_len (by decide) (hA.le hle) hx
    repeat' first
      | ((with_reducible apply S_ia); (· rfl); (· rfl); (· omega))
      | ((with_reducible apply S_inc); (· rfl); (· omega))
      | ((with_reducible apply S_ld (vs := encA x) (v := va x)); (· rfl); (· rfl); (· exact hr); (· rfl))
      | ((with_reducible apply S_stE); (· rfl); (· exact add0 _ _); (· (rw [fill_len encA_len rfl la hi]; show i * 6 + 6 ≤ _; omega)); (· exact fill_step encA_len rfl hx))
      | ((with_reducible apply S_pv); · rfl)
      | ((with_reducible apply S_sv); · rfl)
      | with_reducible apply S_nil2
      | with_reducible apply S_nil
      | with_reducible apply S_sq
      | with_reducible apply S_rg
      | ((with_reducible apply S_nv); · rfl)
      | ((with_reducible apply S_gt); · rfl)
      | ((with_reducible apply S_gf); · rfl)
      | ((with_reducible apply S_gu); · rfl)
      | ((with_reducible apply S_gs); (· rfl); all_goals (intro hc; rw [hc]; (try simp only [decide_eq_true_eq, decide_eq_false_iff_not, bne_iff_ne, bne_eq_false_iff_eq, beq_iff_eq, beq_eq_false_iff_ne, Bool.not_eq_true', Bool.not_eq_false', Bool.not_not, ne_eq, gt_iff_lt, ge_iff_le] at hc); (try (exfalso; omega)); (try exact absurd rfl hc)))
      | ((with_reducible apply S_pks); (· rfl); all_goals (intro hc; rw [hc]; (try simp only [decide_eq_true_eq, decide_eq_false_iff_not, bne_iff_ne, bne_eq_false_iff_eq, beq_iff_eq, beq_eq_false_iff_ne, Bool.not_eq_true', Bool.not_eq_false', Bool.not_not, ne_eq, gt_iff_lt, ge_iff_le] at hc); (try (exfalso; omega)); (try exact absurd rfl hc)))
      | ((with_reducible apply S_ca); (· rfl); first | refine toAgg_c ?_)
      | ((with_reducible apply S_cdt); · rfl)
      | ((with_reducible apply S_cdf); · rfl)
      | ((with_reducible apply S_cd); (· rfl); all_goals (intro hc; (try simp only [decide_eq_true_eq, decide_eq_false_iff_not, bne_iff_ne, bne_eq_false_iff_eq, beq_iff_eq, beq_eq_false_iff_ne, Bool.not_eq_true', Bool.not_eq_false', Bool.not_not, ne_eq, gt_iff_lt, ge_iff_le] at hc); (try (exfalso; omega)); (try exact absurd rfl hc)))
      | with_reducible apply S_rt
      | with_reducible apply S_bk
      | with_reducible apply S_sk
      | with_reducible apply S_xt
      | with_reducible apply S_q2
      | with_reducible apply S_q7
      | with_reducible apply S_q1
      | with_reducible apply S_q3
      | with_reducible apply S_q4
      | with_reducible apply S_q6
      | ((with_reducible apply S_q5); · rfl)
      | ((with_reducible apply S_fin); · rfl)
      | ((with_reducible apply S_fin'); · rfl)
    exact ⟨i + 1, by dsimp only; omega, EL_r rfl (EL_r rfl (EL_r rfl EL_nil)), rfl, hlt⟩
  · skip
    repeat' first
      | ((with_reducible apply S_pv); · rfl)
      | ((with_reducible apply S_sv); · rfl)
      | with_reducible apply S_nil2
      | with_reducible apply S_nil
      | with_reducible apply S_sq
      | with_reducible apply S_rg
      | ((with_reducible apply S_nv); · rfl)
      | ((with_reducible apply S_gt); · rfl)
      | ((with_reducible apply S_gf); · rfl)
      | ((with_reducible apply S_gu); · rfl)
      | ((with_reducible apply S_gs); (· rfl); all_goals (intro hc; rw [hc]; (try simp only [decide_eq_true_eq, decide_eq_false_iff_not, bne_iff_ne, bne_eq_false_iff_eq, beq_iff_eq, beq_eq_false_iff_ne, Bool.not_eq_true', Bool.not_eq_false', Bool.not_not, ne_eq, gt_iff_lt, ge_iff_le] at hc); (try (exfalso; omega)); (try exact absurd rfl hc)))
      | ((with_reducible apply S_pks); (· rfl); all_goals (intro hc; rw [hc]; (try simp only [decide_eq_true_eq, decide_eq_false_iff_not, bne_iff_ne, bne_eq_false_iff_eq, beq_iff_eq, beq_eq_false_iff_ne, Bool.not_eq_true', Bool.not_eq_false', Bool.not_not, ne_eq, gt_iff_lt, ge_iff_le] at hc); (try (exfalso; omega)); (try exact absurd rfl hc)))
      | ((with_reducible apply S_cdt); · rfl)
      | ((with_reducible apply S_cdf); · rfl)
      | ((with_reducible apply S_cd); (· rfl); all_goals (intro hc; (try simp only [decide_eq_true_eq, decide_eq_false_iff_not, bne_iff_ne, bne_eq_false_iff_eq, beq_iff_eq, beq_eq_false_iff_ne, Bool.not_eq_true', Bool.not_eq_false', Bool.not_not, ne_eq, gt_iff_lt, ge_iff_le] at hc); (try (exfalso; omega)); (try exact absurd rfl hc)))
      | with_reducible apply S_rt
      | with_reducible apply S_bk
      | with_reducible apply S_sk
      | with_reducible apply S_xt
      | with_reducible apply S_q2
      | with_reducible apply S_q7
      | with_reducible apply S_q1
      | with_reducible apply S_q3
      | with_reducible apply S_q4
      | with_reducible apply S_q6
      | ((with_reducible apply S_q5); · rfl)
      | ((with_reducible apply S_fin); · rfl)
      | ((with_reducible apply S_fin'); · rfl)
    rw [List.take_of_length_le hge, show la.length - i = 0 by omega]
    simp only [List.replicate_zero, List.flatten_nil, List.append_nil]
    exact h b hb
end Go.Proofs.Ytbmoifddenagiaa.C
open Go Go.HL Go.Proofs
namespace Go.Proofs.Ytbmoifddenagiaa.C
set_option linter.unusedVariables false
set_option maxRecDepth 100000
set_option linter.unusedSimpArgs false
variable {H : Hp} {Q : Value → Hp → Prop}
def markA (k : Nat) : Agg := ⟨(k : Nat), ((k + 1 : Nat) : Int), ((k + 1 + 1 : Nat) : Int), ((k + 1 + 1 + 1 : Nat) : Int), ((k + 1 + 1 + 1 + 1 : Nat) : Int), ((k + 1 + 1 + 1 + 1 + 1 : Nat) : Int)⟩
theorem markAggS_c {v : Value} {n k : Nat} {cells : List Value} (ho : OwnS H 81 6 v n cells) (hn : n ≤ 1048576) (hk : k ≤ 1125899906842624)
    (h : ∀ H', OwnS H' 81 6 v n ((mks markA 6 k n).flatMap encA) → Msk (fun b => v.ownBlock = some b) H H' → Q (vi ((k + 6 * n : Nat) : Int)) H') : CallR Try.prog 68 [v, vi k] H Q := by
  obtain ⟨hlen, ⟨rfl, rfl⟩ | ⟨b, cap, rest, rfl, hown, hcap, hall⟩⟩ := ho
  · refine callR_body Try.func68 t68 rfl ?_
    dsimp only [c68]
    repeat' first
      | ((with_reducible apply S_pv); · rfl)
      | ((with_reducible apply S_sv); · rfl)
      | with_reducible apply S_nil2
      | with_reducible apply S_nil
      | with_reducible apply S_sq
      | with_reducible apply S_rg
      | ((with_reducible apply S_nv); · rfl)
      | ((with_reducible apply S_gt); · rfl)
      | ((with_reducible apply S_gf); · rfl)
      | ((with_reducible apply S_gu); · rfl)
      | ((with_reducible apply S_gs); (· rfl); all_goals (intro hc; rw [hc]; (try simp only [decide_eq_true_eq, decide_eq_false_iff_not, bne_iff_ne, bne_eq_false_iff_eq, beq_iff_eq, beq_eq_false_iff_ne, Bool.not_eq_true', Bool.not_eq_false', Bool.not_not, ne_eq, gt_iff_lt, ge_iff_le] at hc); (try (exfalso; omega)); (try exact absurd rfl hc)))
      | ((with_reducible apply S_pks); (· rfl); all_goals (intro hc; rw [hc]; (try simp only [decide_eq_true_eq, decide_eq_false_iff_not, bne_iff_ne, bne_eq_false_iff_eq, beq_iff_eq, beq_eq_false_iff_ne, Bool.not_eq_true', Bool.not_eq_false', Bool.not_not, ne_eq, gt_iff_lt, ge_iff_le] at hc); (try (exfalso; omega)); (try exact absurd rfl hc)))
      | ((with_reducible apply S_cdt); · rfl)
      | ((with_reducible apply S_cdf); · rfl)
      | ((with_reducible apply S_cd); (· rfl); all_goals (intro hc; (try simp only [decide_eq_true_eq, decide_eq_false_iff_not, bne_iff_ne, bne_eq_false_iff_eq, beq_iff_eq, beq_eq_false_iff_ne, Bool.not_eq_true', Bool.not_eq_false', Bool.not_not, ne_eq, gt_iff_lt, ge_iff_le] at hc); (try (exfalso; omega)); (try exact absurd rfl hc)))
      | with_reducible apply S_rt
      | with_reducible apply S_bk
      | with_reducible apply S_sk
      | with_reducible apply S_xt
      | with_reducible apply S_q2
      | with_reducible apply S_q7
      | with_reducible apply S_q1
      | with_reducible apply S_q3
      | with_reducible apply S_q4
      | with_reducible apply S_q6
      | ((with_reducible apply S_q5); · rfl)
      | ((with_reducible apply S_fin); · rfl)
      | ((with_reducible apply S_fin'); · rfl)
    refine S_lpE (fun i : Nat => [(0, .v (.slice none 0 0)), (1, .v (vi k)), (5, .v (vi i))]) (fun _ => []) (fun i H' => H' = H ∧ i = 0) (fun i => 0) 0 (EL_r rfl (EL_r rfl (EL_r rfl EL_nil))) ⟨rfl, rfl⟩ ?_
    rintro i H' ⟨rfl, rfl⟩
    repeat' first
      | ((with_reducible apply S_pv); · rfl)
      | ((with_reducible apply S_sv); · rfl)
      | with_reducible apply S_nil2
      | with_reducible apply S_nil
      | with_reducible apply S_sq
      | with_reducible apply S_rg
      | ((with_reducible apply S_nv); · rfl)
      | ((with_reducible apply S_gt); · rfl)
      | ((with_reducible apply S_gf); · rfl)
      | ((with_reducible apply S_gu); · rfl)
      | ((with_reducible apply S_gs); (· rfl); all_goals (intro hc; rw [hc]; (try simp only [decide_eq_true_eq, decide_eq_false_iff_not, bne_iff_ne, bne_eq_false_iff_eq, beq_iff_eq, beq_eq_false_iff_ne, Bool.not_eq_true', Bool.not_eq_false', Bool.not_not, ne_eq, gt_iff_lt, ge_iff_le] at hc); (try (exfalso; omega)); (try exact absurd rfl hc)))
      | ((with_reducible apply S_pks); (· rfl); all_goals (intro hc; rw [hc]; (try simp only [decide_eq_true_eq, decide_eq_false_iff_not, bne_iff_ne, bne_eq_false_iff_eq, beq_iff_eq, beq_eq_false_iff_ne, Bool.not_eq_true', Bool.not_eq_false', Bool.not_not, ne_eq, gt_iff_lt, ge_iff_le] at hc); (try (exfalso; omega)); (try exact absurd rfl hc)))
      | ((with_reducible apply S_cdt); · rfl)
      | ((with_reducible apply S_cdf); · rfl)
      | ((with_reducible apply S_cd); (· rfl); all_goals (intro hc; (try simp only [decide_eq_true_eq, decide_eq_false_iff_not, bne_iff_ne, bne_eq_false_iff_eq, beq_iff_eq, beq_eq_false_iff_ne, Bool.not_eq_true', Bool.not_eq_false', Bool.not_not, ne_eq, gt_iff_lt, ge_iff_le] at hc); (try (exfalso; omega)); (try exact absurd rfl hc)))
      | with_reducible apply S_rt
      | with_reducible apply S_bk
      | with_reducible apply S_sk
      | with_reducible apply S_xt
      | with_reducible apply S_q2
      | with_reducible apply S_q7
      | with_reducible apply S_q1
      | with_reducible apply S_q3
      | with_reducible apply S_q4
      | with_reducible apply S_q6
      | ((with_reducible apply S_q5); · rfl)
      | ((with_reducible apply S_fin); · rfl)
      | ((with_reducible apply S_fin'); · rfl)
    exact h _ (OwnS.nil _ _ _) (Msk.refl _ _)
  · refine callR_body Try.func68 t68 rfl ?_
    dsimp only [c68]
    repeat' first
      | ((with_reducible apply S_pv); · rfl)
      | ((with_reducible apply S_sv); · rfl)
      | with_reducible apply S_nil2
      | with_reducible apply S_nil
      | with_reducible apply S_sq
      | with_reducible apply S_rg
      | ((with_reducible apply S_nv); · rfl)
      | ((with_reducible apply S_gt); · rfl)
      | ((with_reducible apply S_gf); · rfl)
      | ((with_reducible apply S_gu); · rfl)
      | ((with_reducible apply S_gs); (· rfl); all_goals (intro hc; rw [hc]; (try simp only [decide_eq_true_eq, decide_eq_false_iff_not, bne_iff_ne, bne_eq_false_iff_eq, beq_iff_eq, beq_eq_false_iff_ne, Bool.not_eq_true', Bool.not_eq_false', Bool.not_not, ne_eq, gt_iff_lt, ge_iff_le] at hc); (try (exfalso; omega)); (try exact absurd rfl hc)))
      | ((with_reducible apply S_pks); (· rfl); all_goals (intro hc; rw [hc]; (try simp only [decide_eq_true_eq, decide_eq_false_iff_not, bne_iff_ne, bne_eq_false_iff_eq, beq_iff_eq, beq_eq_false_iff_ne, Bool.not_eq_true', Bool.not_eq_false', Bool.not_not, ne_eq, gt_iff_lt, ge_iff_le] at hc); (try (exfalso; omega)); (try exact absurd rfl hc)))
      | ((with_reducible apply S_cdt); · rfl)
      | ((with_reducible apply S_cdf); · rfl)
      | ((with_reducible apply S_cd); (· rfl); all_goals (intro hc; (try simp only [decide_eq_true_eq, decide_eq_false_iff_not, bne_iff_ne, bne_eq_false_iff_eq, beq_iff_eq, beq_eq_false_iff_ne, Bool.not_eq_true', Bool.not_eq_false', Bool.not_not, ne_eq, gt_iff_lt, ge_iff_le] at hc); (try (exfalso; omega)); (try exact absurd rfl hc)))
      | with_reducible apply S_rt
      | with_reducible apply S_bk
      | with_reducible apply S_sk
      | with_reducible apply S_xt
      | with_reducible apply S_q2
      | with_reducible apply S_q7
      | with_reducible apply S_q1
      | with_reducible apply S_q3
      | with_reducible apply S_q4
      | with_reducible apply S_q6
      | ((with_reducible apply S_q5); · rfl)
      | ((with_reducible apply S_fin); · rfl)
      | ((with_reducible apply S_fin'); · rfl)
    refine S_lpE (fun i : Nat => [(0, .v (.slice (some ⟨b, 0, none⟩) n cap)), (1, .v (vi (k + 6 * i : Nat))), (5, .v (vi i))]) (fun _ => []) (fun i H' => H' = H.set b ((mks markA 6 k i).flatMap encA ++ (cells.drop (i * 6) ++ rest), 81) ∧ i ≤ n) (fun i => n - i) 0 (EL_r rfl (EL_r rfl (EL_r rfl EL_nil))) ⟨?_, by omega⟩ ?_
    · exact (set_id hown).symm
    rintro i H' ⟨rfl, hi⟩
    have hP : ((mks markA 6 k i).flatMap encA).length = i * 6 := by rw [flat_len encA_len, mks_len]
    rcases Nat.lt_or_ge i n with hlt | hge
    · obtain ⟨c0, c1, c2, c3, c4, c5, hc6⟩ := len6 (take_len hlen hlt)
      rw [drop_split, hc6, List.append_assoc]
      repeat' first
        | ((with_reducible apply S_ia); (· rfl); (· rfl); (· omega))
        | ((with_reducible apply S_inc); (· rfl); (· omega))
        | ((with_reducible apply S_stP hP); (· rfl); (· rw [add0, addk]); (· simp))
        | ((with_reducible apply S_pv); · rfl)
        | ((with_reducible apply S_sv); · rfl)
        | with_reducible apply S_nil2
        | with_reducible apply S_nil
        | with_reducible apply S_sq
        | with_reducible apply S_rg
        | ((with_reducible apply S_nv); · rfl)
        | ((with_reducible apply S_gt); · rfl)
        | ((with_reducible apply S_gf); · rfl)
        | ((with_reducible apply S_gu); · rfl)
        | ((with_reducible apply S_gs); (· rfl); all_goals (intro hc; rw [hc]; (try simp only [decide_eq_true_eq, decide_eq_false_iff_not, bne_iff_ne, bne_eq_false_iff_eq, beq_iff_eq, beq_eq_false_iff_ne, Bool.not_eq_true', Bool.not_eq_false', Bool.not_not, ne_eq, gt_iff_lt, ge_iff_le] at hc); (try (exfalso; omega)); (try exact absurd rfl hc)))
        | ((with_reducible apply S_pks); (· rfl); all_goals (intro hc; rw [hc]; (try simp only [decide_eq_true_eq, decide_eq_false_iff_not, bne_iff_ne, bne_eq_false_iff_eq, beq_iff_eq, beq_eq_false_iff_ne, Bool.not_eq_true', Bool.not_eq_false', Bool.not_not, ne_eq, gt_iff_lt, ge_iff_le] at hc); (try (exfalso; omega)); (try exact absurd rfl hc)))
        | ((with_reducible apply S_cdt); · rfl)
        | ((with_reducible apply S_cdf); · rfl)
        | ((with_reducible apply S_cd); (· rfl); all_goals (intro hc; (try simp only [decide_eq_true_eq, decide_eq_false_iff_not, bne_iff_ne, bne_eq_false_iff_eq, beq_iff_eq, beq_eq_false_iff_ne, Bool.not_eq_true', Bool.not_eq_false', Bool.not_not, ne_eq, gt_iff_lt, ge_iff_le] at hc); (try (exfalso; omega)); (try exact absurd rfl hc)))
        | with_reducible apply S_rt
        | with_reducible apply S_bk
        | with_reducible apply S_sk
        | with_reducible apply S_xt
        | with_reducible apply S_q2
        | with_reducible apply S_q7
        | with_reducible apply S_q1
        | with_reducible apply S_q3
        | with_reducible apply S_q4
        | with_reducible apply S_q6
        | ((with_reducible apply S_q5); · rfl)
        | ((with_reducible apply S_fin); · rfl)
        | ((with_reducible apply S_fin'); · rfl)
      refine ⟨i + 1, by dsimp only; omega, EL_r rfl (EL_r rfl (EL_r rfl EL_nil)), ?_, hlt⟩
      rw [mks_succ, flat_snoc, List.append_assoc]
      rfl
    · skip
      repeat' first
        | ((with_reducible apply S_pv); · rfl)
        | ((with_reducible apply S_sv); · rfl)
        | with_reducible apply S_nil2
        | with_reducible apply S_nil
        | with_reducible apply S_sq
        | with_reducible apply S_rg
        | ((with_reducible apply S_nv); · rfl)
        | ((with_reducible apply S_gt); · rfl)
        | ((with_reducible apply S_gf); · rfl)
        | ((with_reducible apply S_gu); · rfl)
        | ((with_reducible apply S_gs); (· rfl); all_goals (intro hc; rw [hc]; (try simp only [decide_eq_true_eq, decide_eq_false_iff_not, bne_iff_ne, bne_eq_false_iff_eq, beq_iff_eq, beq_eq_false_iff_ne, Bool.not_eq_true', Bool.not_eq_false', Bool.not_not, ne_eq, gt_iff_lt, ge_iff_le] at hc); (try (exfalso; omega)); (try exact absurd rfl hc)))
        | ((with_reducible apply S_pks); (· rfl); all_goals (intro hc; rw [hc]; (try simp only [decide_eq_true_eq, decide_eq_false_iff_not, bne_iff_ne, bne_eq_false_iff_eq, beq_iff_eq, beq_eq_false_iff_ne, Bool.not_eq_true', Bool.not_eq_false', Bool.not_not, ne_eq, gt_iff_lt, ge_iff_le] at hc); (try (exfalso; omega)); (try exact absurd rfl hc)))
        | ((with_reducible apply S_cdt); · rfl)
        | ((with_reducible apply S_cdf); · rfl)
        | ((with_reducible apply S_cd); (· rfl); all_goals (intro hc; (try simp only [decide_eq_true_eq, decide_eq_false_iff_not, bne_iff_ne, bne_eq_false_iff_eq, beq_iff_eq, beq_eq_false_iff_ne, Bool.not_eq_true', Bool.not_eq_false', Bool.not_not, ne_eq, gt_iff_lt, ge_iff_le] at hc); (try (exfalso; omega)); (try exact absurd rfl hc)))
        | with_reducible apply S_rt
        | with_reducible apply S_bk
        | with_reducible apply S_sk
        | with_reducible apply S_xt
        | with_reducible apply S_q2
        | with_reducible apply S_q7
        | with_reducible apply S_q1
        | with_reducible apply S_q3
        | with_reducible apply S_q4
        | with_reducible apply S_q6
        | ((with_reducible apply S_q5); · rfl)
        | ((with_reducible apply S_fin); · rfl)
        | ((with_reducible apply S_fin'); · rfl)
      have hin : i = n := by omega
      subst hin
      rw [List.drop_of_length_le (by omega), List.nil_append]
      have hl2 : ((mks markA 6 k i).flatMap encA ++ rest).length = (cells ++ rest).length := by simp only [List.length_append, hP, hlen]
      refine h _ ⟨hP, .inr ⟨b, cap, rest, rfl, set_own _ _ _, hcap, hl2.trans hall⟩⟩ (Msk.set rfl hown hl2)
theorem heldAggS_c {v : Value} {n k : Nat} (ho : RdS encA H v (mks markA 6 k n)) (hn : n ≤ 1048576) (hk : k ≤ 1125899906842624) (h : Q (vi ((k + 6 * n : Nat) : Int)) H) : CallR Try.prog 71 [v, vi k] H Q := by
  obtain ⟨A, ca, rfl, hA⟩ := ho
  rw [mks_len]
  refine callR_body Try.func71 t71 rfl ?_
  dsimp only [c71]
  repeat' first
    | ((with_reducible apply S_pv); · rfl)
    | ((with_reducible apply S_sv); · rfl)
    | with_reducible apply S_nil2
    | with_reducible apply S_nil
    | with_reducible apply S_sq
    | with_reducible apply S_rg
    | ((with_reducible apply S_nv); · rfl)
    | ((with_reducible apply S_gt); · rfl)
    | ((with_reducible apply S_gf); · rfl)
    | ((with_reducible apply S_gu); · rfl)
    | ((with_reducible apply S_gs); (· rfl); all_goals (intro hc; rw [hc]; (try simp only [decide_eq_true_eq, decide_eq_false_iff_not, bne_iff_ne, bne_eq_false_iff_eq, beq_iff_eq, beq_eq_false_iff_ne, Bool.not_eq_true', Bool.not_eq_false', Bool.not_not, ne_eq, gt_iff_lt, ge_iff_le] at hc); (try (exfalso; omega)); (try exact absurd rfl hc)))
    | ((with_reducible apply S_pks); (· rfl); all_goals (intro hc; rw [hc]; (try simp only [decide_eq_true_eq, decide_eq_false_iff_not, bne_iff_ne, bne_eq_false_iff_eq, beq_iff_eq, beq_eq_false_iff_ne, Bool.not_eq_true', Bool.not_eq_false', Bool.not_not, ne_eq, gt_iff_lt, ge_iff_le] at hc); (try (exfalso; omega)); (try exact absurd rfl hc)))
    | ((with_reducible apply S_cdt); · rfl)
    | ((with_reducible apply S_cdf); · rfl)
    | ((with_reducible apply S_cd); (· rfl); all_goals (intro hc; (try simp only [decide_eq_true_eq, decide_eq_false_iff_not, bne_iff_ne, bne_eq_false_iff_eq, beq_iff_eq, beq_eq_false_iff_ne, Bool.not_eq_true', Bool.not_eq_false', Bool.not_not, ne_eq, gt_iff_lt, ge_iff_le] at hc); (try (exfalso; omega)); (try exact absurd rfl hc)))
    | with_reducible apply S_rt
    | with_reducible apply S_bk
    | with_reducible apply S_sk
    | with_reducible apply S_xt
    | with_reducible apply S_q2
    | with_reducible apply S_q7
    | with_reducible apply S_q1
    | with_reducible apply S_q3
    | with_reducible apply S_q4
    | with_reducible apply S_q6
    | ((with_reducible apply S_q5); · rfl)
    | ((with_reducible apply S_fin); · rfl)
    | ((with_reducible apply S_fin'); · rfl)
  refine S_lpE (fun i : Nat => [(0, .v (.slice A n ca)), (1, .v (vi (k + 6 * i : Nat))), (5, .v (vi i))]) (fun _ => []) (fun i H' => H' = H ∧ i ≤ n) (fun i => n - i) 0 (EL_r rfl (EL_r rfl (EL_r rfl EL_nil))) ⟨rfl, by omega⟩ ?_
  rintro i H' ⟨rfl, hi⟩
  rcases Nat.lt_or_ge i n with hlt | hge
  · obtain ⟨ad, rfl, hr⟩ := HasAll.get encA_len (by decide) hA (mks_get markA 6 k hlt)
    repeat' first
      | ((with_reducible apply S_ia); (· rfl); (· rfl); (· omega))
      | ((with_reducible apply S_inc); (· rfl); (· omega))
      | ((with_reducible apply S_ld1); (· rfl); (· exact hr _ _ rfl))
      | ((with_reducible apply S_pv); · rfl)
      | ((with_reducible apply S_sv); · rfl)
      | with_reducible apply S_nil2
      | with_reducible apply S_nil
      | with_reducible apply S_sq
      | with_reducible apply S_rg
      | ((with_reducible apply S_nv); · rfl)
      | ((with_reducible apply S_gt); · rfl)
      | ((with_reducible apply S_gf); · rfl)
      | ((with_reducible apply S_gu); · rfl)
      | ((with_reducible apply S_gs); (· rfl); all_goals (intro hc; rw [hc]; (try simp only [decide_eq_true_eq, decide_eq_false_iff_not, bne_iff_ne, bne_eq_false_iff_eq, beq_iff_eq, beq_eq_false_iff_ne, Bool.not_eq_true', Bool.not_eq_false', Bool.not_not, ne_eq, gt_iff_lt, ge_iff_le] at hc); (try (exfalso; omega)); (try exact absurd rfl hc)))
      | ((with_reducible apply S_pks); (· rfl); all_goals (intro hc; rw [hc]; (try simp only [decide_eq_true_eq, decide_eq_false_iff_not, bne_iff_ne, bne_eq_false_iff_eq, beq_iff_eq, beq_eq_false_iff_ne, Bool.not_eq_true', Bool.not_eq_false', Bool.not_not, ne_eq, gt_iff_lt, ge_iff_le] at hc); (try (exfalso; omega)); (try exact absurd rfl hc)))
      | ((with_reducible apply S_cdt); · rfl)
      | ((with_reducible apply S_cdf); · rfl)
      | ((with_reducible apply S_cd); (· rfl); all_goals (intro hc; (try simp only [decide_eq_true_eq, decide_eq_false_iff_not, bne_iff_ne, bne_eq_false_iff_eq, beq_iff_eq, beq_eq_false_iff_ne, Bool.not_eq_true', Bool.not_eq_false', Bool.not_not, ne_eq, gt_iff_lt, ge_iff_le] at hc); (try (exfalso; omega)); (try exact absurd rfl hc)))
      | with_reducible apply S_rt
      | with_reducible apply S_bk
      | with_reducible apply S_sk
      | with_reducible apply S_xt
      | with_reducible apply S_q2
      | with_reducible apply S_q7
      | with_reducible apply S_q1
      | with_reducible apply S_q3
      | with_reducible apply S_q4
      | with_reducible apply S_q6
      | ((with_reducible apply S_q5); · rfl)
      | ((with_reducible apply S_fin); · rfl)
      | ((with_reducible apply S_fin'); · rfl)
    exact ⟨i + 1, by dsimp only; omega, EL_r rfl (EL_r rfl (EL_r rfl EL_nil)), rfl, hlt⟩
  · skip
    repeat' first
      | ((with_reducible apply S_pv); · rfl)
      | ((with_reducible apply S_sv); · rfl)
      | with_reducible apply S_nil2
      | with_reducible apply S_nil
      | with_reducible apply S_sq
      | with_reducible apply S_rg
      | ((with_reducible apply S_nv); · rfl)
      | ((with_reducible apply S_gt); · rfl)
      | ((with_reducible apply S_gf); · rfl)
      | ((with_reducible apply S_gu); · rfl)
      | ((with_reducible apply S_gs); (· rfl); all_goals (intro hc; rw [hc]; (try simp only [decide_eq_true_eq, decide_eq_false_iff_not, bne_iff_ne, bne_eq_false_iff_eq, beq_iff_eq, beq_eq_false_iff_ne, Bool.not_eq_true', Bool.not_eq_false', Bool.not_not, ne_eq, gt_iff_lt, ge_iff_le] at hc); (try (exfalso; omega)); (try exact absurd rfl hc)))
      | ((with_reducible apply S_pks); (· rfl); all_goals (intro hc; rw [hc]; (try simp only [decide_eq_true_eq, decide_eq_false_iff_not, bne_iff_ne, bne_eq_false_iff_eq, beq_iff_eq, beq_eq_false_iff_ne, Bool.not_eq_true', Bool.not_eq_false', Bool.not_not, ne_eq, gt_iff_lt, ge_iff_le] at hc); (try (exfalso; omega)); (try exact absurd rfl hc)))
      | ((with_reducible apply S_cdt); · rfl)
      | ((with_reducible apply S_cdf); · rfl)
      | ((with_reducible apply S_cd); (· rfl); all_goals (intro hc; (try simp only [decide_eq_true_eq, decide_eq_false_iff_not, bne_iff_ne, bne_eq_false_iff_eq, beq_iff_eq, beq_eq_false_iff_ne, Bool.not_eq_true', Bool.not_eq_false', Bool.not_not, ne_eq, gt_iff_lt, ge_iff_le] at hc); (try (exfalso; omega)); (try exact absurd rfl hc)))
      | with_reducible apply S_rt
      | with_reducible apply S_bk
      | with_reducible apply S_sk
      | with_reducible apply S_xt
      | with_reducible apply S_q2
      | with_reducible apply S_q7
      | with_reducible apply S_q1
      | with_reducible apply S_q3
      | with_reducible apply S_q4
      | with_reducible apply S_q6
      | ((with_reducible apply S_q5); · rfl)
      | ((with_reducible apply S_fin); · rfl)
      | ((with_reducible apply S_fin'); · rfl)
    rw [show i = n by omega]
    exact h
end Go.Proofs.Ytbmoifddenagiaa.C
open Go Go.HL Go.Proofs
namespace Go.Proofs.Ytbmoifddenagiaa.C
set_option linter.unusedVariables false
set_option maxRecDepth 100000
set_option linter.unusedSimpArgs false
variable {H : Hp} {Q : Value → Hp → Prop}
structure Shard where
  aggs : List Agg
  mark : Int
  late : Int
  over : Int
  deriving DecidableEq
structure Save where
  at_ : Int
  sh : Shard
  deriving DecidableEq
def vSh (v : Value) (s : Shard) : Value := .agg #[v, vi s.mark, vi s.late, vi s.over]
def encSv (v : Value) (s : Save) : List Value := [vi s.at_, v, vi s.sh.mark, vi s.sh.late, vi s.sh.over]
def vSv (v : Value) (s : Save) : Value := .agg #[vi s.at_, v, vi s.sh.mark, vi s.sh.late, vi s.sh.over]
abbrev sl (b n : Nat) : Value := .slice (some ⟨b, 0, none⟩) n n

/-! sizes -/
theorem szAggS_ok {la : List Agg} {v : Value} (ha : RdS encA H v la) {left : Nat} (hl : left ≤ 1048576) (hf : la.length ≤ left) (h : Q (vi ((left - la.length : Nat) : Int)) H) : CallR Try.prog 87 [v, vi left] H Q :=
  szAggS_c ha hl (by rw [if_pos hf]; exact h) (by omega)
theorem szAggS_no {la : List Agg} {v : Value} (ha : RdS encA H v la) {left : Nat} (hl : left ≤ 1048576) (hf : ¬ la.length ≤ left) (hm : la.length ≤ 9223372036854775807) (h : Q (vi (-1)) H) : CallR Try.prog 87 [v, vi left] H Q :=
  szAggS_c ha hl (by rw [if_neg hf]; exact h) hm
theorem szShard_ok {s : Shard} {v : Value} (ha : RdS encA H v s.aggs) {left : Nat} (hl : left ≤ 1048576) (hf : s.aggs.length ≤ left) (h : Q (vi ((left - s.aggs.length : Nat) : Int)) H) : CallR Try.prog 45 [vSh v s, vi left] H Q := by
  refine callR_body Try.func45 t45 rfl ?_
  dsimp only [c45]
  repeat' first
    | ((with_reducible apply S_pv); · rfl)
    | ((with_reducible apply S_sv); · rfl)
    | with_reducible apply S_nil2
    | with_reducible apply S_nil
    | with_reducible apply S_sq
    | with_reducible apply S_rg
    | ((with_reducible apply S_nv); · rfl)
    | ((with_reducible apply S_gt); · rfl)
    | ((with_reducible apply S_gf); · rfl)
    | ((with_reducible apply S_gu); · rfl)
    | ((with_reducible apply S_gs); (· rfl); all_goals (intro hc; rw [hc]; (try simp only [decide_eq_true_eq, decide_eq_false_iff_not, bne_iff_ne, bne_eq_false_iff_eq, beq_iff_eq, beq_eq_false_iff_ne, Bool.not_eq_true', Bool.not_eq_false', Bool.not_not, ne_eq, gt_iff_lt, ge_iff_le] at hc); (try (exfalso; omega)); (try exact absurd rfl hc)))
    | ((with_reducible apply S_pks); (· rfl); all_goals (intro hc; rw [hc]; (try simp only [decide_eq_true_eq, decide_eq_false_iff_not, bne_iff_ne, bne_eq_false_iff_eq, beq_iff_eq, beq_eq_false_iff_ne, Bool.not_eq_true', Bool.not_eq_false', Bool.not_not, ne_eq, gt_iff_lt, ge_iff_le] at hc); (try (exfalso; omega)); (try exact absurd rfl hc)))
    | ((with_reducible apply S_ca); (· rfl); first | refine szAggS_ok ha hl hf ?_)
    | ((with_reducible apply S_cdt); · rfl)
    | ((with_reducible apply S_cdf); · rfl)
    | ((with_reducible apply S_cd); (· rfl); all_goals (intro hc; (try simp only [decide_eq_true_eq, decide_eq_false_iff_not, bne_iff_ne, bne_eq_false_iff_eq, beq_iff_eq, beq_eq_false_iff_ne, Bool.not_eq_true', Bool.not_eq_false', Bool.not_not, ne_eq, gt_iff_lt, ge_iff_le] at hc); (try (exfalso; omega)); (try exact absurd rfl hc)))
    | with_reducible apply S_rt
    | with_reducible apply S_bk
    | with_reducible apply S_sk
    | with_reducible apply S_xt
    | with_reducible apply S_q2
    | with_reducible apply S_q7
    | with_reducible apply S_q1
    | with_reducible apply S_q3
    | with_reducible apply S_q4
    | with_reducible apply S_q6
    | ((with_reducible apply S_q5); · rfl)
    | ((with_reducible apply S_fin); · rfl)
    | ((with_reducible apply S_fin'); · rfl)
  exact h
theorem szShard_no {s : Shard} {v : Value} (ha : RdS encA H v s.aggs) {left : Nat} (hl : left ≤ 1048576) (hf : ¬ s.aggs.length ≤ left) (hm : s.aggs.length ≤ 9223372036854775807) (h : Q (vi (-1)) H) : CallR Try.prog 45 [vSh v s, vi left] H Q := by
  refine callR_body Try.func45 t45 rfl ?_
  dsimp only [c45]
  repeat' first
    | ((with_reducible apply S_pv); · rfl)
    | ((with_reducible apply S_sv); · rfl)
    | with_reducible apply S_nil2
    | with_reducible apply S_nil
    | with_reducible apply S_sq
    | with_reducible apply S_rg
    | ((with_reducible apply S_nv); · rfl)
    | ((with_reducible apply S_gt); · rfl)
    | ((with_reducible apply S_gf); · rfl)
    | ((with_reducible apply S_gu); · rfl)
    | ((with_reducible apply S_gs); (· rfl); all_goals (intro hc; rw [hc]; (try simp only [decide_eq_true_eq, decide_eq_false_iff_not, bne_iff_ne, bne_eq_false_iff_eq, beq_iff_eq, beq_eq_false_iff_ne, Bool.not_eq_true', Bool.not_eq_false', Bool.not_not, ne_eq, gt_iff_lt, ge_iff_le] at hc); (try (exfalso; omega)); (try exact absurd rfl hc)))
    | ((with_reducible apply S_pks); (· rfl); all_goals (intro hc; rw [hc]; (try simp only [decide_eq_true_eq, decide_eq_false_iff_not, bne_iff_ne, bne_eq_false_iff_eq, beq_iff_eq, beq_eq_false_iff_ne, Bool.not_eq_true', Bool.not_eq_false', Bool.not_not, ne_eq, gt_iff_lt, ge_iff_le] at hc); (try (exfalso; omega)); (try exact absurd rfl hc)))
    | ((with_reducible apply S_ca); (· rfl); first | refine szAggS_no ha hl hf hm ?_)
    | ((with_reducible apply S_cdt); · rfl)
    | ((with_reducible apply S_cdf); · rfl)
    | ((with_reducible apply S_cd); (· rfl); all_goals (intro hc; (try simp only [decide_eq_true_eq, decide_eq_false_iff_not, bne_iff_ne, bne_eq_false_iff_eq, beq_iff_eq, beq_eq_false_iff_ne, Bool.not_eq_true', Bool.not_eq_false', Bool.not_not, ne_eq, gt_iff_lt, ge_iff_le] at hc); (try (exfalso; omega)); (try exact absurd rfl hc)))
    | with_reducible apply S_rt
    | with_reducible apply S_bk
    | with_reducible apply S_sk
    | with_reducible apply S_xt
    | with_reducible apply S_q2
    | with_reducible apply S_q7
    | with_reducible apply S_q1
    | with_reducible apply S_q3
    | with_reducible apply S_q4
    | with_reducible apply S_q6
    | ((with_reducible apply S_q5); · rfl)
    | ((with_reducible apply S_fin); · rfl)
    | ((with_reducible apply S_fin'); · rfl)
  exact h
theorem szSave_ok {s : Save} {v : Value} (ha : RdS encA H v s.sh.aggs) {left : Nat} (hl : left ≤ 1048576) (hf : s.sh.aggs.length ≤ left) (h : Q (vi ((left - s.sh.aggs.length : Nat) : Int)) H) : CallR Try.prog 63 [vSv v s, vi left] H Q := by
  refine callR_body Try.func63 t63 rfl ?_
  dsimp only [c63]
  repeat' first
    | ((with_reducible apply S_pv); · rfl)
    | ((with_reducible apply S_sv); · rfl)
    | with_reducible apply S_nil2
    | with_reducible apply S_nil
    | with_reducible apply S_sq
    | with_reducible apply S_rg
    | ((with_reducible apply S_nv); · rfl)
    | ((with_reducible apply S_gt); · rfl)
    | ((with_reducible apply S_gf); · rfl)
    | ((with_reducible apply S_gu); · rfl)
    | ((with_reducible apply S_gs); (· rfl); all_goals (intro hc; rw [hc]; (try simp only [decide_eq_true_eq, decide_eq_false_iff_not, bne_iff_ne, bne_eq_false_iff_eq, beq_iff_eq, beq_eq_false_iff_ne, Bool.not_eq_true', Bool.not_eq_false', Bool.not_not, ne_eq, gt_iff_lt, ge_iff_le] at hc); (try (exfalso; omega)); (try exact absurd rfl hc)))
    | ((with_reducible apply S_pks); (· rfl); all_goals (intro hc; rw [hc]; (try simp only [decide_eq_true_eq, decide_eq_false_iff_not, bne_iff_ne, bne_eq_false_iff_eq, beq_iff_eq, beq_eq_false_iff_ne, Bool.not_eq_true', Bool.not_eq_false', Bool.not_not, ne_eq, gt_iff_lt, ge_iff_le] at hc); (try (exfalso; omega)); (try exact absurd rfl hc)))
    | ((with_reducible apply S_ca); (· rfl); first | refine szShard_ok (s := s.sh) ha hl hf ?_)
    | ((with_reducible apply S_cdt); · rfl)
    | ((with_reducible apply S_cdf); · rfl)
    | ((with_reducible apply S_cd); (· rfl); all_goals (intro hc; (try simp only [decide_eq_true_eq, decide_eq_false_iff_not, bne_iff_ne, bne_eq_false_iff_eq, beq_iff_eq, beq_eq_false_iff_ne, Bool.not_eq_true', Bool.not_eq_false', Bool.not_not, ne_eq, gt_iff_lt, ge_iff_le] at hc); (try (exfalso; omega)); (try exact absurd rfl hc)))
    | with_reducible apply S_rt
    | with_reducible apply S_bk
    | with_reducible apply S_sk
    | with_reducible apply S_xt
    | with_reducible apply S_q2
    | with_reducible apply S_q7
    | with_reducible apply S_q1
    | with_reducible apply S_q3
    | with_reducible apply S_q4
    | with_reducible apply S_q6
    | ((with_reducible apply S_q5); · rfl)
    | ((with_reducible apply S_fin); · rfl)
    | ((with_reducible apply S_fin'); · rfl)
  exact h
theorem szSave_no {s : Save} {v : Value} (ha : RdS encA H v s.sh.aggs) {left : Nat} (hl : left ≤ 1048576) (hf : ¬ s.sh.aggs.length ≤ left) (hm : s.sh.aggs.length ≤ 9223372036854775807) (h : Q (vi (-1)) H) : CallR Try.prog 63 [vSv v s, vi left] H Q := by
  refine callR_body Try.func63 t63 rfl ?_
  dsimp only [c63]
  repeat' first
    | ((with_reducible apply S_pv); · rfl)
    | ((with_reducible apply S_sv); · rfl)
    | with_reducible apply S_nil2
    | with_reducible apply S_nil
    | with_reducible apply S_sq
    | with_reducible apply S_rg
    | ((with_reducible apply S_nv); · rfl)
    | ((with_reducible apply S_gt); · rfl)
    | ((with_reducible apply S_gf); · rfl)
    | ((with_reducible apply S_gu); · rfl)
    | ((with_reducible apply S_gs); (· rfl); all_goals (intro hc; rw [hc]; (try simp only [decide_eq_true_eq, decide_eq_false_iff_not, bne_iff_ne, bne_eq_false_iff_eq, beq_iff_eq, beq_eq_false_iff_ne, Bool.not_eq_true', Bool.not_eq_false', Bool.not_not, ne_eq, gt_iff_lt, ge_iff_le] at hc); (try (exfalso; omega)); (try exact absurd rfl hc)))
    | ((with_reducible apply S_pks); (· rfl); all_goals (intro hc; rw [hc]; (try simp only [decide_eq_true_eq, decide_eq_false_iff_not, bne_iff_ne, bne_eq_false_iff_eq, beq_iff_eq, beq_eq_false_iff_ne, Bool.not_eq_true', Bool.not_eq_false', Bool.not_not, ne_eq, gt_iff_lt, ge_iff_le] at hc); (try (exfalso; omega)); (try exact absurd rfl hc)))
    | ((with_reducible apply S_ca); (· rfl); first | refine szShard_no (s := s.sh) ha hl hf hm ?_)
    | ((with_reducible apply S_cdt); · rfl)
    | ((with_reducible apply S_cdf); · rfl)
    | ((with_reducible apply S_cd); (· rfl); all_goals (intro hc; (try simp only [decide_eq_true_eq, decide_eq_false_iff_not, bne_iff_ne, bne_eq_false_iff_eq, beq_iff_eq, beq_eq_false_iff_ne, Bool.not_eq_true', Bool.not_eq_false', Bool.not_not, ne_eq, gt_iff_lt, ge_iff_le] at hc); (try (exfalso; omega)); (try exact absurd rfl hc)))
    | with_reducible apply S_rt
    | with_reducible apply S_bk
    | with_reducible apply S_sk
    | with_reducible apply S_xt
    | with_reducible apply S_q2
    | with_reducible apply S_q7
    | with_reducible apply S_q1
    | with_reducible apply S_q3
    | with_reducible apply S_q4
    | with_reducible apply S_q6
    | ((with_reducible apply S_q5); · rfl)
    | ((with_reducible apply S_fin); · rfl)
    | ((with_reducible apply S_fin'); · rfl)
  exact h

/-! copies -/
theorem toShard_c {s : Shard} {v : Value} (ha : RdS encA H v s.aggs) (h20 : s.aggs.length ≤ 1048576) (h : ∀ b, H.Fresh b → Q (vSh (sl b s.aggs.length) s) (H.set b (s.aggs.flatMap encA, 81))) : CallR Try.prog 48 [vSh v s] H Q := by
  refine callR_body Try.func48 t48 rfl ?_
  dsimp only [c48]
  repeat' first
    | ((with_reducible apply S_pv); · rfl)
    | ((with_reducible apply S_sv); · rfl)
    | with_reducible apply S_nil2
    | with_reducible apply S_nil
    | with_reducible apply S_sq
    | with_reducible apply S_rg
    | ((with_reducible apply S_nv); · rfl)
    | ((with_reducible apply S_gt); · rfl)
    | ((with_reducible apply S_gf); · rfl)
    | ((with_reducible apply S_gu); · rfl)
    | ((with_reducible apply S_gs); (· rfl); all_goals (intro hc; rw [hc]; (try simp only [decide_eq_true_eq, decide_eq_false_iff_not, bne_iff_ne, bne_eq_false_iff_eq, beq_iff_eq, beq_eq_false_iff_ne, Bool.not_eq_true', Bool.not_eq_false', Bool.not_not, ne_eq, gt_iff_lt, ge_iff_le] at hc); (try (exfalso; omega)); (try exact absurd rfl hc)))
    | ((with_reducible apply S_pks); (· rfl); all_goals (intro hc; rw [hc]; (try simp only [decide_eq_true_eq, decide_eq_false_iff_not, bne_iff_ne, bne_eq_false_iff_eq, beq_iff_eq, beq_eq_false_iff_ne, Bool.not_eq_true', Bool.not_eq_false', Bool.not_not, ne_eq, gt_iff_lt, ge_iff_le] at hc); (try (exfalso; omega)); (try exact absurd rfl hc)))
    | ((with_reducible apply S_ca); (· rfl); first | refine toAggS_c ha h20 (fun b hb => ?_))
    | ((with_reducible apply S_cdt); · rfl)
    | ((with_reducible apply S_cdf); · rfl)
    | ((with_reducible apply S_cd); (· rfl); all_goals (intro hc; (try simp only [decide_eq_true_eq, decide_eq_false_iff_not, bne_iff_ne, bne_eq_false_iff_eq, beq_iff_eq, beq_eq_false_iff_ne, Bool.not_eq_true', Bool.not_eq_false', Bool.not_not, ne_eq, gt_iff_lt, ge_iff_le] at hc); (try (exfalso; omega)); (try exact absurd rfl hc)))
    | with_reducible apply S_rt
    | with_reducible apply S_bk
    | with_reducible apply S_sk
    | with_reducible apply S_xt
    | with_reducible apply S_q2
    | with_reducible apply S_q7
    | with_reducible apply S_q1
    | with_reducible apply S_q3
    | with_reducible apply S_q4
    | with_reducible apply S_q6
    | ((with_reducible apply S_q5); · rfl)
    | ((with_reducible apply S_fin); · rfl)
    | ((with_reducible apply S_fin'); · rfl)
  exact h b hb
theorem toSave_c {s : Save} {v : Value} (ha : RdS encA H v s.sh.aggs) (h20 : s.sh.aggs.length ≤ 1048576) (h : ∀ b, H.Fresh b → Q (vSv (sl b s.sh.aggs.length) s) (H.set b (s.sh.aggs.flatMap encA, 81))) : CallR Try.prog 65 [vSv v s] H Q := by
  refine callR_body Try.func65 t65 rfl ?_
  dsimp only [c65]
  repeat' first
    | ((with_reducible apply S_pv); · rfl)
    | ((with_reducible apply S_sv); · rfl)
    | with_reducible apply S_nil2
    | with_reducible apply S_nil
    | with_reducible apply S_sq
    | with_reducible apply S_rg
    | ((with_reducible apply S_nv); · rfl)
    | ((with_reducible apply S_gt); · rfl)
    | ((with_reducible apply S_gf); · rfl)
    | ((with_reducible apply S_gu); · rfl)
    | ((with_reducible apply S_gs); (· rfl); all_goals (intro hc; rw [hc]; (try simp only [decide_eq_true_eq, decide_eq_false_iff_not, bne_iff_ne, bne_eq_false_iff_eq, beq_iff_eq, beq_eq_false_iff_ne, Bool.not_eq_true', Bool.not_eq_false', Bool.not_not, ne_eq, gt_iff_lt, ge_iff_le] at hc); (try (exfalso; omega)); (try exact absurd rfl hc)))
    | ((with_reducible apply S_pks); (· rfl); all_goals (intro hc; rw [hc]; (try simp only [decide_eq_true_eq, decide_eq_false_iff_not, bne_iff_ne, bne_eq_false_iff_eq, beq_iff_eq, beq_eq_false_iff_ne, Bool.not_eq_true', Bool.not_eq_false', Bool.not_not, ne_eq, gt_iff_lt, ge_iff_le] at hc); (try (exfalso; omega)); (try exact absurd rfl hc)))
    | ((with_reducible apply S_ca); (· rfl); first | refine toShard_c (s := s.sh) ha h20 (fun b hb => ?_))
    | ((with_reducible apply S_cdt); · rfl)
    | ((with_reducible apply S_cdf); · rfl)
    | ((with_reducible apply S_cd); (· rfl); all_goals (intro hc; (try simp only [decide_eq_true_eq, decide_eq_false_iff_not, bne_iff_ne, bne_eq_false_iff_eq, beq_iff_eq, beq_eq_false_iff_ne, Bool.not_eq_true', Bool.not_eq_false', Bool.not_not, ne_eq, gt_iff_lt, ge_iff_le] at hc); (try (exfalso; omega)); (try exact absurd rfl hc)))
    | with_reducible apply S_rt
    | with_reducible apply S_bk
    | with_reducible apply S_sk
    | with_reducible apply S_xt
    | with_reducible apply S_q2
    | with_reducible apply S_q7
    | with_reducible apply S_q1
    | with_reducible apply S_q3
    | with_reducible apply S_q4
    | with_reducible apply S_q6
    | ((with_reducible apply S_q5); · rfl)
    | ((with_reducible apply S_fin); · rfl)
    | ((with_reducible apply S_fin'); · rfl)
  exact h b hb

/-! alike -/
theorem eqShard_c {a b : Shard} {va' vb' : Value} (ha : RdS encA H va' a.aggs) (hb : RdS encA H vb' b.aggs) (h20 : a.aggs.length ≤ 1048576) (h : Q (vb (a == b)) H) : CallR Try.prog 50 [vSh va' a, vSh vb' b] H Q := by
  have key : ∀ c : Bool, c = decide (a = b) → Q (vb c) H := fun c e => by rw [e]; exact h
  obtain ⟨a1, a2, a3, a4⟩ := a; obtain ⟨b1, b2, b3, b4⟩ := b
  refine callR_body Try.func50 t50 rfl ?_
  dsimp only [c50]
  repeat' first
    | ((with_reducible apply S_pv); · rfl)
    | ((with_reducible apply S_sv); · rfl)
    | with_reducible apply S_nil2
    | with_reducible apply S_nil
    | with_reducible apply S_sq
    | with_reducible apply S_rg
    | ((with_reducible apply S_nv); · rfl)
    | ((with_reducible apply S_gt); · rfl)
    | ((with_reducible apply S_gf); · rfl)
    | ((with_reducible apply S_gu); · rfl)
    | ((with_reducible apply S_gs); (· rfl); all_goals (intro hc; rw [hc]; (try simp only [decide_eq_true_eq, decide_eq_false_iff_not, bne_iff_ne, bne_eq_false_iff_eq, beq_iff_eq, beq_eq_false_iff_ne, Bool.not_eq_true', Bool.not_eq_false', Bool.not_not, ne_eq, gt_iff_lt, ge_iff_le] at hc); (try (exfalso; omega)); (try exact absurd rfl hc)))
    | ((with_reducible apply S_pks); (· rfl); all_goals (intro hc; rw [hc]; (try simp only [decide_eq_true_eq, decide_eq_false_iff_not, bne_iff_ne, bne_eq_false_iff_eq, beq_iff_eq, beq_eq_false_iff_ne, Bool.not_eq_true', Bool.not_eq_false', Bool.not_not, ne_eq, gt_iff_lt, ge_iff_le] at hc); (try (exfalso; omega)); (try exact absurd rfl hc)))
    | ((with_reducible apply S_ca); (· rfl); first | refine eqAggS_c ha hb h20 ?_)
    | ((with_reducible apply S_cdt); · rfl)
    | ((with_reducible apply S_cdf); · rfl)
    | ((with_reducible apply S_cd); (· rfl); all_goals (intro hc; (try simp only [decide_eq_true_eq, decide_eq_false_iff_not, bne_iff_ne, bne_eq_false_iff_eq, beq_iff_eq, beq_eq_false_iff_ne, Bool.not_eq_true', Bool.not_eq_false', Bool.not_not, ne_eq, gt_iff_lt, ge_iff_le] at hc); (try (exfalso; omega)); (try exact absurd rfl hc)))
    | with_reducible apply S_rt
    | with_reducible apply S_bk
    | with_reducible apply S_sk
    | with_reducible apply S_xt
    | with_reducible apply S_q2
    | with_reducible apply S_q7
    | with_reducible apply S_q1
    | with_reducible apply S_q3
    | with_reducible apply S_q4
    | with_reducible apply S_q6
    | ((with_reducible apply S_q5); · rfl)
    | ((with_reducible apply S_fin); · rfl)
    | ((with_reducible apply S_fin'); · rfl)
  all_goals (apply key; simp_all)
theorem eqSave_c {a b : Save} {va' vb' : Value} (ha : RdS encA H va' a.sh.aggs) (hb : RdS encA H vb' b.sh.aggs) (h20 : a.sh.aggs.length ≤ 1048576) (h : Q (vb (a == b)) H) : CallR Try.prog 15 [vSv va' a, vSv vb' b] H Q := by
  have key : ∀ c : Bool, c = decide (a = b) → Q (vb c) H := fun c e => by rw [e]; exact h
  obtain ⟨a1, a2⟩ := a; obtain ⟨b1, b2⟩ := b
  refine callR_body Try.func15 t15 rfl ?_
  dsimp only [c15]
  repeat' first
    | ((with_reducible apply S_pv); · rfl)
    | ((with_reducible apply S_sv); · rfl)
    | with_reducible apply S_nil2
    | with_reducible apply S_nil
    | with_reducible apply S_sq
    | with_reducible apply S_rg
    | ((with_reducible apply S_nv); · rfl)
    | ((with_reducible apply S_gt); · rfl)
    | ((with_reducible apply S_gf); · rfl)
    | ((with_reducible apply S_gu); · rfl)
    | ((with_reducible apply S_gs); (· rfl); all_goals (intro hc; rw [hc]; (try simp only [decide_eq_true_eq, decide_eq_false_iff_not, bne_iff_ne, bne_eq_false_iff_eq, beq_iff_eq, beq_eq_false_iff_ne, Bool.not_eq_true', Bool.not_eq_false', Bool.not_not, ne_eq, gt_iff_lt, ge_iff_le] at hc); (try (exfalso; omega)); (try exact absurd rfl hc)))
    | ((with_reducible apply S_pks); (· rfl); all_goals (intro hc; rw [hc]; (try simp only [decide_eq_true_eq, decide_eq_false_iff_not, bne_iff_ne, bne_eq_false_iff_eq, beq_iff_eq, beq_eq_false_iff_ne, Bool.not_eq_true', Bool.not_eq_false', Bool.not_not, ne_eq, gt_iff_lt, ge_iff_le] at hc); (try (exfalso; omega)); (try exact absurd rfl hc)))
    | ((with_reducible apply S_ca); (· rfl); first | refine eqShard_c (a := a2) (b := b2) ha hb h20 ?_)
    | ((with_reducible apply S_cdt); · rfl)
    | ((with_reducible apply S_cdf); · rfl)
    | ((with_reducible apply S_cd); (· rfl); all_goals (intro hc; (try simp only [decide_eq_true_eq, decide_eq_false_iff_not, bne_iff_ne, bne_eq_false_iff_eq, beq_iff_eq, beq_eq_false_iff_ne, Bool.not_eq_true', Bool.not_eq_false', Bool.not_not, ne_eq, gt_iff_lt, ge_iff_le] at hc); (try (exfalso; omega)); (try exact absurd rfl hc)))
    | with_reducible apply S_rt
    | with_reducible apply S_bk
    | with_reducible apply S_sk
    | with_reducible apply S_xt
    | with_reducible apply S_q2
    | with_reducible apply S_q7
    | with_reducible apply S_q1
    | with_reducible apply S_q3
    | with_reducible apply S_q4
    | with_reducible apply S_q6
    | ((with_reducible apply S_q5); · rfl)
    | ((with_reducible apply S_fin); · rfl)
    | ((with_reducible apply S_fin'); · rfl)
  all_goals (apply key; simp_all)

/-! marks -/
theorem markShard_c {s : Shard} {v : Value} {n k : Nat} {cells : List Value} (ho : OwnS H 81 6 v n cells) (hn : n ≤ 1048576) (hk : k ≤ 1125899906842624)
    (h : ∀ H', OwnS H' 81 6 v n ((mks markA 6 k n).flatMap encA) → Msk (fun b => v.ownBlock = some b) H H' → Q (vi ((k + 6 * n : Nat) : Int)) H') : CallR Try.prog 52 [vSh v s, vi k] H Q := by
  refine callR_body Try.func52 t52 rfl ?_
  dsimp only [c52]
  repeat' first
    | ((with_reducible apply S_pv); · rfl)
    | ((with_reducible apply S_sv); · rfl)
    | with_reducible apply S_nil2
    | with_reducible apply S_nil
    | with_reducible apply S_sq
    | with_reducible apply S_rg
    | ((with_reducible apply S_nv); · rfl)
    | ((with_reducible apply S_gt); · rfl)
    | ((with_reducible apply S_gf); · rfl)
    | ((with_reducible apply S_gu); · rfl)
    | ((with_reducible apply S_gs); (· rfl); all_goals (intro hc; rw [hc]; (try simp only [decide_eq_true_eq, decide_eq_false_iff_not, bne_iff_ne, bne_eq_false_iff_eq, beq_iff_eq, beq_eq_false_iff_ne, Bool.not_eq_true', Bool.not_eq_false', Bool.not_not, ne_eq, gt_iff_lt, ge_iff_le] at hc); (try (exfalso; omega)); (try exact absurd rfl hc)))
    | ((with_reducible apply S_pks); (· rfl); all_goals (intro hc; rw [hc]; (try simp only [decide_eq_true_eq, decide_eq_false_iff_not, bne_iff_ne, bne_eq_false_iff_eq, beq_iff_eq, beq_eq_false_iff_ne, Bool.not_eq_true', Bool.not_eq_false', Bool.not_not, ne_eq, gt_iff_lt, ge_iff_le] at hc); (try (exfalso; omega)); (try exact absurd rfl hc)))
    | ((with_reducible apply S_ca); (· rfl); first | refine markAggS_c ho hn hk (fun H' h1 h2 => ?_))
    | ((with_reducible apply S_cdt); · rfl)
    | ((with_reducible apply S_cdf); · rfl)
    | ((with_reducible apply S_cd); (· rfl); all_goals (intro hc; (try simp only [decide_eq_true_eq, decide_eq_false_iff_not, bne_iff_ne, bne_eq_false_iff_eq, beq_iff_eq, beq_eq_false_iff_ne, Bool.not_eq_true', Bool.not_eq_false', Bool.not_not, ne_eq, gt_iff_lt, ge_iff_le] at hc); (try (exfalso; omega)); (try exact absurd rfl hc)))
    | with_reducible apply S_rt
    | with_reducible apply S_bk
    | with_reducible apply S_sk
    | with_reducible apply S_xt
    | with_reducible apply S_q2
    | with_reducible apply S_q7
    | with_reducible apply S_q1
    | with_reducible apply S_q3
    | with_reducible apply S_q4
    | with_reducible apply S_q6
    | ((with_reducible apply S_q5); · rfl)
    | ((with_reducible apply S_fin); · rfl)
    | ((with_reducible apply S_fin'); · rfl)
  exact h H' h1 h2
theorem markSave_c {s : Save} {v : Value} {n k : Nat} {cells : List Value} (ho : OwnS H 81 6 v n cells) (hn : n ≤ 1048576) (hk : k ≤ 1125899906842624)
    (h : ∀ H', OwnS H' 81 6 v n ((mks markA 6 k n).flatMap encA) → Msk (fun b => v.ownBlock = some b) H H' → Q (vi ((k + 6 * n : Nat) : Int)) H') : CallR Try.prog 18 [vSv v s, vi k] H Q := by
  refine callR_body Try.func18 t18 rfl ?_
  dsimp only [c18]
  repeat' first
    | ((with_reducible apply S_pv); · rfl)
    | ((with_reducible apply S_sv); · rfl)
    | with_reducible apply S_nil2
    | with_reducible apply S_nil
    | with_reducible apply S_sq
    | with_reducible apply S_rg
    | ((with_reducible apply S_nv); · rfl)
    | ((with_reducible apply S_gt); · rfl)
    | ((with_reducible apply S_gf); · rfl)
    | ((with_reducible apply S_gu); · rfl)
    | ((with_reducible apply S_gs); (· rfl); all_goals (intro hc; rw [hc]; (try simp only [decide_eq_true_eq, decide_eq_false_iff_not, bne_iff_ne, bne_eq_false_iff_eq, beq_iff_eq, beq_eq_false_iff_ne, Bool.not_eq_true', Bool.not_eq_false', Bool.not_not, ne_eq, gt_iff_lt, ge_iff_le] at hc); (try (exfalso; omega)); (try exact absurd rfl hc)))
    | ((with_reducible apply S_pks); (· rfl); all_goals (intro hc; rw [hc]; (try simp only [decide_eq_true_eq, decide_eq_false_iff_not, bne_iff_ne, bne_eq_false_iff_eq, beq_iff_eq, beq_eq_false_iff_ne, Bool.not_eq_true', Bool.not_eq_false', Bool.not_not, ne_eq, gt_iff_lt, ge_iff_le] at hc); (try (exfalso; omega)); (try exact absurd rfl hc)))
    | ((with_reducible apply S_ca); (· rfl); first | refine markShard_c (s := s.sh) ho hn hk (fun H' h1 h2 => ?_))
    | ((with_reducible apply S_cdt); · rfl)
    | ((with_reducible apply S_cdf); · rfl)
    | ((with_reducible apply S_cd); (· rfl); all_goals (intro hc; (try simp only [decide_eq_true_eq, decide_eq_false_iff_not, bne_iff_ne, bne_eq_false_iff_eq, beq_iff_eq, beq_eq_false_iff_ne, Bool.not_eq_true', Bool.not_eq_false', Bool.not_not, ne_eq, gt_iff_lt, ge_iff_le] at hc); (try (exfalso; omega)); (try exact absurd rfl hc)))
    | with_reducible apply S_rt
    | with_reducible apply S_bk
    | with_reducible apply S_sk
    | with_reducible apply S_xt
    | with_reducible apply S_q2
    | with_reducible apply S_q7
    | with_reducible apply S_q1
    | with_reducible apply S_q3
    | with_reducible apply S_q4
    | with_reducible apply S_q6
    | ((with_reducible apply S_q5); · rfl)
    | ((with_reducible apply S_fin); · rfl)
    | ((with_reducible apply S_fin'); · rfl)
  exact h H' h1 h2
theorem heldShard_c {s : Shard} {v : Value} {n k : Nat} (ho : RdS encA H v (mks markA 6 k n)) (hn : n ≤ 1048576) (hk : k ≤ 1125899906842624) (h : Q (vi ((k + 6 * n : Nat) : Int)) H) : CallR Try.prog 54 [vSh v s, vi k] H Q := by
  refine callR_body Try.func54 t54 rfl ?_
  dsimp only [c54]
  repeat' first
    | ((with_reducible apply S_pv); · rfl)
    | ((with_reducible apply S_sv); · rfl)
    | with_reducible apply S_nil2
    | with_reducible apply S_nil
    | with_reducible apply S_sq
    | with_reducible apply S_rg
    | ((with_reducible apply S_nv); · rfl)
    | ((with_reducible apply S_gt); · rfl)
    | ((with_reducible apply S_gf); · rfl)
    | ((with_reducible apply S_gu); · rfl)
    | ((with_reducible apply S_gs); (· rfl); all_goals (intro hc; rw [hc]; (try simp only [decide_eq_true_eq, decide_eq_false_iff_not, bne_iff_ne, bne_eq_false_iff_eq, beq_iff_eq, beq_eq_false_iff_ne, Bool.not_eq_true', Bool.not_eq_false', Bool.not_not, ne_eq, gt_iff_lt, ge_iff_le] at hc); (try (exfalso; omega)); (try exact absurd rfl hc)))
    | ((with_reducible apply S_pks); (· rfl); all_goals (intro hc; rw [hc]; (try simp only [decide_eq_true_eq, decide_eq_false_iff_not, bne_iff_ne, bne_eq_false_iff_eq, beq_iff_eq, beq_eq_false_iff_ne, Bool.not_eq_true', Bool.not_eq_false', Bool.not_not, ne_eq, gt_iff_lt, ge_iff_le] at hc); (try (exfalso; omega)); (try exact absurd rfl hc)))
    | ((with_reducible apply S_ca); (· rfl); first | refine heldAggS_c ho hn hk ?_)
    | ((with_reducible apply S_cdt); · rfl)
    | ((with_reducible apply S_cdf); · rfl)
    | ((with_reducible apply S_cd); (· rfl); all_goals (intro hc; (try simp only [decide_eq_true_eq, decide_eq_false_iff_not, bne_iff_ne, bne_eq_false_iff_eq, beq_iff_eq, beq_eq_false_iff_ne, Bool.not_eq_true', Bool.not_eq_false', Bool.not_not, ne_eq, gt_iff_lt, ge_iff_le] at hc); (try (exfalso; omega)); (try exact absurd rfl hc)))
    | with_reducible apply S_rt
    | with_reducible apply S_bk
    | with_reducible apply S_sk
    | with_reducible apply S_xt
    | with_reducible apply S_q2
    | with_reducible apply S_q7
    | with_reducible apply S_q1
    | with_reducible apply S_q3
    | with_reducible apply S_q4
    | with_reducible apply S_q6
    | ((with_reducible apply S_q5); · rfl)
    | ((with_reducible apply S_fin); · rfl)
    | ((with_reducible apply S_fin'); · rfl)
  exact h
theorem heldSave_c {s : Save} {v : Value} {n k : Nat} (ho : RdS encA H v (mks markA 6 k n)) (hn : n ≤ 1048576) (hk : k ≤ 1125899906842624) (h : Q (vi ((k + 6 * n : Nat) : Int)) H) : CallR Try.prog 19 [vSv v s, vi k] H Q := by
  refine callR_body Try.func19 t19 rfl ?_
  dsimp only [c19]
  repeat' first
    | ((with_reducible apply S_pv); · rfl)
    | ((with_reducible apply S_sv); · rfl)
    | with_reducible apply S_nil2
    | with_reducible apply S_nil
    | with_reducible apply S_sq
    | with_reducible apply S_rg
    | ((with_reducible apply S_nv); · rfl)
    | ((with_reducible apply S_gt); · rfl)
    | ((with_reducible apply S_gf); · rfl)
    | ((with_reducible apply S_gu); · rfl)
    | ((with_reducible apply S_gs); (· rfl); all_goals (intro hc; rw [hc]; (try simp only [decide_eq_true_eq, decide_eq_false_iff_not, bne_iff_ne, bne_eq_false_iff_eq, beq_iff_eq, beq_eq_false_iff_ne, Bool.not_eq_true', Bool.not_eq_false', Bool.not_not, ne_eq, gt_iff_lt, ge_iff_le] at hc); (try (exfalso; omega)); (try exact absurd rfl hc)))
    | ((with_reducible apply S_pks); (· rfl); all_goals (intro hc; rw [hc]; (try simp only [decide_eq_true_eq, decide_eq_false_iff_not, bne_iff_ne, bne_eq_false_iff_eq, beq_iff_eq, beq_eq_false_iff_ne, Bool.not_eq_true', Bool.not_eq_false', Bool.not_not, ne_eq, gt_iff_lt, ge_iff_le] at hc); (try (exfalso; omega)); (try exact absurd rfl hc)))
    | ((with_reducible apply S_ca); (· rfl); first | refine heldShard_c (s := s.sh) ho hn hk ?_)
    | ((with_reducible apply S_cdt); · rfl)
    | ((with_reducible apply S_cdf); · rfl)
    | ((with_reducible apply S_cd); (· rfl); all_goals (intro hc; (try simp only [decide_eq_true_eq, decide_eq_false_iff_not, bne_iff_ne, bne_eq_false_iff_eq, beq_iff_eq, beq_eq_false_iff_ne, Bool.not_eq_true', Bool.not_eq_false', Bool.not_not, ne_eq, gt_iff_lt, ge_iff_le] at hc); (try (exfalso; omega)); (try exact absurd rfl hc)))
    | with_reducible apply S_rt
    | with_reducible apply S_bk
    | with_reducible apply S_sk
    | with_reducible apply S_xt
    | with_reducible apply S_q2
    | with_reducible apply S_q7
    | with_reducible apply S_q1
    | with_reducible apply S_q3
    | with_reducible apply S_q4
    | with_reducible apply S_q6
    | ((with_reducible apply S_q5); · rfl)
    | ((with_reducible apply S_fin); · rfl)
    | ((with_reducible apply S_fin'); · rfl)
  exact h
end Go.Proofs.Ytbmoifddenagiaa.C
open Go Go.HL Go.Proofs
namespace Go.Proofs.Ytbmoifddenagiaa.C
set_option linter.unusedVariables false
set_option maxRecDepth 100000
set_option linter.unusedSimpArgs false
variable {H : Hp} {Q : Value → Hp → Prop}
def RSv (H : Hp) (s : Save) (cs : List Value) : Prop := ∃ v, cs = encSv v s ∧ RdS encA H v s.sh.aggs ∧ s.sh.aggs.length ≤ 9223372036854775807
theorem RSv.len {H : Hp} {s : Save} {cs : List Value} (h : RSv H s cs) : cs.length = 5 := by obtain ⟨v, rfl, _⟩ := h; rfl
theorem RSv.le {H H' : Hp} {s : Save} {cs : List Value} (h : H.le H') (k : RSv H s cs) : RSv H' s cs := by obtain ⟨v, e, k, m⟩ := k; exact ⟨v, e, k.le h, m⟩
def lenSv (s : Save) : Nat := s.sh.aggs.length
def szSv (l : List Save) : Nat := l.length + sumL lenSv l

theorem szSaveS_c {l : List Save} {v : Value} (ha : RdG RSv H v l) (hm : l.length ≤ 9223372036854775807) (h1 : szSv l ≤ 1048576 → Q (vi ((1048576 - szSv l : Nat) : Int)) H) (h2 : ¬ szSv l ≤ 1048576 → Q (vi (-1)) H) : CallR Try.prog 20 [v, vi ((1048576 : Nat) : Int)] H Q := by
  obtain ⟨A, ca, css, rfl, hl, hel, hA⟩ := ha
  refine callR_body Try.func20 t20 rfl ?_
  have hw : IntKind.i64.wrap (((1048576 : Nat) : Int) - (l.length : Int)) = ((1048576 : Nat) : Int) - (l.length : Int) := wrap_i (by omega) (by omega)
  dsimp only [c20]
  repeat' first
    | ((with_reducible apply S_pv); · rfl)
    | ((with_reducible apply S_sv); · rfl)
    | with_reducible apply S_nil2
    | with_reducible apply S_nil
    | with_reducible apply S_sq
    | with_reducible apply S_rg
    | ((with_reducible apply S_nv); · rfl)
    | ((with_reducible apply S_gt); · rfl)
    | ((with_reducible apply S_gf); · rfl)
    | ((with_reducible apply S_gu); · rfl)
    | ((with_reducible apply S_gs); (· rfl); all_goals (intro hc; rw [hc]; (try simp only [decide_eq_true_eq, decide_eq_false_iff_not, bne_iff_ne, bne_eq_false_iff_eq, beq_iff_eq, beq_eq_false_iff_ne, Bool.not_eq_true', Bool.not_eq_false', Bool.not_not, ne_eq, gt_iff_lt, ge_iff_le] at hc); (try (exfalso; omega)); (try exact absurd rfl hc)))
    | ((with_reducible apply S_pks); (· rfl); all_goals (intro hc; rw [hc]; (try simp only [decide_eq_true_eq, decide_eq_false_iff_not, bne_iff_ne, bne_eq_false_iff_eq, beq_iff_eq, beq_eq_false_iff_ne, Bool.not_eq_true', Bool.not_eq_false', Bool.not_not, ne_eq, gt_iff_lt, ge_iff_le] at hc); (try (exfalso; omega)); (try exact absurd rfl hc)))
    | ((with_reducible apply S_cdt); · rfl)
    | ((with_reducible apply S_cdf); · rfl)
    | ((with_reducible apply S_cd); (· rfl); all_goals (intro hc; (try simp only [decide_eq_true_eq, decide_eq_false_iff_not, bne_iff_ne, bne_eq_false_iff_eq, beq_iff_eq, beq_eq_false_iff_ne, Bool.not_eq_true', Bool.not_eq_false', Bool.not_not, ne_eq, gt_iff_lt, ge_iff_le] at hc); (try (exfalso; omega)); (try exact absurd rfl hc)))
    | with_reducible apply S_rt
    | with_reducible apply S_bk
    | with_reducible apply S_sk
    | with_reducible apply S_xt
    | with_reducible apply S_q2
    | with_reducible apply S_q7
    | with_reducible apply S_q1
    | with_reducible apply S_q3
    | with_reducible apply S_q4
    | with_reducible apply S_q6
    | ((with_reducible apply S_q5); · rfl)
    | ((with_reducible apply S_fin); · rfl)
    | ((with_reducible apply S_fin'); · rfl)
  · exact h2 (by unfold szSv; omega)
  · rw [hw] at *
    have hfit : l.length ≤ 1048576 := by omega
    refine S_lpE (fun i : Nat => [(0, .v (.slice A l.length ca)), (1, .v (vi ((1048576 - (l.length + sumL lenSv (l.take i)) : Nat) : Int))), (5, .v (vi i))]) (fun _ => []) (fun i H' => H' = H ∧ i ≤ l.length ∧ l.length + sumL lenSv (l.take i) ≤ 1048576) (fun i => l.length - i) 0 (EL_r rfl (EL_r ?_ (EL_r rfl EL_nil))) ⟨rfl, by omega, by simp [sumL_nil]; omega⟩ ?_
    · have : ((1048576 - (l.length + sumL lenSv (l.take 0)) : Nat) : Int) = ((1048576 : Nat) : Int) - (l.length : Int) := by simp [sumL_nil]; omega
      rw [this]; rfl
    rintro i H' ⟨rfl, hi, hs⟩
    rcases Nat.lt_or_ge i l.length with hlt | hge
    · obtain ⟨x, hx⟩ := get_lt hlt
      obtain ⟨ad, cs, rfl, ⟨v', rfl, hr', hm'⟩, hr⟩ := RdG.get (fun h => h.len) (by decide) hl hel hA hx
      have ht := sumL_take (f := lenSv) hx
      have hle := sumL_le lenSv l (i + 1)
      by_cases hf : x.sh.aggs.length ≤ 1048576 - (l.length + sumL lenSv (l.take i))
      · skip
        repeat' first
          | ((with_reducible apply S_ia); (· rfl); (· rfl); (· omega))
          | ((with_reducible apply S_inc); (· rfl); (· omega))
          | ((with_reducible apply S_ld (vs := encSv v' x) (v := vSv v' x)); (· rfl); (· rfl); (· exact hr); (· rfl))
          | ((with_reducible apply S_pv); · rfl)
          | ((with_reducible apply S_sv); · rfl)
          | with_reducible apply S_nil2
          | with_reducible apply S_nil
          | with_reducible apply S_sq
          | with_reducible apply S_rg
          | ((with_reducible apply S_nv); · rfl)
          | ((with_reducible apply S_gt); · rfl)
          | ((with_reducible apply S_gf); · rfl)
          | ((with_reducible apply S_gu); · rfl)
          | ((with_reducible apply S_gs); (· rfl); all_goals (intro hc; rw [hc]; (try simp only [decide_eq_true_eq, decide_eq_false_iff_not, bne_iff_ne, bne_eq_false_iff_eq, beq_iff_eq, beq_eq_false_iff_ne, Bool.not_eq_true', Bool.not_eq_false', Bool.not_not, ne_eq, gt_iff_lt, ge_iff_le] at hc); (try (exfalso; omega)); (try exact absurd rfl hc)))
          | ((with_reducible apply S_pks); (· rfl); all_goals (intro hc; rw [hc]; (try simp only [decide_eq_true_eq, decide_eq_false_iff_not, bne_iff_ne, bne_eq_false_iff_eq, beq_iff_eq, beq_eq_false_iff_ne, Bool.not_eq_true', Bool.not_eq_false', Bool.not_not, ne_eq, gt_iff_lt, ge_iff_le] at hc); (try (exfalso; omega)); (try exact absurd rfl hc)))
          | ((with_reducible apply S_ca); (· rfl); first | refine szSave_ok hr' (by omega) hf ?_)
          | ((with_reducible apply S_cdt); · rfl)
          | ((with_reducible apply S_cdf); · rfl)
          | ((with_reducible apply S_cd); (· rfl); all_goals (intro hc; (try simp only [decide_eq_true_eq, decide_eq_false_iff_not, bne_iff_ne, bne_eq_false_iff_eq, beq_iff_eq, beq_eq_false_iff_ne, Bool.not_eq_true', Bool.not_eq_false', Bool.not_not, ne_eq, gt_iff_lt, ge_iff_le] at hc); (try (exfalso; omega)); (try exact absurd rfl hc)))
          | with_reducible apply S_rt
          | with_reducible apply S_bk
          | with_reducible apply S_sk
          | with_reducible apply S_xt
          | with_reducible apply S_q2
          | with_reducible apply S_q7
          | with_reducible apply S_q1
          | with_reducible apply S_q3
          | with_reducible apply S_q4
          | with_reducible apply S_q6
          | ((with_reducible apply S_q5); · rfl)
          | ((with_reducible apply S_fin); · rfl)
          | ((with_reducible apply S_fin'); · rfl)
        refine ⟨i + 1, by dsimp only; omega, EL_r rfl (EL_r ?_ (EL_r rfl EL_nil)), rfl, hlt, ?_⟩
        · rw [show 1048576 - (l.length + sumL lenSv (l.take (i + 1))) = 1048576 - (l.length + sumL lenSv (l.take i)) - x.sh.aggs.length by rw [ht]; unfold lenSv; omega]; rfl
        · rw [ht]; unfold lenSv at *; omega
      · skip
        repeat' first
          | ((with_reducible apply S_ia); (· rfl); (· rfl); (· omega))
          | ((with_reducible apply S_ld (vs := encSv v' x) (v := vSv v' x)); (· rfl); (· rfl); (· exact hr); (· rfl))
          | ((with_reducible apply S_pv); · rfl)
          | ((with_reducible apply S_sv); · rfl)
          | with_reducible apply S_nil2
          | with_reducible apply S_nil
          | with_reducible apply S_sq
          | with_reducible apply S_rg
          | ((with_reducible apply S_nv); · rfl)
          | ((with_reducible apply S_gt); · rfl)
          | ((with_reducible apply S_gf); · rfl)
          | ((with_reducible apply S_gu); · rfl)
          | ((with_reducible apply S_gs); (· rfl); all_goals (intro hc; rw [hc]; (try simp only [decide_eq_true_eq, decide_eq_false_iff_not, bne_iff_ne, bne_eq_false_iff_eq, beq_iff_eq, beq_eq_false_iff_ne, Bool.not_eq_true', Bool.not_eq_false', Bool.not_not, ne_eq, gt_iff_lt, ge_iff_le] at hc); (try (exfalso; omega)); (try exact absurd rfl hc)))
          | ((with_reducible apply S_pks); (· rfl); all_goals (intro hc; rw [hc]; (try simp only [decide_eq_true_eq, decide_eq_false_iff_not, bne_iff_ne, bne_eq_false_iff_eq, beq_iff_eq, beq_eq_false_iff_ne, Bool.not_eq_true', Bool.not_eq_false', Bool.not_not, ne_eq, gt_iff_lt, ge_iff_le] at hc); (try (exfalso; omega)); (try exact absurd rfl hc)))
          | ((with_reducible apply S_ca); (· rfl); first | refine szSave_no hr' (by omega) hf hm' ?_)
          | ((with_reducible apply S_cdt); · rfl)
          | ((with_reducible apply S_cdf); · rfl)
          | ((with_reducible apply S_cd); (· rfl); all_goals (intro hc; (try simp only [decide_eq_true_eq, decide_eq_false_iff_not, bne_iff_ne, bne_eq_false_iff_eq, beq_iff_eq, beq_eq_false_iff_ne, Bool.not_eq_true', Bool.not_eq_false', Bool.not_not, ne_eq, gt_iff_lt, ge_iff_le] at hc); (try (exfalso; omega)); (try exact absurd rfl hc)))
          | with_reducible apply S_rt
          | with_reducible apply S_bk
          | with_reducible apply S_sk
          | with_reducible apply S_xt
          | with_reducible apply S_q2
          | with_reducible apply S_q7
          | with_reducible apply S_q1
          | with_reducible apply S_q3
          | with_reducible apply S_q4
          | with_reducible apply S_q6
          | ((with_reducible apply S_q5); · rfl)
          | ((with_reducible apply S_fin); · rfl)
          | ((with_reducible apply S_fin'); · rfl)
        refine h2 ?_
        unfold szSv lenSv at *
        omega
    · skip
      repeat' first
        | ((with_reducible apply S_pv); · rfl)
        | ((with_reducible apply S_sv); · rfl)
        | with_reducible apply S_nil2
        | with_reducible apply S_nil
        | with_reducible apply S_sq
        | with_reducible apply S_rg
        | ((with_reducible apply S_nv); · rfl)
        | ((with_reducible apply S_gt); · rfl)
        | ((with_reducible apply S_gf); · rfl)
        | ((with_reducible apply S_gu); · rfl)
        | ((with_reducible apply S_gs); (· rfl); all_goals (intro hc; rw [hc]; (try simp only [decide_eq_true_eq, decide_eq_false_iff_not, bne_iff_ne, bne_eq_false_iff_eq, beq_iff_eq, beq_eq_false_iff_ne, Bool.not_eq_true', Bool.not_eq_false', Bool.not_not, ne_eq, gt_iff_lt, ge_iff_le] at hc); (try (exfalso; omega)); (try exact absurd rfl hc)))
        | ((with_reducible apply S_pks); (· rfl); all_goals (intro hc; rw [hc]; (try simp only [decide_eq_true_eq, decide_eq_false_iff_not, bne_iff_ne, bne_eq_false_iff_eq, beq_iff_eq, beq_eq_false_iff_ne, Bool.not_eq_true', Bool.not_eq_false', Bool.not_not, ne_eq, gt_iff_lt, ge_iff_le] at hc); (try (exfalso; omega)); (try exact absurd rfl hc)))
        | ((with_reducible apply S_cdt); · rfl)
        | ((with_reducible apply S_cdf); · rfl)
        | ((with_reducible apply S_cd); (· rfl); all_goals (intro hc; (try simp only [decide_eq_true_eq, decide_eq_false_iff_not, bne_iff_ne, bne_eq_false_iff_eq, beq_iff_eq, beq_eq_false_iff_ne, Bool.not_eq_true', Bool.not_eq_false', Bool.not_not, ne_eq, gt_iff_lt, ge_iff_le] at hc); (try (exfalso; omega)); (try exact absurd rfl hc)))
        | with_reducible apply S_rt
        | with_reducible apply S_bk
        | with_reducible apply S_sk
        | with_reducible apply S_xt
        | with_reducible apply S_q2
        | with_reducible apply S_q7
        | with_reducible apply S_q1
        | with_reducible apply S_q3
        | with_reducible apply S_q4
        | with_reducible apply S_q6
        | ((with_reducible apply S_q5); · rfl)
        | ((with_reducible apply S_fin); · rfl)
        | ((with_reducible apply S_fin'); · rfl)
      rw [List.take_of_length_le hge] at *
      exact h1 hs
theorem eqSaveS_c {la lb : List Save} {va' vb' : Value} (ha : RdG RSv H va' la) (hb : RdG RSv H vb' lb) (h20 : szSv la ≤ 1048576) (h : Q (vb (la == lb)) H) : CallR Try.prog 24 [va', vb'] H Q := by
  obtain ⟨A, ca, csa, rfl, hla, hela, hA⟩ := ha
  obtain ⟨B, cb, csb, rfl, hlb, helb, hB⟩ := hb
  have h20' : la.length ≤ 1048576 := by unfold szSv at h20; omega
  refine callR_body Try.func24 t24 rfl ?_
  dsimp only [c24]
  repeat' first
    | ((with_reducible apply S_pv); · rfl)
    | ((with_reducible apply S_sv); · rfl)
    | with_reducible apply S_nil2
    | with_reducible apply S_nil
    | with_reducible apply S_sq
    | with_reducible apply S_rg
    | ((with_reducible apply S_nv); · rfl)
    | ((with_reducible apply S_gt); · rfl)
    | ((with_reducible apply S_gf); · rfl)
    | ((with_reducible apply S_gu); · rfl)
    | ((with_reducible apply S_gs); (· rfl); all_goals (intro hc; rw [hc]; (try simp only [decide_eq_true_eq, decide_eq_false_iff_not, bne_iff_ne, bne_eq_false_iff_eq, beq_iff_eq, beq_eq_false_iff_ne, Bool.not_eq_true', Bool.not_eq_false', Bool.not_not, ne_eq, gt_iff_lt, ge_iff_le] at hc); (try (exfalso; omega)); (try exact absurd rfl hc)))
    | ((with_reducible apply S_pks); (· rfl); all_goals (intro hc; rw [hc]; (try simp only [decide_eq_true_eq, decide_eq_false_iff_not, bne_iff_ne, bne_eq_false_iff_eq, beq_iff_eq, beq_eq_false_iff_ne, Bool.not_eq_true', Bool.not_eq_false', Bool.not_not, ne_eq, gt_iff_lt, ge_iff_le] at hc); (try (exfalso; omega)); (try exact absurd rfl hc)))
    | ((with_reducible apply S_cdt); · rfl)
    | ((with_reducible apply S_cdf); · rfl)
    | ((with_reducible apply S_cd); (· rfl); all_goals (intro hc; (try simp only [decide_eq_true_eq, decide_eq_false_iff_not, bne_iff_ne, bne_eq_false_iff_eq, beq_iff_eq, beq_eq_false_iff_ne, Bool.not_eq_true', Bool.not_eq_false', Bool.not_not, ne_eq, gt_iff_lt, ge_iff_le] at hc); (try (exfalso; omega)); (try exact absurd rfl hc)))
    | with_reducible apply S_rt
    | with_reducible apply S_bk
    | with_reducible apply S_sk
    | with_reducible apply S_xt
    | with_reducible apply S_q2
    | with_reducible apply S_q7
    | with_reducible apply S_q1
    | with_reducible apply S_q3
    | with_reducible apply S_q4
    | with_reducible apply S_q6
    | ((with_reducible apply S_q5); · rfl)
    | ((with_reducible apply S_fin); · rfl)
    | ((with_reducible apply S_fin'); · rfl)
  · rw [beq_len (by omega)] at h; exact h
  · have hl : la.length = lb.length := by omega
    refine S_lpE (fun i : Nat => [(0, .v (.slice A la.length ca)), (1, .v (.slice B lb.length cb)), (5, .v (vi i))]) (fun _ => []) (fun i H' => H' = H ∧ i ≤ la.length ∧ la.take i = lb.take i) (fun i => la.length - i) 0 (EL_r rfl (EL_r rfl (EL_r rfl EL_nil))) ⟨rfl, by omega, by simp⟩ ?_
    rintro i H' ⟨rfl, hi, ht⟩
    rcases Nat.lt_or_ge i la.length with hlt | hge
    · obtain ⟨x, hx⟩ := get_lt hlt
      obtain ⟨y, hy⟩ := get_lt (l := lb) (i := i) (by omega)
      obtain ⟨ad, cs, rfl, ⟨vx, rfl, rx, mx⟩, hr⟩ := RdG.get (fun h => h.len) (by decide) hla hela hA hx
      obtain ⟨ad', cs', rfl, ⟨vy, rfl, ry, my⟩, hr'⟩ := RdG.get (fun h => h.len) (by decide) hlb helb hB hy
      have hx20 : x.sh.aggs.length ≤ 1048576 := by
        have e1 := sumL_take (f := lenSv) hx
        have e2 := sumL_le lenSv la (i + 1)
        unfold szSv lenSv at *; omega
      repeat' first
        | ((with_reducible apply S_ia); (· rfl); (· rfl); (· omega))
        | ((with_reducible apply S_inc); (· rfl); (· omega))
        | ((with_reducible apply S_ld (vs := encSv vx x) (v := vSv vx x)); (· rfl); (· rfl); (· exact hr); (· rfl))
        | ((with_reducible apply S_ld (vs := encSv vy y) (v := vSv vy y)); (· rfl); (· rfl); (· exact hr'); (· rfl))
        | ((with_reducible apply S_pv); · rfl)
        | ((with_reducible apply S_sv); · rfl)
        | with_reducible apply S_nil2
        | with_reducible apply S_nil
        | with_reducible apply S_sq
        | with_reducible apply S_rg
        | ((with_reducible apply S_nv); · rfl)
        | ((with_reducible apply S_gt); · rfl)
        | ((with_reducible apply S_gf); · rfl)
        | ((with_reducible apply S_gu); · rfl)
        | ((with_reducible apply S_gs); (· rfl); all_goals (intro hc; rw [hc]; (try simp only [decide_eq_true_eq, decide_eq_false_iff_not, bne_iff_ne, bne_eq_false_iff_eq, beq_iff_eq, beq_eq_false_iff_ne, Bool.not_eq_true', Bool.not_eq_false', Bool.not_not, ne_eq, gt_iff_lt, ge_iff_le] at hc); (try (exfalso; omega)); (try exact absurd rfl hc)))
        | ((with_reducible apply S_pks); (· rfl); all_goals (intro hc; rw [hc]; (try simp only [decide_eq_true_eq, decide_eq_false_iff_not, bne_iff_ne, bne_eq_false_iff_eq, beq_iff_eq, beq_eq_false_iff_ne, Bool.not_eq_true', Bool.not_eq_false', Bool.not_not, ne_eq, gt_iff_lt, ge_iff_le] at hc); (try (exfalso; omega)); (try exact absurd rfl hc)))
        | ((with_reducible apply S_ca); (· rfl); first | refine eqSave_c rx ry hx20 ?_)
        | ((with_reducible apply S_cdt); · rfl)
        | ((with_reducible apply S_cdf); · rfl)
        | ((with_reducible apply S_cd); (· rfl); all_goals (intro hc; (try simp only [decide_eq_true_eq, decide_eq_false_iff_not, bne_iff_ne, bne_eq_false_iff_eq, beq_iff_eq, beq_eq_false_iff_ne, Bool.not_eq_true', Bool.not_eq_false', Bool.not_not, ne_eq, gt_iff_lt, ge_iff_le] at hc); (try (exfalso; omega)); (try exact absurd rfl hc)))
        | with_reducible apply S_rt
        | with_reducible apply S_bk
        | with_reducible apply S_sk
        | with_reducible apply S_xt
        | with_reducible apply S_q2
        | with_reducible apply S_q7
        | with_reducible apply S_q1
        | with_reducible apply S_q3
        | with_reducible apply S_q4
        | with_reducible apply S_q6
        | ((with_reducible apply S_q5); · rfl)
        | ((with_reducible apply S_fin); · rfl)
        | ((with_reducible apply S_fin'); · rfl)
      · rw [beq_ne hx hy hc] at h; exact h
      · exact ⟨i + 1, by dsimp only; omega, EL_r rfl (EL_r rfl (EL_r rfl EL_nil)), rfl, hlt, beq_take hl hx hy ht hc⟩
    · skip
      repeat' first
        | ((with_reducible apply S_pv); · rfl)
        | ((with_reducible apply S_sv); · rfl)
        | with_reducible apply S_nil2
        | with_reducible apply S_nil
        | with_reducible apply S_sq
        | with_reducible apply S_rg
        | ((with_reducible apply S_nv); · rfl)
        | ((with_reducible apply S_gt); · rfl)
        | ((with_reducible apply S_gf); · rfl)
        | ((with_reducible apply S_gu); · rfl)
        | ((with_reducible apply S_gs); (· rfl); all_goals (intro hc; rw [hc]; (try simp only [decide_eq_true_eq, decide_eq_false_iff_not, bne_iff_ne, bne_eq_false_iff_eq, beq_iff_eq, beq_eq_false_iff_ne, Bool.not_eq_true', Bool.not_eq_false', Bool.not_not, ne_eq, gt_iff_lt, ge_iff_le] at hc); (try (exfalso; omega)); (try exact absurd rfl hc)))
        | ((with_reducible apply S_pks); (· rfl); all_goals (intro hc; rw [hc]; (try simp only [decide_eq_true_eq, decide_eq_false_iff_not, bne_iff_ne, bne_eq_false_iff_eq, beq_iff_eq, beq_eq_false_iff_ne, Bool.not_eq_true', Bool.not_eq_false', Bool.not_not, ne_eq, gt_iff_lt, ge_iff_le] at hc); (try (exfalso; omega)); (try exact absurd rfl hc)))
        | ((with_reducible apply S_cdt); · rfl)
        | ((with_reducible apply S_cdf); · rfl)
        | ((with_reducible apply S_cd); (· rfl); all_goals (intro hc; (try simp only [decide_eq_true_eq, decide_eq_false_iff_not, bne_iff_ne, bne_eq_false_iff_eq, beq_iff_eq, beq_eq_false_iff_ne, Bool.not_eq_true', Bool.not_eq_false', Bool.not_not, ne_eq, gt_iff_lt, ge_iff_le] at hc); (try (exfalso; omega)); (try exact absurd rfl hc)))
        | with_reducible apply S_rt
        | with_reducible apply S_bk
        | with_reducible apply S_sk
        | with_reducible apply S_xt
        | with_reducible apply S_q2
        | with_reducible apply S_q7
        | with_reducible apply S_q1
        | with_reducible apply S_q3
        | with_reducible apply S_q4
        | with_reducible apply S_q6
        | ((with_reducible apply S_q5); · rfl)
        | ((with_reducible apply S_fin); · rfl)
        | ((with_reducible apply S_fin'); · rfl)
      · rw [beq_take_all hl hge ht] at h; exact h
end Go.Proofs.Ytbmoifddenagiaa.C
