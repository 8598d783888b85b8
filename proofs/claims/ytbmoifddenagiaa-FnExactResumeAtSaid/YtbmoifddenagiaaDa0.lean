/- Part 0 of a proof: a logic of walks over a heap, contracts of the given functions, and the law walked.  -/
import Derived.Below
import Derived.Orders
import Derived.Tactics
import Derived.Maps.AppendAt
import Derived.Laws.AppendOwn
import Derived.Laws.Rows
import Derived.Laws.CopyRow
import Derived.Laws.MakeOwn
import Derived.Laws.Cells
import Derived.Laws.StructEq
import Derived.Laws.Append
namespace Go.HL
open Go Go.RowKit
set_option linter.unusedVariables false
set_option linter.unusedSimpArgs false

def upd {α : Type} (f : Nat → Option α) (k : Nat) (v : Option α) : Nat → Option α := fun i => if i = k then v else f i
theorem upd_eq {α : Type} (f : Nat → Option α) (k : Nat) (v : Option α) : upd f k v k = v := by simp [upd]
theorem upd_ne {α : Type} (f : Nat → Option α) {k i : Nat} (v : Option α) (h : i ≠ k) : upd f k v i = f i := by simp [upd, h]
theorem upd_comm {α : Type} (f : Nat → Option α) {k j : Nat} (v u : Option α) (h : k ≠ j) : upd (upd f k v) j u = upd (upd f j u) k v := by
  funext i
  simp only [upd]
  by_cases h1 : i = j
  · by_cases h2 : i = k
    · exact absurd (h2.symm.trans h1) h
    · simp [h1, h2, Ne.symm h]
  · simp [h1]

/-- A value in a slot: a value of Go, or the place of a variable of this call's own. -/
inductive AV where
  | v (x : Value)
  | p (t off : Nat)

structure Env where
  r : Nat → Option AV
  x : Nat → Option (List Value)

structure Hp where
  own : Nat → Option (List Value × TypeId)
  ro : Addr → Option Value
  lim : Nat
  wf : ∀ b, lim ≤ b → own b = none ∧ ∀ a : Addr, a.block = b → ro a = none

def Hp.set (H : Hp) (b : Nat) (c : List Value × TypeId) : Hp :=
  { own := upd H.own b (some c), ro := H.ro, lim := max H.lim (b + 1), wf := fun b' hb => by
      have h1 : H.lim ≤ b' := by omega
      have h2 : b' ≠ b := by omega
      exact ⟨by rw [upd_ne _ _ h2]; exact (H.wf b' h1).1, (H.wf b' h1).2⟩ }
theorem Hp.eq {A B : Hp} (h1 : A.own = B.own) (h2 : A.ro = B.ro) (h3 : A.lim = B.lim) : A = B := by
  cases A; cases B; simp_all
def Hp.Has (H : Hp) (a : Addr) (v : Value) : Prop := H.ro a = some v ∨ (a.spot = none ∧ ∃ cs t, H.own a.block = some (cs, t) ∧ cs[a.off]? = some v)
def Hp.Fresh (H : Hp) (b : Nat) : Prop := H.own b = none ∧ ∀ a : Addr, a.block = b → H.ro a = none
def Hp.le (H H' : Hp) : Prop := H'.ro = H.ro ∧ ∀ b x, H.own b = some x → H'.own b = some x
theorem Hp.le.refl (H : Hp) : H.le H := ⟨rfl, fun _ _ h => h⟩
theorem Hp.le.trans {A B C : Hp} (h : A.le B) (k : B.le C) : A.le C := ⟨k.1.trans h.1, fun b x e => k.2 b x (h.2 b x e)⟩
theorem Hp.le.has {A B : Hp} (h : A.le B) {a : Addr} {v : Value} (k : A.Has a v) : B.Has a v := by
  rcases k with k | ⟨hs, cs, t, ho, hc⟩
  · exact .inl (by rw [h.1]; exact k)
  · exact .inr ⟨hs, cs, t, h.2 _ _ ho, hc⟩
theorem Hp.Fresh.le {H : Hp} {b : Nat} (h : H.Fresh b) (c : List Value × TypeId) : H.le (H.set b c) :=
  ⟨rfl, fun b' x e => by
    show upd H.own b (some c) b' = some x
    rw [upd_ne _ _ (fun e' => by rw [e', h.1] at e; cases e)]; exact e⟩
theorem Hp.set_comm (H : Hp) {b b' : Nat} (c c' : List Value × TypeId) (h : b ≠ b') : (H.set b c).set b' c' = (H.set b' c').set b c := by
  refine Hp.eq ?_ rfl ?_
  · exact upd_comm H.own (some c) (some c') h
  · show max (max H.lim (b + 1)) (b' + 1) = max (max H.lim (b' + 1)) (b + 1)
    omega
theorem Hp.fresh_ex (H : Hp) : H.Fresh H.lim := H.wf H.lim (Nat.le_refl _)
theorem Hp.Fresh.set_iff {H : Hp} {b b' : Nat} {c : List Value × TypeId} : (H.set b c).Fresh b' ↔ H.Fresh b' ∧ b' ≠ b := by
  constructor
  · rintro ⟨h1, h2⟩
    have hne : b' ≠ b := fun e => by subst e; simp [Hp.set, upd] at h1
    exact ⟨⟨by simpa [Hp.set, upd, hne] using h1, h2⟩, hne⟩
  · rintro ⟨⟨h1, h2⟩, hne⟩
    exact ⟨by simpa [Hp.set, upd, hne] using h1, h2⟩

def Sub (H : Hp) (w : World) : Prop :=
  (∀ b cs t, H.own b = some (cs, t) → w.heap[b]? = some (.cells cs.toArray t (0, 0))) ∧
  (∀ a v, H.ro a = some v → w.cell? a = some v ∧ H.own a.block = none)

def Fr (H H' : Hp) (w w' : World) : Prop :=
  w'.os = w.os ∧ w'.tape = w.tape ∧ w'.output = w.output ∧ w.heap.size ≤ w'.heap.size ∧
  (∀ b, b < w.heap.size → H.own b = none → w'.heap[b]? = w.heap[b]?) ∧
  (∀ b, H'.own b ≠ none → H.own b ≠ none ∨ w.heap.size ≤ b) ∧ H'.ro = H.ro

theorem Fr.refl (H : Hp) (w : World) : Fr H H w w := ⟨rfl, rfl, rfl, Nat.le_refl _, fun _ _ _ => rfl, fun _ h => .inl h, rfl⟩
theorem Fr.trans {A B C : Hp} {u v w : World} (h : Fr A B u v) (k : Fr B C v w) : Fr A C u w := by
  obtain ⟨h1, h2, h3, h4, h5, h6, h7⟩ := h
  obtain ⟨k1, k2, k3, k4, k5, k6, k7⟩ := k
  refine ⟨k1.trans h1, k2.trans h2, k3.trans h3, Nat.le_trans h4 k4, fun b hb ho => ?_, fun b hb => ?_, k7.trans h7⟩
  · refine (k5 b (by omega) ?_).trans (h5 b hb ho)
    cases hB : B.own b with
    | none => rfl
    | some x =>
      rcases h6 b (by rw [hB]; simp) with h | h
      · exact absurd ho h
      · omega
  · rcases k6 b hb with h | h
    · rcases h6 b h with h | h
      · exact .inl h
      · exact .inr h
    · exact .inr (by omega)

theorem Sub.has {H : Hp} {w : World} (h : Sub H w) {a : Addr} {v : Value} (k : H.Has a v) : w.cell? a = some v := by
  rcases k with k | ⟨hs, cs, t, ho, hc⟩
  · exact (h.2 a v k).1
  · have := h.1 _ _ _ ho
    simp [World.cell?, this, hs, hc]
theorem Sub.own_lt {H : Hp} {w : World} (h : Sub H w) {b : Nat} (k : H.own b ≠ none) : b < w.heap.size := by
  cases hb : H.own b with
  | none => exact absurd hb k
  | some x => exact (Array.getElem?_eq_some_iff.1 (h.1 b x.1 x.2 hb)).1
theorem Sub.fresh {H : Hp} {w : World} (h : Sub H w) {b : Nat} (hb : w.heap.size ≤ b) : H.Fresh b := by
  refine ⟨?_, fun a ha => ?_⟩
  · cases ho : H.own b with
    | none => rfl
    | some x => have := h.own_lt (b := b) (by rw [ho]; simp); omega
  · cases hr : H.ro a with
    | none => rfl
    | some v =>
      have := World.block_lt_of_cell? w a (h.2 a v hr).1
      omega
theorem Sub.drew {H : Hp} {w : World} (h : Sub H w) : Sub H w.drew := h
theorem Sub.alloc {H : Hp} {w : World} (h : Sub H w) (cs : List Value) (t : TypeId) : Sub (H.set w.heap.size (cs, t)) (w.alloc (.cells cs.toArray t)) := by
  have hf := h.fresh (Nat.le_refl w.heap.size)
  refine ⟨fun b cs' t' e => ?_, fun a v hr => ⟨?_, ?_⟩⟩
  · by_cases hb : b = w.heap.size
    · subst hb
      simp only [Hp.set, upd_eq, Option.some.injEq, Prod.mk.injEq] at e
      obtain ⟨rfl, rfl⟩ := e
      exact heap_alloc_new w _
    · simp only [Hp.set, upd_ne _ _ hb] at e
      have := h.1 b cs' t' e
      rw [← this]
      exact Below.heap_alloc w _ b (Array.getElem?_eq_some_iff.1 this).1
  · have := (h.2 a v hr).1
    exact (World.cell?_alloc_lt _ _ _ (World.block_lt_of_cell? _ _ this)).trans this
  · by_cases hb : a.block = w.heap.size
    · have := hf.2 a hb
      have h2 : H.ro a = some v := hr
      rw [this] at h2; cases h2
    · simp only [Hp.set, upd_ne _ _ hb]; exact (h.2 a v hr).2
theorem Fr.alloc {H : Hp} {w : World} (c : List Value × TypeId) (o : Obj) : Fr H (H.set w.heap.size c) w (w.alloc o) := by
  refine ⟨rfl, rfl, rfl, by simp, fun b hb _ => Below.heap_alloc w o b hb, fun b hb => ?_, rfl⟩
  by_cases e : b = w.heap.size
  · exact .inr (by omega)
  · simp only [Hp.set, upd_ne _ _ e] at hb; exact .inl hb
theorem Fr.drew {H H' : Hp} {w w' : World} (h : Fr H H' w w') : Fr H H' w w'.drew := h
/-- Memory that is not the heap's own may turn, as long as what is read only stays. -/
theorem Sub.move {H : Hp} {w w' : World} (h : Sub H w) (k : ∀ b, b < w.heap.size → (H.own b ≠ none ∨ ∃ a : Addr, a.block = b ∧ H.ro a ≠ none) → w'.heap[b]? = w.heap[b]?) : Sub H w' := by
  refine ⟨fun b cs t e => ?_, fun a v hr => ⟨?_, (h.2 a v hr).2⟩⟩
  · rw [k b (h.own_lt (by rw [e]; simp)) (.inl (by rw [e]; simp))]; exact h.1 b cs t e
  · have h1 := (h.2 a v hr).1
    have := k a.block (World.block_lt_of_cell? _ _ h1) (.inr ⟨a, rfl, by rw [hr]; simp⟩)
    rw [← h1]
    simp only [World.cell?, this]

def okFn (P : Program) (f : FuncId) : Prop := ∃ fn, P.funcs[f]? = some fn ∧ fn.body.isSome = true ∧ (fn.name == "runtime.NumGoroutine") = false
def CallR (P : Program) (f : FuncId) (args : List Value) (H : Hp) (Q : Value → Hp → Prop) : Prop :=
  okFn P f ∧ ∀ w, Sub H w → Calls P f args.toArray w fun e w' => ∃ v H', e = .returned v ∧ Q v H' ∧ Sub H' w' ∧ Fr H H' w w'

theorem CallR.mono {P : Program} {f : FuncId} {args : List Value} {H : Hp} {Q Q' : Value → Hp → Prop} (h : CallR P f args H Q) (k : ∀ v H', Q v H' → Q' v H') : CallR P f args H Q' :=
  ⟨h.1, fun w hw => (h.2 w hw).mono fun e w' ⟨v, H', he, hq, hs⟩ => ⟨v, H', he, k v H' hq, hs⟩⟩

/-- What a call does not know of, it leaves. -/
theorem CallR.frame {P : Program} {f : FuncId} {args : List Value} {H : Hp} {Q : Value → Hp → Prop} (h : CallR P f args H Q) {b : Nat} (hb : H.Fresh b) (c : List Value × TypeId) :
    CallR P f args (H.set b c) fun v H' => ∃ H1, H' = H1.set b c ∧ H1.Fresh b ∧ Q v H1 := by
  refine ⟨h.1, ?_⟩
  intro w hw
  have hbw : b < w.heap.size := hw.own_lt (b := b) (by simp [Hp.set, upd])
  have hcell : w.heap[b]? = some (.cells c.1.toArray c.2 (0, 0)) := hw.1 b c.1 c.2 (by simp [Hp.set, upd])
  have hsub : Sub H w := by
    refine ⟨fun b' cs t e => hw.1 b' cs t ?_, fun a v hr => ⟨(hw.2 a v hr).1, ?_⟩⟩
    · exact hb.le c |>.2 b' _ e
    · have := (hw.2 a v hr).2
      simp only [Hp.set, upd] at this
      split at this
      · cases this
      · exact this
  refine (h.2 w hsub).mono ?_
  rintro e w' ⟨v, H', rfl, hq, hs, hf⟩
  obtain ⟨f1, f2, f3, f4, f5, f6, f7⟩ := hf
  have hown : H'.own b = none := by
    cases ho : H'.own b with
    | none => rfl
    | some x =>
      rcases f6 b (by rw [ho]; simp) with h | h
      · exact absurd hb.1 h
      · omega
  have hfr : H'.Fresh b := ⟨hown, fun a ha => by rw [f7]; exact hb.2 a ha⟩
  refine ⟨v, H'.set b c, rfl, ⟨H', rfl, hfr, hq⟩, ?_, f1, f2, f3, f4, fun b' hb' ho => ?_, fun b' ho => ?_, f7⟩
  · refine ⟨fun b' cs t e => ?_, fun a v hr => ⟨(hs.2 a v hr).1, ?_⟩⟩
    · by_cases hbb : b' = b
      · subst hbb
        simp only [Hp.set, upd_eq, Option.some.injEq] at e
        subst e
        exact (f5 b' hbw hb.1).trans hcell
      · simp only [Hp.set, upd_ne _ _ hbb] at e
        exact hs.1 b' cs t e
    · by_cases hbb : a.block = b
      · have := hfr.2 a hbb
        rw [show H'.ro a = some v from hr] at this; cases this
      · simp only [Hp.set, upd_ne _ _ hbb]; exact (hs.2 a v hr).2
  · refine f5 b' hb' ?_
    simp only [Hp.set, upd] at ho
    split at ho
    · cases ho
    · exact ho
  · by_cases hbb : b' = b
    · subst hbb; exact .inl (by simp [Hp.set, upd])
    · simp only [Hp.set, upd_ne _ _ hbb] at ho ⊢
      exact f6 b' ho
end Go.HL
namespace Go.HL
open Go Go.RowKit
set_option linter.unusedVariables false
set_option linter.unusedSimpArgs false

inductive AO where
  | r (t : Nat)
  | c (v : Value)
  | f (g : Nat)

def AO.ev (E : Env) : AO → Option AV
  | .r t => E.r t
  | .c v => some (.v v)
  | .f g => some (.v (.func (.func g) #[] #[]))
def AO.val (E : Env) (x : AO) : Option Value := match x.ev E with | some (.v v) => some v | _ => none
def AO.regs : AO → List Nat
  | .r t => [t]
  | _ => []
def vals (E : Env) : List AO → Option (List Value)
  | [] => some []
  | x :: l => match x.val E with
    | some v => match vals E l with | some vs => some (v :: vs) | none => none
    | none => none

inductive AOp where
  | mv (a : AO)
  | pk (c a b : AO)
  | bi (op : BinOp) (a b : AO)
  | un (op : UnOp) (a : AO)
  | eb (neg : Bool) (a b : AO)
  | es (neg : Bool) (a b : AO)
  | eg (neg : Bool) (n : Nat) (a b : AO)
  | cv (k : IntKind) (a : AO)
  | ex (a : AO) (i : Nat)
  | fl (a : AO) (off n : Nat) (agg : Bool)
  | bd (zero : List Value) (parts : List (Nat × Nat × AO))
  | fa (a : AO) (off : Nat)
  | ia (sz : Nat) (a i : AO)
  | sl (sz : Nat) (a : AO) (lo hi mx : Option AO)
  | ln (a : AO)
  | cp (a : AO)
  | mn (l : List AO)
  | mx (l : List AO)
  | mf (g : Nat) (l : List AO)
  | nc (a : AO)
  | lv (n : Nat) (agg : Bool) (root : Nat) (a : AO)
  | ld (n : Nat) (agg : Bool) (a : AO)
  | sv (n root : Nat) (a x : AO)
  | st (n : Nat) (a x : AO)
  | nz (cs : List Value)
  | nb (n : Nat) (x : AO)
  | hz (t : TypeId) (cs : List Value)
  | hb (t : TypeId) (x : AO)
  | bs (t : TypeId) (sz len : Nat) (zero : List Value) (parts : List (Nat × AO))
  | ms (t : TypeId) (sz bytes : Nat) (zero : List Value) (l c : AO)
  | ap (t : TypeId) (sz bytes : Nat) (zero : List Value) (a b : AO)
  | cy (sz : Nat) (a b : AO)
  | cl (sz : Nat) (zero : List Value) (a : AO)
  | ca (g : Nat) (l : List AO)
  | cf (a : AO) (l : List AO)

/-- Class of an operation: 0 slots alone, 1 reads variables, 2 a new variable, 3 writes a variable, 4 reads the heap, 5 writes it, 6 a new block, 7 a call. -/
def AOp.cls : AOp → Nat
  | .lv .. => 1
  | .nz .. | .nb .. => 2
  | .sv .. => 3
  | .ld .. => 4
  | .st .. | .ap .. | .cy .. | .cl .. => 5
  | .hz .. | .hb .. | .bs .. | .ms .. => 6
  | .ca .. | .cf .. => 7
  | _ => 0

def AOp.regs : AOp → List Nat
  | .mv a | .un _ a | .cv _ a | .ex a _ | .fl a _ _ _ | .fa a _ | .ln a | .cp a | .nc a | .lv _ _ _ a | .ld _ _ a | .nb _ a | .hb _ a | .cl _ _ a => a.regs
  | .pk c a b => c.regs ++ a.regs ++ b.regs
  | .bi _ a b | .eb _ a b | .es _ a b | .eg _ _ a b | .ia _ a b | .sv _ _ a b | .st _ a b | .ms _ _ _ _ a b | .ap _ _ _ _ a b | .cy _ a b => a.regs ++ b.regs
  | .bd _ ps => ps.flatMap fun p => p.2.2.regs
  | .bs _ _ _ _ ps => ps.flatMap fun p => p.2.regs
  | .sl _ a l h m => a.regs ++ (match l with | some x => x.regs | none => []) ++ (match h with | some x => x.regs | none => []) ++ (match m with | some x => x.regs | none => [])
  | .mn l | .mx l | .mf _ l | .ca _ l => l.flatMap AO.regs
  | .cf a l => a.regs ++ l.flatMap AO.regs
  | .nz _ | .hz _ _ => []

structure AOper where
  d : Option Nat
  op : AOp
  g : Option (Nat × Bool) := none
  x : Bool := false

def AOper.regs (o : AOper) : List Nat := (match o.g with | some (t, _) => [t] | none => []) ++ o.op.regs

/-! What an operation does, as told by the slots and variables. -/
inductive Form where
  | pv (y : AV)
  | nv (cs : List Value)
  | sv (t : Nat) (cs : List Value)
  | lh (a : Addr) (n : Nat) (agg : Bool)
  | sh (a : Addr) (vs : List Value)
  | al (t : TypeId) (cs : List Value) (len : Option Nat)
  | ca (g : FuncId) (l : List Value)
  | ap (t : TypeId) (sz bytes : Nat) (base : Option Addr) (n cap : Nat) (src : Option Addr) (m : Nat)
  | cy (sz : Nat) (base : Option Addr) (n : Nat) (src : Option Addr) (m : Nat)
  | cl (base : Option Addr) (vs : List Value)

def binI (op : BinOp) (k : IntKind) (x y : Int) : Option Value :=
  match op with
  | .add => some (.int k (k.wrap (x + y)))
  | .sub => some (.int k (k.wrap (x - y)))
  | .mul => some (.int k (k.wrap (x * y)))
  | .quo => if y = 0 then none else some (.int k (k.wrap (x.tdiv y)))
  | .rem => if y = 0 then none else some (.int k (x.tmod y))
  | .and => some (.int k (k.wrap (BitVec.ofInt k.bits x &&& BitVec.ofInt k.bits y).toNat))
  | .or => some (.int k (k.wrap (BitVec.ofInt k.bits x ||| BitVec.ofInt k.bits y).toNat))
  | .xor => some (.int k (k.wrap (BitVec.ofInt k.bits x ^^^ BitVec.ofInt k.bits y).toNat))
  | .andNot => some (.int k (k.wrap (BitVec.ofInt k.bits x &&& ~~~ BitVec.ofInt k.bits y).toNat))
  | .eql => some (.bool (x == y))
  | .neq => some (.bool (x != y))
  | .lss => some (.bool (decide (x < y)))
  | .leq => some (.bool (decide (x ≤ y)))
  | .gtr => some (.bool (decide (x > y)))
  | .geq => some (.bool (decide (x ≥ y)))
  | _ => none
def binV (op : BinOp) (a b : Value) : Option Value :=
  match a, b with
  | .int k x, .int k' y => match op with
    | .shl => if y < 0 then none else some (.int k (k.wrap (x * 2 ^ (min y.toNat k.bits))))
    | .shr => if y < 0 then none else some (.int k (x.fdiv (2 ^ (min y.toNat k.bits))))
    | op => if k = k' then binI op k x y else none
  | _, _ => none
def unV (op : UnOp) (a : Value) : Option Value :=
  match op, a with
  | .neg, .int k n => some (.int k (k.wrap (0 - n)))
  | .not, .bool b => some (.bool !b)
  | .xor, .int k n => some (.int k (k.wrap (BitVec.ofInt k.bits (if k.signed then -1 else k.max) ^^^ BitVec.ofInt k.bits n).toNat))
  | _, _ => none
def mkV (agg : Bool) (vs : List Value) : Value := if agg then .agg vs.toArray else vs.headD undef
/-- A stretch of cells, spelled out. -/
def sub : List Value → Nat → Nat → Option (List Value)
  | _, 0, 0 => some []
  | c :: cs, 0, n + 1 => match sub cs 0 n with | some r => some (c :: r) | none => none
  | _ :: cs, off + 1, n => sub cs off n
  | [], _, _ => none
/-- Cells with a stretch put in, spelled out. -/
def putL : List Value → Nat → List Value → Option (List Value)
  | cs, 0, [] => some cs
  | _ :: cs, 0, v :: vs => match putL cs 0 vs with | some r => some (v :: r) | none => none
  | c :: cs, off + 1, vs => match putL cs off vs with | some r => some (c :: r) | none => none
  | [], _, _ => none
def mkV? (agg : Bool) (vs : List Value) : Option Value :=
  match agg, vs with
  | true, vs => some (.agg vs.toArray)
  | false, [v] => some v
  | false, _ => none
def fillL : List Value → List (Nat × Nat × Value) → Option (List Value)
  | cs, [] => some cs
  | cs, (off, n, v) :: rest =>
    if v.cells.size = n ∧ off + n ≤ cs.length then fillL (cs.take off ++ v.cells.toList ++ cs.drop (off + n)) rest else none
def parts3 (E : Env) : List (Nat × Nat × AO) → Option (List (Nat × Nat × Value))
  | [] => some []
  | (a, b, x) :: l => match x.val E with
    | some v => match parts3 E l with | some vs => some ((a, b, v) :: vs) | none => none
    | none => none
def parts2 (E : Env) (sz : Nat) : List (Nat × AO) → Option (List (Nat × Nat × Value))
  | [] => some []
  | (a, x) :: l => match x.val E with
    | some v => match parts2 E sz l with | some vs => some ((a * sz, sz, v) :: vs) | none => none
    | none => none
def iVal : Option Value → Option Int
  | some (.int _ i) => some i
  | _ => none
/-- The bound of a slice expression: 'none' is the default. -/
def bnd (E : Env) (x : Option AO) (dflt lim : Nat) : Option Nat :=
  match x with
  | none => some dflt
  | some x => match x.val E with
    | some (.int _ i) => if 0 ≤ i ∧ i ≤ lim then some i.toNat else none
    | _ => none
def slV (E : Env) (sz : Nat) (v : Value) (lo hi mx : Option AO) : Option Value :=
  match v with
  | .slice a len cap => match bnd E mx cap cap with
    | some m => match bnd E hi len m with
      | some h => match bnd E lo 0 h with
        | some l => if mx.isSome = true ∧ hi.isSome = false then none else some (.slice (if m = l then a else a.map (·.add (l * sz))) (h - l) (m - l))
        | none => none
      | none => none
    | none => none
  | _ => none
def intsK (k : IntKind) : List Value → Option (List Int)
  | [] => some []
  | .int k' n :: l => if k = k' then match intsK k l with | some ns => some (n :: ns) | none => none else none
  | _ => none
def aggEq : List Value → List Value → Option Bool
  | [], [] => some true
  | .int k x :: l, .int k' y :: m => if k = k' then (aggEq l m).map fun r => (x == y) && r else none
  | _, _ => none
def foldV (f : Int → Int → Int) : List Value → Option Value
  | .int k x :: l => match intsK k l with | some ns => some (.int k (ns.foldl f x)) | none => none
  | _ => none

theorem sub_eq : ∀ {cs : List Value} {off n : Nat} {vs : List Value}, sub cs off n = some vs → off + n ≤ cs.length ∧ vs = (cs.drop off).take n
  | _, 0, 0, vs, h => by simp only [sub, Option.some.injEq] at h; subst h; simp
  | c :: cs, 0, n + 1, vs, h => by
    simp only [sub] at h
    split at h
    · rename_i r hr
      simp only [Option.some.injEq] at h; subst h
      obtain ⟨h1, rfl⟩ := sub_eq hr
      simp only [Nat.zero_add, List.length_cons] at h1 ⊢
      exact ⟨by omega, by simp⟩
    · cases h
  | c :: cs, off + 1, n, vs, h => by
    simp only [sub] at h
    obtain ⟨h1, rfl⟩ := sub_eq h
    exact ⟨by simp only [List.length_cons]; omega, by simp⟩
  | [], 0, n + 1, vs, h => by simp [sub] at h
  | [], off + 1, n, vs, h => by simp [sub] at h
theorem putL_eq : ∀ {cs : List Value} {off : Nat} {vs r : List Value}, putL cs off vs = some r → off + vs.length ≤ cs.length ∧ r = cs.take off ++ vs ++ cs.drop (off + vs.length)
  | cs, 0, [], r, h => by simp only [putL, Option.some.injEq] at h; subst h; simp
  | c :: cs, 0, v :: vs, r, h => by
    simp only [putL] at h
    split at h
    · rename_i r' hr
      simp only [Option.some.injEq] at h; subst h
      obtain ⟨h1, rfl⟩ := putL_eq hr
      simp only [Nat.zero_add, List.length_cons] at h1 ⊢
      exact ⟨by omega, by simp⟩
    · cases h
  | c :: cs, off + 1, vs, r, h => by
    simp only [putL] at h
    split at h
    · rename_i r' hr
      simp only [Option.some.injEq] at h; subst h
      obtain ⟨h1, rfl⟩ := putL_eq hr
      refine ⟨by simp only [List.length_cons]; omega, ?_⟩
      rw [show off + 1 + vs.length = off + vs.length + 1 by omega]
      simp
    · cases h
  | [], 0, v :: vs, r, h => by simp [putL] at h
  | [], off + 1, vs, r, h => by simp [putL] at h
theorem mkV?_eq {agg : Bool} {vs : List Value} {v : Value} (h : mkV? agg vs = some v) : v = mkV agg vs ∧ (agg = true ∨ vs.length = 1) := by
  unfold mkV? at h
  split at h
  · simp only [Option.some.injEq] at h; subst h; exact ⟨rfl, .inl rfl⟩
  · simp only [Option.some.injEq] at h; subst h; exact ⟨rfl, .inr rfl⟩
  · cases h
def AOp.form (E : Env) : AOp → Option Form
  | .mv a => (a.ev E).map .pv
  | .pk c a b => match c.val E with
    | some (.bool true) => (a.ev E).map .pv
    | some (.bool false) => (b.ev E).map .pv
    | _ => none
  | .bi op a b => match a.val E with
    | some x => match b.val E with | some y => (binV op x y).map fun z => .pv (.v z) | none => none
    | none => none
  | .eb neg a b => match a.val E with
    | some (.bool x) => match b.val E with | some (.bool y) => some (.pv (.v (.bool (if neg then !(x == y) else x == y)))) | _ => none
    | _ => none
  | .es neg a b => match a.val E with
    | some (.slice x _ _) => match b.val E with | some (.slice none _ _) => some (.pv (.v (.bool (if neg then !x.isNone else x.isNone)))) | _ => none
    | _ => none
  | .eg neg n a b => match a.val E with
    | some (.agg xs) => match b.val E with | some (.agg ys) => if xs.size = n then (aggEq xs.toList ys.toList).map fun r => .pv (.v (.bool (if neg then !r else r))) else none | _ => none
    | _ => none
  | .un op a => match a.val E with | some x => (unV op x).map fun z => .pv (.v z) | none => none
  | .cv k a => match a.val E with | some (.int _ n) => some (.pv (.v (.int k (k.wrap n)))) | _ => none
  | .ex a i => match a.val E with | some (.tuple vs) => (vs[i]?).map fun z => .pv (.v z) | _ => none
  | .fl a off n agg => match a.val E with
    | some (.agg cs) => if off + n ≤ cs.size ∧ (agg = true ∨ n = 1) then some (.pv (.v (mkV agg ((cs.toList.drop off).take n)))) else none
    | _ => none
  | .bd zero ps => match parts3 E ps with | some l => (fillL zero l).map fun cs => .pv (.v (.agg cs.toArray)) | none => none
  | .fa a off => match a.ev E with
    | some (.p t o) => some (.pv (.p t (o + off)))
    | some (.v (.pointer (some ad))) => some (.pv (.v (.pointer (some (ad.add off)))))
    | _ => none
  | .ia sz a i => match a.val E with
    | some (.slice (some ad) len _) => match i.val E with
      | some (.int _ j) => if 0 ≤ j ∧ j < len then some (.pv (.v (.pointer (some (ad.add (j.toNat * sz)))))) else none
      | _ => none
    | _ => none
  | .sl sz a lo hi m3 => match a.val E with | some v => (slV E sz v lo hi m3).map fun z => .pv (.v z) | none => none
  | .ln a => match a.val E with
    | some (.slice _ n _) => some (.pv (.v (.int .i64 n)))
    | _ => none
  | .cp a => match a.val E with | some (.slice _ _ n) => some (.pv (.v (.int .i64 n))) | _ => none
  | .mn l => match vals E l with | some vs => (foldV (fun x y => if y < x then y else x) vs).map fun z => .pv (.v z) | none => none
  | .mx l => match vals E l with | some vs => (foldV (fun x y => if y > x then y else x) vs).map fun z => .pv (.v z) | none => none
  | .mf g l => match vals E l with | some vs => some (.pv (.v (.func (.func g) #[] vs.toArray))) | none => none
  | .nc a => match a.ev E with
    | some (.p t o) => some (.pv (.p t o))
    | some (.v (.pointer (some ad))) => some (.pv (.v (.pointer (some ad))))
    | _ => none
  | .lv n agg root a => match a.ev E with
    | some (.p t off) => match E.x t with
      | some cs => if t = root then match sub cs off n with
        | some vs => (match mkV? agg vs with | some v => some (.pv (.v v)) | none => none)
        | none => none
        else none
      | none => none
    | _ => none
  | .ld n agg a => match a.val E with | some (.pointer (some ad)) => if agg = true ∨ n = 1 then some (.lh ad n agg) else none | _ => none
  | .sv n root a x => match a.ev E with
    | some (.p t off) => match E.x t with
      | some cs => match x.val E with
        | some v => if v.cells.size = n ∧ v.cells.toList.all (·.oneCell') = true ∧ t = root then match putL cs off v.cells.toList with
          | some r => some (.sv t r)
          | none => none
          else none
        | none => none
      | none => none
    | _ => none
  | .st n a x => match a.val E with
    | some (.pointer (some ad)) => match x.val E with
      | some v => if v.cells.size = n ∧ v.cells.toList.all (·.oneCell') = true then some (.sh ad v.cells.toList) else none
      | none => none
    | _ => none
  | .nz cs => some (.nv cs)
  | .nb n x => match x.val E with | some v => if v.cells.size = n then (match sub v.cells.toList 0 n with | some r => some (.nv r) | none => none) else none | none => none
  | .hz t cs => some (.al t cs none)
  | .hb t x => match x.val E with | some v => some (.al t v.cells.toList none) | none => none
  | .bs t sz len zero ps => match parts2 E sz ps with | some l => (fillL ((List.replicate len zero).flatten) l).map fun cs => .al t cs (some len) | none => none
  | .ms t sz bytes zero l c => match l.val E with
    | some (.int _ i) => match c.val E with
      | some (.int _ j) => if i = j ∧ 0 ≤ i ∧ i.toNat * bytes ≤ 140737488355328 ∧ i ≤ 140737488355328 then some (.al t ((List.replicate i.toNat zero).flatten) (some i.toNat)) else none
      | _ => none
    | _ => none
  | .ap t sz bytes zero a b => match a.val E with
    | some (.slice base n cap) => match b.val E with
      | some (.slice src m _) => some (.ap t sz bytes base n cap src m)
      | _ => none
    | _ => none
  | .cy sz a b => match a.val E with
    | some (.slice base n _) => match b.val E with
      | some (.slice src m _) => some (.cy sz base n src m)
      | _ => none
    | _ => none
  | .cl sz zero a => match a.val E with
    | some (.slice base n _) => some (.cl base ((List.replicate n zero).flatten))
    | _ => none
  | .ca g l => match vals E l with | some vs => some (.ca g vs) | none => none
  | .cf a l => match a.val E with
    | some (.func (.func g) first cap) => match vals E l with | some vs => if first.size = 0 then some (.ca g (vs ++ cap.toList)) else none | none => none
    | _ => none

def AOper.form (E : Env) (o : AOper) : Option Form :=
  match o.g with
  | none => o.op.form E
  | some (t, b) => match E.r t with
    | some (.v (.bool c)) => if c = b then o.op.form E else some (.pv (.v undef))
    | some (.v _) => some (.pv (.v undef))
    | _ => none

def Env.put (E : Env) (d : Option Nat) (y : AV) : Env := match d with | some d => { E with r := upd E.r d (some y) } | none => E
def dropP (t : Nat) : Option AV → Option AV
  | some (.p t' o) => if t' = t then none else some (.p t' o)
  | y => y
def Env.nv (E : Env) (t : Nat) (cs : List Value) : Env := { r := upd (fun s => dropP t (E.r s)) t (some (.p t 0)), x := upd E.x t (some cs) }
def Env.sv (E : Env) (t : Nat) (cs : List Value) : Env := { E with x := upd E.x t (some cs) }

def HasAll (H : Hp) (a : Option Addr) (vs : List Value) : Prop := vs = [] ∨ ∃ ad, a = some ad ∧ ∀ i u, vs[i]? = some u → H.Has (ad.add i) u
def splice (cs : List Value) (off : Nat) (vs : List Value) : List Value := cs.take off ++ vs ++ cs.drop (off + vs.length)

def alV (len : Option Nat) (b : Nat) : Value := match len with | none => .pointer (some ⟨b, 0, none⟩) | some n => .slice (some ⟨b, 0, none⟩) n n
/-- A form's effect. -/
def Form.W (P : Program) (d : Option Nat) (x : Bool) (E : Env) (H : Hp) (K : Env → Hp → Prop) : Form → Prop
  | .pv y => K (E.put d y) H
  | .nv cs => match d with | some t => K (E.nv t cs) H | none => False
  | .sv t cs => d = none ∧ K (E.sv t cs) H
  | .lh a n agg => ∃ vs : List Value, vs.length = n ∧ (∀ i u, vs[i]? = some u → H.Has (a.add i) u) ∧ K (E.put d (.v (mkV agg vs))) H
  | .sh a vs => d = none ∧ ∃ cs t, a.spot = none ∧ H.own a.block = some (cs, t) ∧ a.off + vs.length ≤ cs.length ∧ K E (H.set a.block (splice cs a.off vs, t))
  | .al t cs len => ∀ b, H.Fresh b → K (E.put d (.v (alV len b))) (H.set b (cs, t))
  | .ca g l => CallR P g l H fun v H' => (x = true → H.le H') ∧ K (E.put d (.v v)) H'
  | .ap t sz bytes base n cap src m => ∃ news : List Value, news.length = m * sz ∧ HasAll H src news ∧ (n + m) * bytes ≤ 140737488355328 ∧ n + m ≤ 140737488355328 ∧
      if n + m ≤ cap then (news = [] ∧ K (E.put d (.v (.slice base (n + m) cap))) H) ∨
        (∃ a cs t', base = some a ∧ a.spot = none ∧ H.own a.block = some (cs, t') ∧ a.off + (n + m) * sz ≤ cs.length ∧ (∀ u ∈ news, u.oneCell' = true) ∧
          K (E.put d (.v (.slice base (n + m) cap))) (H.set a.block (splice cs (a.off + n * sz) news, t')))
      else ∃ olds : List Value, olds.length = n * sz ∧ HasAll H base olds ∧
        ∀ b cap' rest, n + m ≤ cap' → cap' ≤ maxLen → rest.length = (cap' - (n + m)) * sz → H.Fresh b →
          K (E.put d (.v (.slice (some ⟨b, 0, none⟩) (n + m) cap'))) (H.set b (olds ++ news ++ rest, t))
  | .cy sz base n src m => ∃ news : List Value, news.length = Nat.min m n * sz ∧ HasAll H src news ∧
      ((news = [] ∧ K (E.put d (.v (.int .i64 (Nat.min m n)))) H) ∨
        (∃ a cs t', base = some a ∧ a.spot = none ∧ H.own a.block = some (cs, t') ∧ a.off + news.length ≤ cs.length ∧ (∀ u ∈ news, u.oneCell' = true) ∧
          K (E.put d (.v (.int .i64 (Nat.min m n)))) (H.set a.block (splice cs a.off news, t'))))
  | .cl base vs => (vs = [] ∧ K (E.put d (.v (.tuple #[]))) H) ∨
      (∃ a cs t', base = some a ∧ a.spot = none ∧ H.own a.block = some (cs, t') ∧ a.off + vs.length ≤ cs.length ∧ (∀ u ∈ vs, u.oneCell' = true) ∧
          K (E.put d (.v (.tuple #[]))) (H.set a.block (splice cs a.off vs, t')))

def AOper.W (P : Program) (o : AOper) (E : Env) (H : Hp) (K : Env → Hp → Prop) : Prop :=
  match o.form E with
  | some F => F.W P o.d o.x E H K
  | none => False

def WL (P : Program) : List AOper → Env → Hp → (Env → Hp → Prop) → Prop
  | [], E, H, K => K E H
  | o :: l, E, H, K => o.W P E H fun E' H' => WL P l E' H' K
end Go.HL
namespace Go.HL
open Go Go.RowKit
set_option linter.unusedVariables false
set_option linter.unusedSimpArgs false

theorem AO.ev_congr {E E' : Env} {a : AO} (h : ∀ t ∈ a.regs, E'.r t = E.r t) : a.ev E' = a.ev E := by
  cases a <;> simp_all [AO.ev, AO.regs]
theorem AO.val_congr {E E' : Env} {a : AO} (h : ∀ t ∈ a.regs, E'.r t = E.r t) : a.val E' = a.val E := by
  simp only [AO.val, AO.ev_congr h]
theorem vals_congr {E E' : Env} : ∀ {l : List AO}, (∀ t ∈ l.flatMap AO.regs, E'.r t = E.r t) → vals E' l = vals E l
  | [], _ => rfl
  | a :: l, h => by
    simp only [vals]
    rw [AO.val_congr (fun t ht => h t (by simp [ht])), vals_congr (l := l) (fun t ht => h t (by
      simp only [List.flatMap_cons, List.mem_append]; exact .inr ht))]
theorem parts3_congr {E E' : Env} : ∀ {l : List (Nat × Nat × AO)}, (∀ t ∈ l.flatMap (fun p => p.2.2.regs), E'.r t = E.r t) → parts3 E' l = parts3 E l
  | [], _ => rfl
  | (_, _, a) :: l, h => by
    simp only [parts3]
    rw [AO.val_congr (fun t ht => h t (by simp [ht])), parts3_congr (l := l) (fun t ht => h t (by
      simp only [List.flatMap_cons, List.mem_append]; exact .inr ht))]
theorem parts2_congr {E E' : Env} {sz : Nat} : ∀ {l : List (Nat × AO)}, (∀ t ∈ l.flatMap (fun p => p.2.regs), E'.r t = E.r t) → parts2 E' sz l = parts2 E sz l
  | [], _ => rfl
  | (_, a) :: l, h => by
    simp only [parts2]
    rw [AO.val_congr (fun t ht => h t (by simp [ht])), parts2_congr (l := l) (fun t ht => h t (by
      simp only [List.flatMap_cons, List.mem_append]; exact .inr ht))]
theorem bnd_congr {E E' : Env} {x : Option AO} {d l : Nat} (h : ∀ t ∈ (match x with | some x => x.regs | none => []), E'.r t = E.r t) : bnd E' x d l = bnd E x d l := by
  cases x with
  | none => rfl
  | some x => simp only [bnd, AO.val_congr h]
theorem AOp.form_congr {E E' : Env} {o : AOp} (h : ∀ t ∈ o.regs, E'.r t = E.r t) (hx : E'.x = E.x) : o.form E' = o.form E := by
  cases o with
  | sl sz a lo hi m3 =>
    simp only [AOp.regs, List.mem_append] at h
    simp only [AOp.form, slV]
    rw [AO.val_congr (fun t ht => h t (.inl (.inl (.inl ht))))]
    have e1 : ∀ d l, bnd E' hi d l = bnd E hi d l := fun d l => bnd_congr (fun t ht => h t (.inl (.inr ht)))
    have e2 : ∀ d l, bnd E' m3 d l = bnd E m3 d l := fun d l => bnd_congr (fun t ht => h t (.inr ht))
    have e3 : ∀ d l, bnd E' lo d l = bnd E lo d l := fun d l => bnd_congr (fun t ht => h t (.inl (.inl (.inr ht))))
    simp only [e1, e2, e3]
  | bd z ps => simp only [AOp.regs] at h; simp only [AOp.form, parts3_congr h]
  | bs t sz n z ps => simp only [AOp.regs] at h; simp only [AOp.form, parts2_congr h]
  | mn l => simp only [AOp.regs] at h; simp only [AOp.form, vals_congr h]
  | mx l => simp only [AOp.regs] at h; simp only [AOp.form, vals_congr h]
  | mf g l => simp only [AOp.regs] at h; simp only [AOp.form, vals_congr h]
  | ca g l => simp only [AOp.regs] at h; simp only [AOp.form, vals_congr h]
  | cf a l =>
    simp only [AOp.regs, List.mem_append] at h
    simp only [AOp.form]
    rw [AO.val_congr (fun t ht => h t (.inl ht)), vals_congr (l := l) (fun t ht => h t (.inr ht))]
  | pk c a b =>
    simp only [AOp.regs, List.mem_append] at h
    simp only [AOp.form]
    rw [AO.val_congr (fun t ht => h t (.inl (.inl ht))), AO.ev_congr (a := a) (fun t ht => h t (.inl (.inr ht))), AO.ev_congr (a := b) (fun t ht => h t (.inr ht))]
  | bi _ a b | eb _ a b | es _ a b | eg _ _ a b | ia _ a b | sv _ _ a b | st _ a b | ms _ _ _ _ a b | ap _ _ _ _ a b | cy _ a b =>
    simp only [AOp.regs, List.mem_append] at h
    simp only [AOp.form, AO.val_congr (a := a) (fun t ht => h t (.inl ht)), AO.ev_congr (a := a) (fun t ht => h t (.inl ht)), AO.val_congr (a := b) (fun t ht => h t (.inr ht)), hx]
  | nz _ => rfl
  | hz _ _ => rfl
  | _ => simp only [AOp.regs] at h; simp only [AOp.form, AO.val_congr h, AO.ev_congr h, hx]
theorem AOper.form_congr {E E' : Env} {o : AOper} (h : ∀ t ∈ o.regs, E'.r t = E.r t) (hx : E'.x = E.x) : o.form E' = o.form E := by
  unfold AOper.form
  unfold AOper.regs at h
  cases hg : o.g with
  | none => exact AOp.form_congr (fun t ht => h t (by simp [ht])) hx
  | some q =>
    obtain ⟨t, b⟩ := q
    simp only [hg] at h
    simp only [h t (by simp), AOp.form_congr (o := o.op) (fun t ht => h t (by simp [ht])) hx]

def AV.no (t : Nat) : AV → Prop
  | .p t' _ => t' ≠ t
  | .v _ => True
def Form.no (t : Nat) : Form → Prop
  | .pv y => y.no t
  | .sv t' _ => t' ≠ t
  | _ => True
theorem nv_r {E : Env} {t s : Nat} {cs : List Value} (h : s ≠ t) {y : AV} (e : (E.nv t cs).r s = some y) : E.r s = some y ∧ y.no t := by
  simp only [Env.nv, upd_ne _ _ h] at e
  cases hr : E.r s with
  | none => rw [hr] at e; cases e
  | some z =>
    rw [hr] at e
    cases z with
    | v x => simp only [dropP, Option.some.injEq] at e; subst e; exact ⟨rfl, trivial⟩
    | p t' o =>
      simp only [dropP] at e
      split at e
      · cases e
      · rename_i hne; simp only [Option.some.injEq] at e; subst e; exact ⟨rfl, hne⟩
theorem AO.ev_nv {E : Env} {a : AO} {t : Nat} {cs : List Value} (h : t ∉ a.regs) {y : AV} (e : a.ev (E.nv t cs) = some y) : a.ev E = some y ∧ y.no t := by
  cases a with
  | r s => exact nv_r (fun e' => h (by simp [AO.regs, e'])) e
  | c v => simp only [AO.ev, Option.some.injEq] at e ⊢; subst e; exact ⟨rfl, trivial⟩
  | f g => simp only [AO.ev, Option.some.injEq] at e ⊢; subst e; exact ⟨rfl, trivial⟩
theorem AO.val_nv {E : Env} {a : AO} {t : Nat} {cs : List Value} (h : t ∉ a.regs) {y : Value} (e : a.val (E.nv t cs) = some y) : a.val E = some y := by
  unfold AO.val at e ⊢
  cases he : a.ev (E.nv t cs) with
  | none => rw [he] at e; cases e
  | some z => rw [he] at e; rw [(AO.ev_nv h he).1]; exact e
theorem vals_nv {E : Env} {t : Nat} {cs : List Value} : ∀ {l : List AO}, t ∉ l.flatMap AO.regs → ∀ {vs}, vals (E.nv t cs) l = some vs → vals E l = some vs
  | [], _, _, e => e
  | a :: l, h, vs, e => by
    simp only [List.flatMap_cons, List.mem_append, not_or] at h
    simp only [vals] at e ⊢
    cases ha : a.val (E.nv t cs) with
    | none => rw [ha] at e; cases e
    | some v =>
      rw [ha] at e
      rw [AO.val_nv h.1 ha]
      cases hl : vals (E.nv t cs) l with
      | none => simp only [hl] at e; cases e
      | some us => simp only [hl] at e; simp only [vals_nv h.2 hl]; exact e
theorem parts3_nv {E : Env} {t : Nat} {cs : List Value} : ∀ {l : List (Nat × Nat × AO)}, t ∉ l.flatMap (fun p => p.2.2.regs) → ∀ {vs}, parts3 (E.nv t cs) l = some vs → parts3 E l = some vs
  | [], _, _, e => e
  | (_, _, a) :: l, h, vs, e => by
    simp only [List.flatMap_cons, List.mem_append, not_or] at h
    simp only [parts3] at e ⊢
    cases ha : a.val (E.nv t cs) with
    | none => rw [ha] at e; cases e
    | some v =>
      rw [ha] at e
      rw [AO.val_nv h.1 ha]
      cases hl : parts3 (E.nv t cs) l with
      | none => simp only [hl] at e; cases e
      | some us => simp only [hl] at e; simp only [parts3_nv h.2 hl]; exact e
theorem parts2_nv {E : Env} {sz t : Nat} {cs : List Value} : ∀ {l : List (Nat × AO)}, t ∉ l.flatMap (fun p => p.2.regs) → ∀ {vs}, parts2 (E.nv t cs) sz l = some vs → parts2 E sz l = some vs
  | [], _, _, e => e
  | (_, a) :: l, h, vs, e => by
    simp only [List.flatMap_cons, List.mem_append, not_or] at h
    simp only [parts2] at e ⊢
    cases ha : a.val (E.nv t cs) with
    | none => rw [ha] at e; cases e
    | some v =>
      rw [ha] at e
      rw [AO.val_nv h.1 ha]
      cases hl : parts2 (E.nv t cs) sz l with
      | none => simp only [hl] at e; cases e
      | some us => simp only [hl] at e; simp only [parts2_nv h.2 hl]; exact e
theorem bnd_nv {E : Env} {t : Nat} {cs : List Value} {x : Option AO} {d l : Nat} (h : t ∉ (match x with | some x => x.regs | none => [])) {r : Nat} (e : bnd (E.nv t cs) x d l = some r) : bnd E x d l = some r := by
  cases x with
  | none => exact e
  | some x =>
    simp only [bnd] at e ⊢
    cases hv : x.val (E.nv t cs) with
    | none => rw [hv] at e; cases e
    | some v => rw [hv] at e; rw [AO.val_nv h hv]; exact e

/-- Kinds of forms, after the classes of operations. -/
def Form.kind : Form → Nat
  | .pv _ => 0
  | .nv _ => 2
  | .sv _ _ => 3
  | .lh .. => 4
  | .sh .. | .ap .. | .cy .. | .cl .. => 5
  | .al .. => 6
  | .ca .. => 7

theorem AOp.form_kind {E : Env} {o : AOp} {F : Form} (h : o.form E = some F) : F.kind = 0 ∨ F.kind = o.cls := by
  cases o <;> simp only [AOp.form] at h <;> simp only [AOp.cls] <;>
    (repeat' split at h) <;> (first | (cases h; done) | (simp only [Option.map_eq_some_iff, Option.some.injEq] at h; (first | subst h | obtain ⟨_, _, rfl⟩ := h); first | exact .inl rfl | exact .inr rfl))
theorem AOper.form_kind {E : Env} {o : AOper} {F : Form} (h : o.form E = some F) : F.kind = 0 ∨ F.kind = o.op.cls := by
  unfold AOper.form at h
  split at h
  · exact AOp.form_kind h
  · split at h
    · split at h
      · exact AOp.form_kind h
      · simp only [Option.some.injEq] at h; subst h; exact .inl rfl
    · simp only [Option.some.injEq] at h; subst h; exact .inl rfl
    · cases h

theorem AOp.form_nv {E : Env} {o : AOp} {t : Nat} {cs : List Value} {F : Form} (h : t ∉ o.regs) (hc : o.cls ≠ 3) (e : o.form (E.nv t cs) = some F) : o.form E = some F ∧ F.no t := by
  cases o with
  | mv a =>
    simp only [AOp.regs] at h
    simp only [AOp.form, Option.map_eq_some_iff] at e ⊢
    obtain ⟨y, hy, rfl⟩ := e
    have := AO.ev_nv h hy
    exact ⟨⟨y, this.1, rfl⟩, this.2⟩
  | pk c a b =>
    simp only [AOp.regs, List.mem_append, not_or] at h
    simp only [AOp.form] at e ⊢
    cases hv : c.val (E.nv t cs) with
    | none => rw [hv] at e; cases e
    | some v =>
      rw [hv] at e
      rw [AO.val_nv h.1.1 hv]
      cases v with
      | bool q =>
        cases q with
        | true =>
          simp only [Option.map_eq_some_iff] at e ⊢
          obtain ⟨y, hy, rfl⟩ := e
          have := AO.ev_nv h.1.2 hy
          exact ⟨⟨y, this.1, rfl⟩, this.2⟩
        | false =>
          simp only [Option.map_eq_some_iff] at e ⊢
          obtain ⟨y, hy, rfl⟩ := e
          have := AO.ev_nv h.2 hy
          exact ⟨⟨y, this.1, rfl⟩, this.2⟩
      | _ => cases e
  | fa a off =>
    simp only [AOp.regs] at h
    simp only [AOp.form] at e ⊢
    cases hv : a.ev (E.nv t cs) with
    | none => rw [hv] at e; cases e
    | some y =>
      rw [hv] at e
      obtain ⟨h1, h2⟩ := AO.ev_nv h hv
      rw [h1]
      refine ⟨e, ?_⟩
      cases y with
      | p t' o => simp only [Option.some.injEq] at e; subst e; exact h2
      | v x => cases x with
        | pointer ad => cases ad with
          | none => cases e
          | some ad => simp only [Option.some.injEq] at e; subst e; trivial
        | _ => cases e
  | nc a =>
    simp only [AOp.regs] at h
    simp only [AOp.form] at e ⊢
    cases hv : a.ev (E.nv t cs) with
    | none => rw [hv] at e; cases e
    | some y =>
      rw [hv] at e
      obtain ⟨h1, h2⟩ := AO.ev_nv h hv
      rw [h1]
      refine ⟨e, ?_⟩
      cases y with
      | p t' o => simp only [Option.some.injEq] at e; subst e; exact h2
      | v x => cases x with
        | pointer ad => cases ad with
          | none => cases e
          | some ad => simp only [Option.some.injEq] at e; subst e; trivial
        | _ => cases e
  | lv n agg root a =>
    simp only [AOp.regs] at h
    simp only [AOp.form] at e ⊢
    cases hv : a.ev (E.nv t cs) with
    | none => rw [hv] at e; cases e
    | some y =>
      rw [hv] at e
      obtain ⟨h1, h2⟩ := AO.ev_nv h hv
      rw [h1]
      cases y with
      | p t' o =>
        have : (E.nv t cs).x t' = E.x t' := upd_ne _ _ h2
        simp only [this] at e
        refine ⟨e, ?_⟩
        cases hx : E.x t' with
        | none => simp only [hx] at e; cases e
        | some c =>
          simp only [hx] at e
          (repeat' split at e) <;> first | (cases e; done) | (simp only [Option.some.injEq] at e; subst e; trivial)
      | v x => cases e
  | sl sz a lo hi m3 =>
    simp only [AOp.regs, List.mem_append, not_or] at h
    simp only [AOp.form] at e ⊢
    cases hv : a.val (E.nv t cs) with
    | none => rw [hv] at e; cases e
    | some v =>
      rw [hv] at e
      rw [AO.val_nv h.1.1.1 hv]
      simp only [Option.map_eq_some_iff] at e ⊢
      obtain ⟨z, hz, rfl⟩ := e
      refine ⟨⟨z, ?_, rfl⟩, trivial⟩
      cases v with
      | slice b len cap =>
        simp only [slV] at hz ⊢
        cases h3 : bnd (E.nv t cs) m3 cap cap with
        | none => simp only [h3] at hz; cases hz
        | some m =>
          simp only [h3] at hz; simp only [bnd_nv h.2 h3]
          cases h2 : bnd (E.nv t cs) hi len m with
          | none => simp only [h2] at hz; cases hz
          | some hh =>
            simp only [h2] at hz; simp only [bnd_nv h.1.2 h2]
            cases h1 : bnd (E.nv t cs) lo 0 hh with
            | none => simp only [h1] at hz; cases hz
            | some l => simp only [h1] at hz; simp only [bnd_nv h.1.1.2 h1]; exact hz
      | _ => cases hz
  | bd z ps =>
    simp only [AOp.regs] at h
    simp only [AOp.form] at e ⊢
    cases hv : parts3 (E.nv t cs) ps with
    | none => rw [hv] at e; cases e
    | some v => rw [hv] at e; rw [parts3_nv h hv]; simp only [Option.map_eq_some_iff] at e ⊢; obtain ⟨q, hq, rfl⟩ := e; exact ⟨⟨q, hq, rfl⟩, trivial⟩
  | bs ty sz n z ps =>
    simp only [AOp.regs] at h
    simp only [AOp.form] at e ⊢
    cases hv : parts2 (E.nv t cs) sz ps with
    | none => rw [hv] at e; cases e
    | some v => rw [hv] at e; rw [parts2_nv h hv]; simp only [Option.map_eq_some_iff] at e ⊢; obtain ⟨q, hq, rfl⟩ := e; exact ⟨⟨q, hq, rfl⟩, trivial⟩
  | mn l | mx l =>
    simp only [AOp.regs] at h
    simp only [AOp.form] at e ⊢
    cases hv : vals (E.nv t cs) l with
    | none => rw [hv] at e; cases e
    | some v => rw [hv] at e; rw [vals_nv h hv]; simp only [Option.map_eq_some_iff] at e ⊢; obtain ⟨q, hq, rfl⟩ := e; exact ⟨⟨q, hq, rfl⟩, trivial⟩
  | mf g l | ca g l =>
    simp only [AOp.regs] at h
    simp only [AOp.form] at e ⊢
    cases hv : vals (E.nv t cs) l with
    | none => rw [hv] at e; cases e
    | some v => rw [hv] at e; rw [vals_nv h hv]; simp only [Option.some.injEq] at e ⊢; subst e; exact ⟨rfl, trivial⟩
  | cf a l =>
    simp only [AOp.regs, List.mem_append, not_or] at h
    simp only [AOp.form] at e ⊢
    cases hv : a.val (E.nv t cs) with
    | none => rw [hv] at e; cases e
    | some v =>
      rw [hv] at e
      rw [AO.val_nv h.1 hv]
      cases hl : vals (E.nv t cs) l with
      | none => simp only [hl] at e; split at e <;> cases e
      | some us =>
        simp only [hl] at e; simp only [vals_nv h.2 hl]
        refine ⟨e, ?_⟩
        split at e
        · split at e
          · simp only [Option.some.injEq] at e; subst e; trivial
          · cases e
        · cases e
  | sv n root a x => exact absurd rfl hc
  | nz c => simp only [AOp.form, Option.some.injEq] at e ⊢; subst e; exact ⟨rfl, trivial⟩
  | hz ty c => simp only [AOp.form, Option.some.injEq] at e ⊢; subst e; exact ⟨rfl, trivial⟩
  | bi op a b | eb ng a b | es ng a b | eg ng nn a b | ia sz a b | st n a b | ms ty sz by_ z a b | ap ty sz by_ z a b | cy sz a b =>
    simp only [AOp.regs, List.mem_append, not_or] at h
    simp only [AOp.form] at e ⊢
    cases hv : a.val (E.nv t cs) with
    | none => rw [hv] at e; cases e
    | some v =>
      rw [hv] at e
      rw [AO.val_nv h.1 hv]
      cases hw : b.val (E.nv t cs) with
      | none => simp only [hw] at e; (repeat' split at e) <;> cases e
      | some u =>
        simp only [hw] at e; simp only [AO.val_nv h.2 hw]
        refine ⟨e, ?_⟩
        (repeat' split at e) <;> first | (cases e; done) | (simp only [Option.map_eq_some_iff, Option.some.injEq] at e; (first | subst e | obtain ⟨_, _, rfl⟩ := e); trivial)
  | _ =>
    rename_i a
    simp only [AOp.regs] at h
    simp only [AOp.form] at e ⊢
    cases hv : AO.val (E.nv t cs) (by assumption) with
    | none => rw [hv] at e; cases e
    | some v =>
      rw [hv] at e
      rw [AO.val_nv h hv]
      refine ⟨e, ?_⟩
      (repeat' split at e) <;> first | (cases e; done) | (simp only [Option.map_eq_some_iff, Option.some.injEq] at e; (first | subst e | obtain ⟨_, _, rfl⟩ := e); trivial)
end Go.HL
namespace Go.HL
open Go Go.RowKit
set_option linter.unusedVariables false
set_option linter.unusedSimpArgs false
variable {P : Program}

theorem Form.W_mono {d : Option Nat} {x : Bool} {E : Env} {H : Hp} {K K' : Env → Hp → Prop} {F : Form} (h : F.W P d x E H K) (k : ∀ E H, K E H → K' E H) : F.W P d x E H K' := by
  cases F with
  | pv y => exact k _ _ h
  | nv cs => cases d with
    | none => exact h
    | some t => exact k _ _ h
  | sv t cs => exact ⟨h.1, k _ _ h.2⟩
  | lh a n agg => obtain ⟨vs, h1, h2, h3⟩ := h; exact ⟨vs, h1, h2, k _ _ h3⟩
  | sh a vs => obtain ⟨h0, cs, t, h1, h2, h3, h4⟩ := h; exact ⟨h0, cs, t, h1, h2, h3, k _ _ h4⟩
  | al t cs len => exact fun b hb => k _ _ (h b hb)
  | ca g l => exact CallR.mono h fun v H' ⟨h1, h2⟩ => ⟨h1, k _ _ h2⟩
  | ap t sz bytes base n cap src m =>
    obtain ⟨news, h1, h2, h3, h4, h5⟩ := h
    refine ⟨news, h1, h2, h3, h4, ?_⟩
    split
    · rename_i hc
      rw [if_pos hc] at h5
      rcases h5 with ⟨h5, h6⟩ | ⟨a, cs, t', h5, h6, h7, h8, h9, h10⟩
      · exact .inl ⟨h5, k _ _ h6⟩
      · exact .inr ⟨a, cs, t', h5, h6, h7, h8, h9, k _ _ h10⟩
    · rename_i hc
      rw [if_neg hc] at h5
      obtain ⟨olds, h6, h7, h8⟩ := h5
      exact ⟨olds, h6, h7, fun b c r p1 p2 p3 p4 => k _ _ (h8 b c r p1 p2 p3 p4)⟩
  | cy sz base n src m =>
    obtain ⟨news, h1, h2, h3⟩ := h
    refine ⟨news, h1, h2, ?_⟩
    rcases h3 with ⟨h5, h6⟩ | ⟨a, cs, t', h5, h6, h7, h8, h9, h10⟩
    · exact .inl ⟨h5, k _ _ h6⟩
    · exact .inr ⟨a, cs, t', h5, h6, h7, h8, h9, k _ _ h10⟩
  | cl base vs =>
    rcases h with ⟨h5, h6⟩ | ⟨a, cs, t', h5, h6, h7, h8, h9, h10⟩
    · exact .inl ⟨h5, k _ _ h6⟩
    · exact .inr ⟨a, cs, t', h5, h6, h7, h8, h9, k _ _ h10⟩
theorem AOper.W_def {o : AOper} {E : Env} {H : Hp} {K : Env → Hp → Prop} : o.W P E H K ↔ ∃ F, o.form E = some F ∧ F.W P o.d o.x E H K := by
  unfold AOper.W
  cases o.form E with
  | none => simp
  | some F => simp
theorem AOper.W_mono {o : AOper} {E : Env} {H : Hp} {K K' : Env → Hp → Prop} (h : o.W P E H K) (k : ∀ E H, K E H → K' E H) : o.W P E H K' := by
  rw [AOper.W_def] at *
  obtain ⟨F, e, h⟩ := h
  exact ⟨F, e, Form.W_mono h k⟩
theorem WL_mono : ∀ {l : List AOper} {E : Env} {H : Hp} {K K' : Env → Hp → Prop}, WL P l E H K → (∀ E H, K E H → K' E H) → WL P l E H K'
  | [], _, _, _, _, h, k => k _ _ h
  | _ :: l, _, _, _, _, h, k => AOper.W_mono h fun _ _ h' => WL_mono (l := l) h' k

theorem put_r {E : Env} {d : Option Nat} {y : AV} {s : Nat} (h : d ≠ some s) : (E.put d y).r s = E.r s := by
  cases d with
  | none => rfl
  | some t => exact upd_ne _ _ (fun e => h (by rw [e]))
theorem put_x {E : Env} {d : Option Nat} {y : AV} : (E.put d y).x = E.x := by cases d <;> rfl
theorem put_comm {E : Env} {d e : Option Nat} {y z : AV} (h : ∀ t, d = some t → e ≠ some t) : (E.put d y).put e z = (E.put e z).put d y := by
  cases d with
  | none => rfl
  | some t =>
    cases e with
    | none => rfl
    | some s =>
      have hne : t ≠ s := fun e' => h t rfl (by rw [e'])
      simp only [Env.put, upd_comm E.r (some y) (some z) hne]
theorem put_nv {E : Env} {t : Nat} {cs : List Value} {e : Option Nat} {z : AV} (h : e ≠ some t) (hz : z.no t) : (E.nv t cs).put e z = (E.put e z).nv t cs := by
  cases e with
  | none => rfl
  | some s =>
    have hne : s ≠ t := fun e' => h (by rw [e'])
    simp only [Env.put, Env.nv, Env.mk.injEq, and_true]
    funext i
    simp only [upd]
    by_cases h1 : i = s
    · subst h1
      simp only [if_true, hne, if_false]
      cases z with
      | v _ => rfl
      | p t' o => simp only [dropP]; rw [if_neg hz]
    · simp [h1]
theorem nv_nv {E : Env} {t s : Nat} {cs cs' : List Value} (h : t ≠ s) : (E.nv t cs).nv s cs' = (E.nv s cs').nv t cs := by
  simp only [Env.nv, Env.mk.injEq]
  refine ⟨?_, upd_comm E.x _ _ h⟩
  funext i
  simp only [upd]
  by_cases h1 : i = s
  · subst h1
    simp only [if_true, Ne.symm h, if_false]
    simp only [dropP]
    rw [if_neg (Ne.symm h)]
  · by_cases h2 : i = t
    · subst h2
      simp only [h1, if_true, if_false]
      simp only [dropP]
      rw [if_neg h]
    · simp only [h1, h2, if_false]
      cases E.r i with
      | none => rfl
      | some z => cases z with
        | v _ => rfl
        | p t' o =>
          simp only [dropP]
          by_cases h3 : t' = t <;> by_cases h4 : t' = s <;> simp [h3, h4, dropP, h, Ne.symm h]
          all_goals first | (split <;> simp_all) | simp_all

def Env.same (d : Option Nat) (E E' : Env) : Prop := E'.x = E.x ∧ ∀ t, d ≠ some t → E'.r t = E.r t

theorem put_sv {E : Env} {d : Option Nat} {y : AV} {t : Nat} {cs : List Value} : (E.put d y).sv t cs = (E.sv t cs).put d y := by cases d <;> rfl
/-- Behind an operation of another kind than 2 the slots are the same but for its own, the variables but for the one that it writes; what was known of memory is known yet. -/
theorem Form.W_strong {d : Option Nat} {x : Bool} {E : Env} {H : Hp} {K : Env → Hp → Prop} {F : Form} (h2 : F.kind ≠ 2) (h : F.W P d x E H K) :
    F.W P d x E H fun E' H' => (E.same d E' ∨ ∃ t cs, F = .sv t cs ∧ E' = E.sv t cs) ∧ (F.kind ≠ 5 → (F.kind = 7 → x = true) → H.le H') ∧ K E' H' := by
  have sm : ∀ y, E.same d (E.put d y) := fun y => ⟨put_x, fun t ht => put_r ht⟩
  cases F with
  | pv y => exact ⟨.inl (sm _), fun _ _ => Hp.le.refl _, h⟩
  | nv cs => exact absurd rfl h2
  | sv t cs => exact ⟨h.1, .inr ⟨t, cs, rfl, rfl⟩, fun _ _ => Hp.le.refl _, h.2⟩
  | lh a n agg => obtain ⟨vs, h1, h2, h3⟩ := h; exact ⟨vs, h1, h2, .inl (sm _), fun _ _ => Hp.le.refl _, h3⟩
  | sh a vs => obtain ⟨h0, cs, t, h1, h2, h3, h4⟩ := h; exact ⟨h0, cs, t, h1, h2, h3, .inl ⟨rfl, fun _ _ => rfl⟩, fun q => absurd rfl q, h4⟩
  | al t cs len => exact fun b hb => ⟨.inl (sm _), fun _ _ => hb.le _, h b hb⟩
  | ca g l => exact CallR.mono h fun v H' ⟨h1, h2⟩ => ⟨h1, .inl (sm _), fun _ hx => h1 (hx rfl), h2⟩
  | ap t sz bytes base n cap src m =>
    obtain ⟨news, h1, h2, h3, h4, h5⟩ := h
    refine ⟨news, h1, h2, h3, h4, ?_⟩
    split
    · rename_i hc
      rw [if_pos hc] at h5
      rcases h5 with ⟨h5, h6⟩ | ⟨a, cs, t', h5, h6, h7, h8, h9, h10⟩
      · exact .inl ⟨h5, .inl (sm _), fun q => absurd rfl q, h6⟩
      · exact .inr ⟨a, cs, t', h5, h6, h7, h8, h9, .inl (sm _), fun q => absurd rfl q, h10⟩
    · rename_i hc
      rw [if_neg hc] at h5
      obtain ⟨olds, h6, h7, h8⟩ := h5
      exact ⟨olds, h6, h7, fun b c r p1 p2 p3 p4 => ⟨.inl (sm _), fun q => absurd rfl q, h8 b c r p1 p2 p3 p4⟩⟩
  | cy sz base n src m =>
    obtain ⟨news, h1, h2, h3⟩ := h
    refine ⟨news, h1, h2, ?_⟩
    rcases h3 with ⟨h5, h6⟩ | ⟨a, cs, t', h5, h6, h7, h8, h9, h10⟩
    · exact .inl ⟨h5, .inl (sm _), fun q => absurd rfl q, h6⟩
    · exact .inr ⟨a, cs, t', h5, h6, h7, h8, h9, .inl (sm _), fun q => absurd rfl q, h10⟩
  | cl base vs =>
    rcases h with ⟨h5, h6⟩ | ⟨a, cs, t', h5, h6, h7, h8, h9, h10⟩
    · exact .inl ⟨h5, .inl (sm _), fun q => absurd rfl q, h6⟩
    · exact .inr ⟨a, cs, t', h5, h6, h7, h8, h9, .inl (sm _), fun q => absurd rfl q, h10⟩

theorem Form.W_put {d e : Option Nat} {x : Bool} {E : Env} {H : Hp} {K : Env → Hp → Prop} {F : Form} {y : AV} (hd : ∀ t, d = some t → e ≠ some t) (h2 : F.kind ≠ 2) :
    F.W P e x (E.put d y) H K ↔ F.W P e x E H fun E' H' => K (E'.put d y) H' := by
  have hc : ∀ z, (E.put d y).put e z = (E.put e z).put d y := fun z => put_comm hd
  cases F with
  | nv cs => exact absurd rfl h2
  | sv t cs => simp only [Form.W, put_sv]
  | _ => simp only [Form.W, hc]
theorem Form.W_nv {t : Nat} {e : Option Nat} {x : Bool} {E : Env} {H : Hp} {K : Env → Hp → Prop} {F : Form} {cs : List Value} (hd : e ≠ some t) (hn : F.no t) (h3 : F.kind ≠ 3) (h5 : F.kind ≠ 5)
    (h : F.W P e x (E.nv t cs) H K) : F.W P e x E H fun E' H' => K (E'.nv t cs) H' := by
  cases F with
  | pv z => simp only [Form.W] at h ⊢; rw [← put_nv hd hn]; exact h
  | nv cs' =>
    cases e with
    | none => exact h
    | some s =>
      simp only [Form.W] at h ⊢
      rw [← nv_nv (fun e' => hd (by rw [e']))]; exact h
  | lh a n agg =>
    obtain ⟨vs, h1, h2, h3⟩ := h
    refine ⟨vs, h1, h2, ?_⟩
    rw [put_nv (z := .v _) hd trivial] at h3; exact h3
  | al ty cs' len =>
    intro b hb
    have := h b hb
    rw [put_nv (z := .v _) hd trivial] at this
    exact this
  | ca g l =>
    refine CallR.mono h fun v H' ⟨h1, h2⟩ => ⟨h1, ?_⟩
    rw [put_nv (z := .v _) hd trivial] at h2
    exact h2
  | _ => simp_all [Form.kind]

/-- Which classes may be swapped: the first ahead of the second, told in this order, may come up in the other. -/
def okCls (y x : Nat) (ext : Bool) : Bool :=
  match y, x with
  | 2, 0 | 2, 1 | 2, 2 | 2, 4 | 2, 6 | 2, 7 => true
  | 0, 0 | 0, 1 | 0, 4 | 0, 6 | 0, 7 | 0, 3 | 0, 5 => true
  | 1, 0 | 1, 1 | 1, 4 | 1, 6 | 1, 7 | 1, 3 => true
  | 3, 0 | 3, 1 => true
  | 4, 0 | 4, 1 | 4, 4 | 4, 6 | 4, 3 => true
  | 4, 7 => ext
  | 6, 0 | 6, 1 | 6, 6 => true
  | 7, 6 => true
  | _, _ => false
def AOp.root : AOp → Option Nat
  | .lv _ _ r _ => some r
  | .sv _ r _ _ => some r
  | _ => none
/-- One reads a variable, the other writes one: not the same. -/
def rootsOk (y x : AOp) : Bool := match y.cls, x.cls with
  | 1, 3 | 3, 1 => y.root != x.root
  | _, _ => true
theorem okCls6 {x : Nat} {e : Bool} (h : okCls 6 x e = true) : x = 0 ∨ x = 1 ∨ x = 6 := by
  unfold okCls at h
  split at h <;> simp_all
theorem okCls3 {x : Nat} {e : Bool} (h : okCls 3 x e = true) : x = 0 ∨ x = 1 := by
  unfold okCls at h
  split at h <;> simp_all
theorem okCls5 {x : Nat} {e : Bool} : ¬ okCls 5 x e = true := by
  intro h
  unfold okCls at h
  split at h <;> simp_all
theorem okCls7 {x : Nat} {e : Bool} (h : okCls 7 x e = true) : x = 6 := by
  unfold okCls at h
  split at h <;> simp_all
def AOper.plainAl (o : AOper) : Bool := match o.op, o.g with
  | .hz _ _, none => true
  | .bs _ _ _ _ [], none => true
  | _, _ => false
theorem plainAl_form {o : AOper} (h : o.plainAl = true) : ∃ t cs len, ∀ E, o.form E = some (.al t cs len) := by
  unfold AOper.plainAl at h
  split at h
  · rename_i t cs h1 h2
    exact ⟨t, cs, none, fun E => by simp only [AOper.form, h2, h1, AOp.form]⟩
  · rename_i t sz len zero h1 h2
    exact ⟨t, (List.replicate len zero).flatten, some len, fun E => by simp only [AOper.form, h2, h1, AOp.form, parts2, fillL, Option.map_some]⟩
  · cases h
def AOper.plainNz (o : AOper) : Bool := match o.op, o.g, o.d with
  | .nz _, none, some _ => true
  | _, _, _ => false
def okPair (y x : AOper) : Bool :=
  okCls y.op.cls x.op.cls x.x && (match y.d with | some d => !x.regs.contains d && (x.d != some d) | none => true) &&
  (match x.d with | some d => !y.regs.contains d | none => true) && (y.op.cls != 2 || y.plainNz) && (x.op.cls != 2 || x.plainNz) && (y.op.cls != 7 || x.plainAl) && rootsOk y.op x.op

theorem plainNz_form {o : AOper} (h : o.plainNz = true) : ∃ t cs, o.d = some t ∧ ∀ E, o.form E = some (.nv cs) := by
  unfold AOper.plainNz at h
  split at h
  · rename_i cs t h1 h2 h3
    exact ⟨t, cs, h3, fun E => by simp only [AOper.form, h2, h1, AOp.form]⟩
  · cases h
theorem AOper.form_nv {E : Env} {o : AOper} {t : Nat} {cs : List Value} {F : Form} (h : t ∉ o.regs) (hc : o.op.cls ≠ 3) (ex : o.form (E.nv t cs) = some F) : o.form E = some F ∧ F.no t := by
  unfold AOper.form at ex ⊢
  unfold AOper.regs at h
  cases hg : o.g with
  | none =>
    simp only [hg] at ex h ⊢
    exact AOp.form_nv (by simpa using h) hc ex
  | some q =>
    obtain ⟨s, b⟩ := q
    simp only [hg, List.mem_append, List.mem_singleton, not_or] at ex h ⊢
    cases hr : (E.nv t cs).r s with
    | none => rw [hr] at ex; cases ex
    | some z =>
      rw [hr] at ex
      rw [(nv_r (Ne.symm h.1) hr).1]
      cases z with
      | p _ _ => cases ex
      | v u => cases u with
        | bool c =>
          simp only at ex ⊢
          split at ex
          · rename_i hcb; simp only [hcb, if_true]; exact AOp.form_nv h.2 hc ex
          · rename_i hcb; simp only [hcb, if_false]
            refine ⟨ex, ?_⟩
            simp only [Option.some.injEq] at ex; subst ex; trivial
        | _ => simp only [Option.some.injEq] at ex; subst ex; exact ⟨rfl, trivial⟩

theorem form_sv {E : Env} {o : AOper} {t : Nat} {cs : List Value} (h : o.op.cls ≠ 1 ∧ o.op.cls ≠ 3 ∨ o.op.cls = 1 ∧ o.op.root ≠ some t) : o.form (E.sv t cs) = o.form E := by
  have key : o.op.form (E.sv t cs) = o.op.form E := by
    rcases h with ⟨h1, h3⟩ | ⟨h1, hr⟩
    · have e1 : ∀ a : AO, a.ev (E.sv t cs) = a.ev E := fun a => by cases a <;> rfl
      have e2 : ∀ a : AO, a.val (E.sv t cs) = a.val E := fun a => by simp only [AO.val, e1]
      have e3 : ∀ l, vals (E.sv t cs) l = vals E l := fun l => vals_congr (fun _ _ => rfl)
      have e4 : ∀ l, parts3 (E.sv t cs) l = parts3 E l := fun l => parts3_congr (fun _ _ => rfl)
      have e5 : ∀ sz l, parts2 (E.sv t cs) sz l = parts2 E sz l := fun sz l => parts2_congr (fun _ _ => rfl)
      have e6 : ∀ x d l, bnd (E.sv t cs) x d l = bnd E x d l := fun x d l => bnd_congr (fun _ _ => rfl)
      cases ho : o.op <;> simp only [ho, AOp.cls] at h1 h3 <;> simp only [AOp.form, e1, e2, e3, e4, e5, slV, e6] <;> first | rfl | exact absurd rfl h1 | exact absurd rfl h3
    · cases ho : o.op <;> simp only [ho, AOp.cls] at h1 <;> first | (cases h1; done) | skip
      rename_i n agg root a
      simp only [ho, AOp.root] at hr
      simp only [AOp.form]
      have e1 : a.ev (E.sv t cs) = a.ev E := by cases a <;> rfl
      rw [e1]
      split
      · rename_i t' off hv
        by_cases e : t' = t
        · subst e
          have hne : ¬ t' = root := fun e => hr (by rw [e])
          have hx : (E.sv t' cs).x t' = some cs := upd_eq _ _ _
          rw [hx]
          simp only [hne, if_false]
          cases E.x t' <;> rfl
        · have hx : (E.sv t cs).x t' = E.x t' := upd_ne _ _ e
          rw [hx]
      · rfl
  unfold AOper.form
  rw [key]
  rfl
theorem sv_root {E : Env} {o : AOper} {t : Nat} {cs : List Value} (h : o.form E = some (.sv t cs)) : o.op.cls = 3 ∧ o.op.root = some t := by
  have key : ∀ {p : AOp}, p.form E = some (.sv t cs) → p.cls = 3 ∧ p.root = some t := fun {p} hf => by
    have hk := AOp.form_kind hf
    have hc : p.cls = 3 := by
      rcases hk with h | h
      · cases h
      · exact h.symm
    refine ⟨hc, ?_⟩
    cases p <;> simp only [AOp.cls] at hc <;> first | (cases hc; done) | skip
    simp only [AOp.form] at hf
    split at hf
    case h_2 => cases hf
    split at hf
    case h_2 => cases hf
    split at hf
    case h_2 => cases hf
    split at hf
    case isFalse => cases hf
    rename_i hh
    split at hf
    case h_2 => cases hf
    simp only [Option.some.injEq, Form.sv.injEq] at hf
    simp only [AOp.root]
    rw [← hf.1, hh.2.2]
  unfold AOper.form at h
  split at h
  · exact key h
  · split at h
    · split at h
      · exact key h
      · cases h
    · cases h
    · cases h

theorem swap {y x : AOper} {E : Env} {H : Hp} {K : Env → Hp → Prop} (hp : okPair y x = true) (h : y.W P E H fun E1 H1 => x.W P E1 H1 K) : x.W P E H fun E1 H1 => y.W P E1 H1 K := by
  unfold okPair at hp
  simp only [Bool.and_eq_true] at hp
  obtain ⟨⟨⟨⟨⟨⟨hcls, hyd⟩, hxd⟩, hy2⟩, hx2⟩, hy7⟩, hroot⟩ := hp
  have hd1 : ∀ t, y.d = some t → x.d ≠ some t ∧ t ∉ x.regs := fun t ht => by
    simp only [ht, Bool.and_eq_true, Bool.not_eq_true', bne_iff_ne, ne_eq] at hyd
    refine ⟨hyd.2, fun hm => ?_⟩
    have := hyd.1
    simp [List.contains_iff_mem, hm] at this
  have hd2 : ∀ t, x.d = some t → t ∉ y.regs := fun t ht hm => by
    simp only [ht, Bool.not_eq_true'] at hxd
    simp [List.contains_iff_mem, hm] at hxd
  have kk : ∀ {o : AOper} {E : Env} {F : Form} {n : Nat}, n ≠ 0 → o.form E = some F → o.op.cls ≠ n → F.kind ≠ n := fun hn e hc => by
    rcases AOper.form_kind e with h | h
    · rw [h]; exact Ne.symm hn
    · rw [h]; exact hc
  rw [AOper.W_def] at h
  obtain ⟨Fy, ey, h⟩ := h
  by_cases hy : y.op.cls = 2
  · simp only [hy, bne_self_eq_false, Bool.false_or] at hy2
    have hn3 : x.op.cls ≠ 3 := fun e => by rw [hy, e] at hcls; cases hcls
    have hn5 : x.op.cls ≠ 5 := fun e => by rw [hy, e] at hcls; cases hcls
    obtain ⟨t, cs, ht, hform⟩ := plainNz_form hy2
    obtain rfl : Form.nv cs = Fy := Option.some.inj ((hform E).symm.trans ey)
    simp only [Form.W, ht] at h
    rw [AOper.W_def] at h
    obtain ⟨Fx, ex, h⟩ := h
    obtain ⟨hx1, hx3⟩ := hd1 t ht
    have hfx := AOper.form_nv hx3 hn3 ex
    rw [AOper.W_def]
    refine ⟨Fx, hfx.1, Form.W_mono (Form.W_nv hx1 hfx.2 (kk (by decide) ex hn3) (kk (by decide) ex hn5) h) fun E1 H1 h1 => ?_⟩
    rw [AOper.W_def]
    exact ⟨_, hform E1, by simp only [Form.W, ht]; exact h1⟩
  · have hx : x.op.cls ≠ 2 := fun e => by
      rw [e] at hcls
      unfold okCls at hcls
      split at hcls <;> simp_all
    have yk2 := kk (by decide) ey hy
    -- how the second one's effect leaves the first one's form
    have ycong : ∀ {Fx : Form} {E1 : Env}, x.form E = some Fx → (E.same x.d E1 ∨ ∃ t cs, Fx = .sv t cs ∧ E1 = E.sv t cs) → y.form E1 = some Fy := fun {Fx E1} ex hs => by
      rcases hs with hs | ⟨t, cs, rfl, rfl⟩
      · rw [← ey]
        exact AOper.form_congr (fun t ht => hs.2 t (fun e => hd2 t e ht)) hs.1
      · rw [← ey]
        obtain ⟨hc3, hr3⟩ := sv_root ex
        refine form_sv ?_
        rw [hc3] at hcls
        by_cases h1 : y.op.cls = 1
        · refine .inr ⟨h1, fun e => ?_⟩
          simp only [rootsOk, h1, hc3, bne_iff_ne, ne_eq] at hroot
          exact hroot (e.trans hr3.symm)
        · refine .inl ⟨h1, fun e => ?_⟩
          rw [e] at hcls; cases hcls
    have xcong : ∀ v, x.form (E.put y.d v) = x.form E := fun v => by
      refine AOper.form_congr (fun t ht => put_r (fun e => (hd1 t e).2 ht)) put_x
    have comm : ∀ t, y.d = some t → x.d ≠ some t := fun t ht => (hd1 t ht).1
    have fin : ∀ {Fx : Form} {K' : Env → Hp → Prop}, x.form E = some Fx → (∀ E1 H1, (Fx.kind ≠ 5 → (Fx.kind = 7 → x.x = true) → H.le H1) → K' E1 H1 → Fy.W P y.d y.x E1 H1 K) → Fx.W P x.d x.x E H K' →
        x.W P E H fun E1 H1 => y.W P E1 H1 K := fun {Fx K'} ex hh hw => by
      rw [AOper.W_def]
      refine ⟨Fx, ex, Form.W_mono (Form.W_strong (kk (by decide) ex hx) hw) fun E1 H1 ⟨hs, hl, hk⟩ => ?_⟩
      rw [AOper.W_def]
      exact ⟨Fy, ycong ex hs, hh E1 H1 hl hk⟩
    have getx : ∀ {v : AV} {H1 : Hp} {K : Env → Hp → Prop}, x.W P (E.put y.d v) H1 K → ∃ Fx, x.form E = some Fx ∧ Fx.W P x.d x.x E H1 fun E' H' => K (E'.put y.d v) H' := fun {v H1 K} hw => by
      rw [AOper.W_def] at hw
      obtain ⟨Fx, ex, hw⟩ := hw
      rw [xcong] at ex
      exact ⟨Fx, ex, (Form.W_put comm (kk (by decide) ex hx)).1 hw⟩
    have ky := AOper.form_kind ey
    cases Fy with
    | pv v =>
      obtain ⟨Fx, ex, hw⟩ := getx h
      exact fin ex (fun E1 H1 _ hk => hk) hw
    | sv t cs =>
      obtain ⟨hc3, hr3⟩ := sv_root ey
      have hxc : x.op.cls = 0 ∨ x.op.cls = 1 := by
        rw [hc3] at hcls
        exact okCls3 hcls
      obtain ⟨hdn, hw⟩ := h
      rw [AOper.W_def] at hw
      obtain ⟨Fx, ex, hw⟩ := hw
      have hxf : x.form (E.sv t cs) = x.form E := form_sv (by
        rcases hxc with h0 | h1
        · exact .inl (by rw [h0]; exact ⟨by decide, by decide⟩)
        · refine .inr ⟨h1, fun e => ?_⟩
          simp only [rootsOk, h1, hc3, bne_iff_ne, ne_eq] at hroot
          exact hroot (hr3.trans e.symm))
      rw [hxf] at ex
      have hk0 : Fx.kind = 0 := by
        rcases AOper.form_kind ex with e | e
        · exact e
        · rcases hxc with h0 | h1
          · rw [e, h0]
          · rw [h1] at e; exact absurd e (by cases Fx <;> simp [Form.kind])
      cases Fx with
      | pv v =>
        refine fin ex (K' := fun E1 H1 => E1 = E.put x.d v ∧ H1 = H) (fun E1 H1 _ hk => ?_) ⟨rfl, rfl⟩
        obtain ⟨rfl, rfl⟩ := hk
        refine ⟨hdn, ?_⟩
        rw [put_sv]; exact hw
      | _ => simp [Form.kind] at hk0
    | lh a n agg =>
      obtain ⟨vs, h1, h2, h3⟩ := h
      obtain ⟨Fx, ex, hw⟩ := getx h3
      have hyc : y.op.cls = 4 := by
        rcases ky with e | e
        · cases e
        · exact e.symm
      refine fin ex (fun E1 H1 hl hk => ⟨vs, h1, fun i u hu => (hl (kk (by decide) ex (fun e => by rw [hyc, e] at hcls; cases hcls)) ?_).has (h2 i u hu), hk⟩) hw
      intro hk7
      have hxc : x.op.cls = 7 := by
        rcases AOper.form_kind ex with e | e
        · rw [hk7] at e; cases e
        · rw [← e]; exact hk7
      rw [hyc, hxc] at hcls
      exact hcls
    | al t cs len =>
      have hyc : y.op.cls = 6 := by
        rcases ky with e | e
        · cases e
        · exact e.symm
      have hxc : x.op.cls = 0 ∨ x.op.cls = 1 ∨ x.op.cls = 6 := okCls6 (by rw [hyc] at hcls; exact hcls)
      obtain ⟨Fx, ex, hw0⟩ := getx (h H.lim H.fresh_ex)
      have hkx : Fx.kind = 0 ∨ Fx.kind = 6 := by
        rcases AOper.form_kind ex with e | e
        · exact .inl e
        · rcases hxc with c | c | c <;> rw [c] at e
          · exact .inl e
          · exact absurd e (by cases Fx <;> simp [Form.kind])
          · exact .inr e
      have all : ∀ b, H.Fresh b → Fx.W P x.d x.x E (H.set b (cs, t)) fun E' H' => K (E'.put y.d (.v (alV len b))) H' := fun b hb => by
        obtain ⟨Fx', ex', hw⟩ := getx (h b hb)
        obtain rfl : Fx = Fx' := Option.some.inj (ex.symm.trans ex')
        exact hw
      cases Fx with
      | pv z => exact fin ex (fun E1 H1 _ hk => hk) (K' := fun E1 H1 => Form.W P y.d y.x E1 H1 K (.al t cs len)) (fun b hb => all b hb)
      | al t' cs' len' =>
        refine fin ex (fun E1 H1 _ hk => hk) (K' := fun E1 H1 => Form.W P y.d y.x E1 H1 K (.al t cs len)) (fun b' hb' b hb => ?_)
        obtain ⟨hb1, hne⟩ := Hp.Fresh.set_iff.1 hb
        have := all b hb1 b' (Hp.Fresh.set_iff.2 ⟨hb', Ne.symm hne⟩)
        rw [Hp.set_comm _ _ _ hne] at this
        exact this
      | _ => simp [Form.kind] at hkx
    | ca g l =>
      have hyc : y.op.cls = 7 := by
        rcases ky with e | e
        · cases e
        · exact e.symm
      simp only [hyc, bne_self_eq_false, Bool.false_or] at hy7
      obtain ⟨t, cs, len, hform⟩ := plainAl_form hy7
      rw [AOper.W_def]
      refine ⟨_, hform E, fun b hb => ?_⟩
      show y.W P _ _ K
      rw [AOper.W_def]
      refine ⟨_, ycong (hform E) (.inl ⟨put_x, fun s hs => put_r hs⟩), ?_⟩
      refine CallR.mono (CallR.frame h hb (cs, t)) fun v H' ⟨H1, e1, hf1, hl, hw⟩ => ?_
      subst e1
      refine ⟨fun hx => ?_, ?_⟩
      · obtain ⟨l1, l2⟩ := hl hx
        refine ⟨l1, fun b' z hz => ?_⟩
        simp only [Hp.set, upd] at hz ⊢
        split
        · rename_i hbb; rw [if_pos hbb] at hz; exact hz
        · rename_i hbb; rw [if_neg hbb] at hz; exact l2 b' z hz
      · replace hw : x.W P (E.put y.d (.v v)) H1 K := hw
        rw [AOper.W_def] at hw
        obtain ⟨Fx, ex, hw⟩ := hw
        obtain rfl : Form.al t cs len = Fx := Option.some.inj ((hform _).symm.trans ex)
        have := hw b hf1
        rw [put_comm (fun t ht => (comm t ht))] at this
        exact this
    | nv cs => exact absurd rfl yk2
    | sh a vs => rcases ky with e | e <;> first | (cases e; done) | (rw [show y.op.cls = 5 from e.symm] at hcls; exact absurd hcls okCls5)
    | ap => rcases ky with e | e <;> first | (cases e; done) | (rw [show y.op.cls = 5 from e.symm] at hcls; exact absurd hcls okCls5)
    | cy => rcases ky with e | e <;> first | (cases e; done) | (rw [show y.op.cls = 5 from e.symm] at hcls; exact absurd hcls okCls5)
    | cl => rcases ky with e | e <;> first | (cases e; done) | (rw [show y.op.cls = 5 from e.symm] at hcls; exact absurd hcls okCls5)
end Go.HL
namespace Go.HL
open Go Go.RowKit
set_option linter.unusedVariables false
set_option linter.unusedSimpArgs false
variable {P : Program}

def AV.is (blk : Nat → Nat) : AV → Value → Prop
  | .v x, u => u = x
  | .p t off, u => u = .pointer (some ⟨blk t, off, none⟩)

structure RelB (blk : Nat → Nat) (N : Nat) (H0 : Hp) (w0 : World) (E : Env) (H : Hp) (a : Act) (w : World) : Prop where
  size : a.tmps.size = N
  defers : a.defers = []
  regs : ∀ t y, E.r t = some y → ∃ u, a.tmps[t]? = some u ∧ y.is blk u
  vars : ∀ t cs, E.x t = some cs → (∃ ty, w.heap[blk t]? = some (.cells cs.toArray ty (0, 0))) ∧ H.Fresh (blk t) ∧ w0.heap.size ≤ blk t
  inj : ∀ t t', E.x t ≠ none → E.x t' ≠ none → blk t = blk t' → t = t'
  sub : Sub H w
  fr : Fr H0 H w0 w

def Post (N : Nat) (H0 : Hp) (w0 : World) (K : Env → Hp → Prop) (a : Act) (w : World) : Prop := ∃ blk E H, RelB blk N H0 w0 E H a w ∧ K E H

def okDst (N : Nat) : Option Nat → Prop
  | some d => d < N
  | none => True

section
variable {blk : Nat → Nat} {N : Nat} {H0 : Hp} {w0 : World} {E : Env} {H : Hp} {a : Act} {w : World} {K : Env → Hp → Prop}

theorem RelB.put (R : RelB blk N H0 w0 E H a w) {d : Option Nat} (hd : okDst N d) {y : AV} {u : Value} (hy : y.is blk u) : RelB blk N H0 w0 (E.put d y) H (a.put d u) w := by
  cases d with
  | none => exact R
  | some t =>
    refine ⟨by simp [Act.put, R.size], R.defers, fun s z hz => ?_, R.vars, R.inj, R.sub, R.fr⟩
    simp only [Env.put, upd] at hz
    split at hz
    · rename_i e; subst e
      simp only [Option.some.injEq] at hz; subst hz
      have : s < a.tmps.size := by rw [R.size]; exact hd
      exact ⟨u, by simp [Act.put, this], hy⟩
    · rename_i e
      obtain ⟨v, hv, hi⟩ := R.regs s z hz
      exact ⟨v, by simp only [Act.put]; rw [Array.getElem?_setIfInBounds_ne (Ne.symm e)]; exact hv, hi⟩
theorem RelB.post (R : RelB blk N H0 w0 E H a w) {d : Option Nat} (hd : okDst N d) {y : AV} {u : Value} (hy : y.is blk u) (hk : K (E.put d y) H) : Post N H0 w0 K (a.put d u) w :=
  ⟨blk, _, _, R.put hd hy, hk⟩
theorem RelB.drew (R : RelB blk N H0 w0 E H a w) : RelB blk N H0 w0 E H a w.drew := ⟨R.size, R.defers, R.regs, R.vars, R.inj, R.sub.drew, R.fr.drew⟩

/-- A new block that goes to the heap. -/
theorem RelB.alloc (R : RelB blk N H0 w0 E H a w) (cs : List Value) (t : TypeId) : RelB blk N H0 w0 E (H.set w.heap.size (cs, t)) a (w.alloc (.cells cs.toArray t)) := by
  refine ⟨R.size, R.defers, R.regs, fun s c hs => ?_, R.inj, R.sub.alloc cs t, R.fr.trans (Fr.alloc _ _)⟩
  obtain ⟨⟨ty, h1⟩, h2, h3⟩ := R.vars s c hs
  have hlt := (Array.getElem?_eq_some_iff.1 h1).1
  refine ⟨⟨ty, ?_⟩, Hp.Fresh.set_iff.2 ⟨h2, by omega⟩, h3⟩
  rw [← h1]; exact Below.heap_alloc w _ _ hlt
/-- A new block that is a variable's. -/
theorem RelB.nv (R : RelB blk N H0 w0 E H a w) {t : Nat} (ht : t < N) (cs : List Value) (ty : TypeId) :
    ∃ blk', RelB blk' N H0 w0 (E.nv t cs) H (a.put (some t) (.pointer (some ⟨w.heap.size, 0, none⟩))) (w.alloc (.cells cs.toArray ty)) := by
  refine ⟨fun s => if s = t then w.heap.size else blk s, by simp [Act.put, R.size], R.defers, fun s z hz => ?_, fun s c hs => ?_, fun s s' h1 h2 h3 => ?_, ?_, ?_⟩
  · have hts : t < a.tmps.size := by rw [R.size]; exact ht
    by_cases e : s = t
    · subst e
      simp only [Env.nv, upd_eq, Option.some.injEq] at hz; subst hz
      exact ⟨.pointer (some ⟨w.heap.size, 0, none⟩), by simp [Act.put, hts], by simp [AV.is]⟩
    · obtain ⟨h1, h2⟩ := nv_r e hz
      obtain ⟨v, hv, hi⟩ := R.regs s z h1
      refine ⟨v, by simp only [Act.put]; rw [Array.getElem?_setIfInBounds_ne (Ne.symm e)]; exact hv, ?_⟩
      cases z with
      | v x => exact hi
      | p t' o => simp only [AV.is] at hi ⊢; rw [if_neg h2]; exact hi
  · by_cases e : s = t
    · subst e
      simp only [Env.nv, upd_eq, Option.some.injEq] at hs; subst hs
      simp only [if_true]
      exact ⟨⟨ty, heap_alloc_new w _⟩, R.sub.fresh (Nat.le_refl _), R.fr.2.2.2.1⟩
    · simp only [Env.nv, upd_ne _ _ e] at hs
      simp only [e, if_false]
      obtain ⟨⟨ty', h1⟩, h2, h3⟩ := R.vars s c hs
      exact ⟨⟨ty', by rw [← h1]; exact Below.heap_alloc w _ _ (Array.getElem?_eq_some_iff.1 h1).1⟩, h2, h3⟩
  · have old : ∀ s, s ≠ t → (E.nv t cs).x s ≠ none → E.x s ≠ none ∧ blk s < w.heap.size := fun s e h => by
      simp only [Env.nv, upd_ne _ _ e] at h
      refine ⟨h, ?_⟩
      cases hx : E.x s with
      | none => exact absurd hx h
      | some c => obtain ⟨⟨_, h1⟩, _⟩ := R.vars s c hx; exact (Array.getElem?_eq_some_iff.1 h1).1
    by_cases e : s = t <;> by_cases e' : s' = t
    · rw [e, e']
    · simp only [e, e', if_true, if_false] at h3
      have := (old s' e' h2).2
      omega
    · simp only [e, e', if_true, if_false] at h3
      have := (old s e h1).2
      omega
    · simp only [e, e', if_false] at h3
      exact R.inj s s' (old s e h1).1 (old s' e' h2).1 h3
  · refine R.sub.move fun b hb _ => Below.heap_alloc w _ b hb
  · refine R.fr.trans ⟨rfl, rfl, rfl, by simp, fun b hb _ => Below.heap_alloc w _ b hb, fun b hb => .inl hb, rfl⟩

theorem setRow_size' (w : World) (g : Nat) (cs : Array Value) : (w.setRow g cs).heap.size = w.heap.size := by simp
/-- A variable is written. -/
theorem RelB.sv (R : RelB blk N H0 w0 E H a w) {t : Nat} {old : List Value} (ht : E.x t = some old) (cs : List Value) : RelB blk N H0 w0 (E.sv t cs) H a (w.setRow (blk t) cs.toArray) := by
  obtain ⟨⟨ty, h1⟩, h2, h3⟩ := R.vars t old ht
  refine ⟨R.size, R.defers, R.regs, fun s c hs => ?_, fun s s' k1 k2 k3 => ?_, ?_, ?_⟩
  · by_cases e : s = t
    · subst e
      simp only [Env.sv, upd_eq, Option.some.injEq] at hs; subst hs
      exact ⟨⟨ty, setRow_heap w _ _ _ ty _ h1⟩, h2, h3⟩
    · simp only [Env.sv, upd_ne _ _ e] at hs
      obtain ⟨⟨ty', g1⟩, g2, g3⟩ := R.vars s c hs
      refine ⟨⟨ty', ?_⟩, g2, g3⟩
      rw [setRow_other _ _ _ _ (fun he => e (R.inj s t (by rw [hs]; simp) (by rw [ht]; simp) he))]; exact g1
  · have old' : ∀ s, (E.sv t cs).x s ≠ none → E.x s ≠ none := fun s h => by
      by_cases e : s = t
      · subst e; rw [ht]; simp
      · simpa only [Env.sv, upd_ne _ _ e] using h
    exact R.inj s s' (old' s k1) (old' s' k2) k3
  · refine R.sub.move fun b hb hk => setRow_other _ _ _ _ (fun e => ?_)
    subst e
    rcases hk with hk | ⟨x, hx, hk⟩
    · exact hk h2.1
    · exact hk (h2.2 x hx)
  · obtain ⟨f1, f2, f3, f4, f5, f6, f7⟩ := R.fr
    refine ⟨f1, f2, f3, by simpa using f4, fun b hb ho => ?_, f6, f7⟩
    rw [setRow_other _ _ _ _ (by omega)]; exact f5 b hb ho
/-- A row of the heap is written. -/
theorem RelB.sh (R : RelB blk N H0 w0 E H a w) {b : Nat} {old : List Value} {t : TypeId} (hb : H.own b = some (old, t)) (cs : List Value) : RelB blk N H0 w0 E (H.set b (cs, t)) a (w.setRow b cs.toArray) := by
  have h1 := R.sub.1 b old t hb
  refine ⟨R.size, R.defers, R.regs, fun s c hs => ?_, R.inj, ⟨fun b' cs' t' e => ?_, fun ad v hr => ⟨?_, ?_⟩⟩, ?_⟩
  · obtain ⟨⟨ty', g1⟩, g2, g3⟩ := R.vars s c hs
    have hne : blk s ≠ b := fun e => by have := g2.1; rw [e, hb] at this; cases this
    exact ⟨⟨ty', by rw [setRow_other _ _ _ _ hne]; exact g1⟩, Hp.Fresh.set_iff.2 ⟨g2, hne⟩, g3⟩
  · by_cases hbb : b' = b
    · subst hbb
      simp only [Hp.set, upd_eq, Option.some.injEq, Prod.mk.injEq] at e
      obtain ⟨rfl, rfl⟩ := e
      exact setRow_heap w _ _ _ t _ h1
    · simp only [Hp.set, upd_ne _ _ hbb] at e
      rw [setRow_other _ _ _ _ hbb]; exact R.sub.1 b' cs' t' e
  · obtain ⟨r1, r2⟩ := R.sub.2 ad v hr
    rw [cell_setRow_other _ _ _ _ (fun e => by rw [e, hb] at r2; cases r2)]; exact r1
  · obtain ⟨r1, r2⟩ := R.sub.2 ad v hr
    have hne : ad.block ≠ b := fun e => by rw [e, hb] at r2; cases r2
    simp only [Hp.set, upd_ne _ _ hne]; exact r2
  · obtain ⟨f1, f2, f3, f4, f5, f6, f7⟩ := R.fr
    refine ⟨f1, f2, f3, by simpa using f4, fun b' hb' ho => ?_, fun b' h => ?_, f7⟩
    · rw [setRow_other _ _ _ _ ?_]
      · exact f5 b' hb' ho
      · intro e
        subst e
        rcases f6 b' (by rw [hb]; simp) with h | h
        · exact h ho
        · omega
    · by_cases e : b' = b
      · subst e; exact f6 b' (by rw [hb]; simp)
      · simp only [Hp.set, upd_ne _ _ e] at h; exact f6 b' h
/-- A call. -/
theorem RelB.call (R : RelB blk N H0 w0 E H a w) {H' : Hp} {w' : World} (hs : Sub H' w') (hf : Fr H H' w w') : RelB blk N H0 w0 E H' a w' := by
  obtain ⟨f1, f2, f3, f4, f5, f6, f7⟩ := hf
  refine ⟨R.size, R.defers, R.regs, fun s c h => ?_, R.inj, hs, R.fr.trans ⟨f1, f2, f3, f4, f5, f6, f7⟩⟩
  obtain ⟨⟨ty', g1⟩, g2, g3⟩ := R.vars s c h
  have hlt := (Array.getElem?_eq_some_iff.1 g1).1
  refine ⟨⟨ty', by rw [f5 _ hlt g2.1]; exact g1⟩, ⟨?_, fun x hx => by rw [f7]; exact g2.2 x hx⟩, g3⟩
  cases ho : H'.own (blk s) with
  | none => rfl
  | some z =>
    rcases f6 (blk s) (by rw [ho]; simp) with h | h
    · exact absurd g2.1 h
    · omega

/-! Operands -/
def trAO : Operand → Option AO
  | .tmp t => some (.r t)
  | .const v => some (.c v)
  | .func f => some (.f f)
  | .global _ => none
theorem trAO_ev (R : RelB blk N H0 w0 E H a w) {x : Operand} {o : AO} (ht : trAO x = some o) {y : AV} (he : o.ev E = some y) : y.is blk (a.eval x) := by
  cases x <;> simp only [trAO, Option.some.injEq] at ht
  · subst ht
    obtain ⟨u, hu, hi⟩ := R.regs _ y he
    simp only [Act.eval, Array.getD_eq_getD_getElem?, hu, Option.getD_some]; exact hi
  · subst ht
    simp only [AO.ev, Option.some.injEq] at he; subst he; rfl
  · cases ht
  · subst ht
    simp only [AO.ev, Option.some.injEq] at he; subst he; rfl
theorem trAO_val (R : RelB blk N H0 w0 E H a w) {x : Operand} {o : AO} (ht : trAO x = some o) {v : Value} (he : o.val E = some v) : a.eval x = v := by
  unfold AO.val at he
  cases h : o.ev E with
  | none => rw [h] at he; cases he
  | some y =>
    rw [h] at he
    cases y with
    | v z => simp only [Option.some.injEq] at he; subst he; exact trAO_ev R ht h
    | p _ _ => cases he
def trL : List Operand → Option (List AO)
  | [] => some []
  | x :: l => match trAO x with
    | some o => match trL l with | some os => some (o :: os) | none => none
    | none => none
theorem trL_vals (R : RelB blk N H0 w0 E H a w) : ∀ {l : List Operand} {os : List AO}, trL l = some os → ∀ {vs}, vals E os = some vs → l.map a.eval = vs
  | [], os, ht, vs, hv => by
    simp only [trL, Option.some.injEq] at ht; subst ht
    simp only [vals, Option.some.injEq] at hv; subst hv; rfl
  | x :: l, os, ht, vs, hv => by
    simp only [trL] at ht
    cases hx : trAO x with
    | none => rw [hx] at ht; cases ht
    | some o =>
      simp only [hx] at ht
      cases hl : trL l with
      | none => rw [hl] at ht; cases ht
      | some os' =>
        simp only [hl, Option.some.injEq] at ht; subst ht
        simp only [vals] at hv
        cases h1 : o.val E with
        | none => rw [h1] at hv; cases hv
        | some v =>
          simp only [h1] at hv
          cases h2 : vals E os' with
          | none => rw [h2] at hv; cases hv
          | some vs' =>
            simp only [h2, Option.some.injEq] at hv; subst hv
            rw [List.map_cons, trAO_val R hx h1, trL_vals R hl h2]
end
end Go.HL
namespace Go.HL
open Go Go.RowKit
set_option linter.unusedVariables false
set_option linter.unusedSimpArgs false
variable {P : Program}

def aggD : TypeDesc → Bool
  | .struct _ | .array _ _ => true
  | _ => false
def trP3 (fs : Array Field) (P : Program) : List (Nat × Operand) → Option (List (Nat × Nat × AO))
  | [] => some []
  | (i, x) :: l => do
    let f ← fs[i]?
    let inf ← P.info? f.type
    let a ← trAO x
    let r ← trP3 fs P l
    pure ((f.offset, inf.size, a) :: r)
def trP2 : List (Nat × Operand) → Option (List (Nat × AO))
  | [] => some []
  | (i, x) :: l => do
    let a ← trAO x
    let r ← trP2 l
    pure ((i, a) :: r)
def trO? : Option Operand → Option (Option AO)
  | none => some none
  | some x => (trAO x).map some
def zeroOf (P : Program) (t : TypeId) : Option (List Value) := do
  let i ← P.info? t
  let z ← i.zero
  if z.cells.size = i.size then pure z.cells.toList else none

def plainFields (P : Program) (t : TypeId) (fs : Array Field) : Bool :=
  !P.stoodInHeld t && !P.eqGuardType P.depth t && (P.info? t).any (fun i => i.size == fs.size) &&
  (fs.toList.zipIdx.all fun p => p.1.name != "_" && p.1.offset == p.2 && (match P.underlying p.1.type with | some (.int _) => true | _ => false))
def opTmp : Operand → Nat
  | .tmp t => t
  | _ => 4294967296
def trOp (P : Program) (pr : List Nat) (al : List (Nat × Nat)) (dst : Option Nat) (o : Op) : Option AOp :=
  match o with
  | .move x | .assign x => do let a ← trAO x; pure (.mv a)
  | .pick c a b => do let c ← trAO c; let a ← trAO a; let b ← trAO b; pure (.pk c a b)
  | .binOp op t x y _ => do
    let a ← trAO x
    let b ← trAO y
    match P.underlying t with
    | some (.int _) => pure (.bi op a b)
    | some .bool => match op with | .eql => pure (.eb false a b) | .neq => pure (.eb true a b) | _ => none
    | some (.slice _) => match op with | .eql => pure (.es false a b) | .neq => pure (.es true a b) | _ => none
    | some (.struct fs) => if plainFields P t fs then (match op with | .eql => pure (.eg false fs.size a b) | .neq => pure (.eg true fs.size a b) | _ => none) else none
    | _ => none
  | .unOp op _ x => do let a ← trAO x; pure (.un op a)
  | .convert s d x => do
    let a ← trAO x
    match P.underlying s, P.underlying d with
    | some (.int _), some (.int k) => pure (.cv k a)
    | _, _ => none
  | .extract x i => do let a ← trAO x; pure (.ex a i)
  | .field t x f => do
    let a ← trAO x
    match P.underlying t with
    | some (.struct fs) => do
      let fd ← fs[f]?
      let i ← P.info? fd.type
      let d ← P.underlying fd.type
      pure (.fl a fd.offset i.size (aggD d))
    | _ => none
  | .build t ps => do
    let z ← zeroOf P t
    match P.underlying t with
    | some (.struct fs) => if fs.all (fun f => (P.info? f.type).isSome) then do let l ← trP3 fs P ps.toList; pure (.bd z l) else none
    | _ => none
  | .fieldAddr t x f => do
    let a ← trAO x
    match P.underlying t with
    | some (.struct fs) => do
      let fd ← fs[f]?
      let i ← P.info? fd.type
      if i.size = 0 then none else pure (.fa a fd.offset)
    | _ => none
  | .indexAddr t x i => do
    let a ← trAO x
    let b ← trAO i
    match P.underlying t with
    | some (.slice e) => do let inf ← P.info? e; pure (.ia inf.size a b)
    | _ => none
  | .slice t x lo hi mx => do
    let a ← trAO x
    let l ← trO? lo
    let h ← trO? hi
    let m ← trO? mx
    match P.underlying t with
    | some (.slice e) => do let inf ← P.info? e; pure (.sl inf.size a l h m)
    | _ => none
  | .nilCheck x => do let a ← trAO x; pure (.nc a)
  | .makeFunc (.func g) first cap => if first.size = 0 then do let l ← trL cap.toList; pure (.mf g l) else none
  | .load t x => do
    let a ← trAO x
    let i ← P.info? t
    let d ← P.underlying t
    pure (match al.lookup (opTmp x) with | some r => .lv i.size (aggD d) r a | none => .ld i.size (aggD d) a)
  | .store t x y => do
    let a ← trAO x
    let b ← trAO y
    let i ← P.info? t
    pure (match al.lookup (opTmp x) with | some r => .sv i.size r a b | none => .st i.size a b)
  | .alloc t => do
    let z ← zeroOf P t
    match dst with
    | some d => if pr.contains d then pure (.nz z) else pure (.hz t z)
    | none => none
  | .box t x => do
    let a ← trAO x
    match dst with
    | some d => if pr.contains d then (do let i ← P.info? t; pure (.nb i.size a)) else pure (.hb t a)
    | none => none
  | .buildSlice t len ps => do
    match P.underlying t with
    | some (.slice e) => do
      let i ← P.info? e
      let z ← zeroOf P e
      let l ← trP2 ps.toList
      if len * i.size ≤ 2 ^ 24 then pure (.bs e i.size len z l) else none
    | _ => none
  | .makeSlice t l c => do
    let a ← trAO l
    let b ← trAO c
    match P.underlying t with
    | some (.slice e) => do
      let i ← P.info? e
      let z ← zeroOf P e
      if i.size = 0 then none else pure (.ms e i.size i.bytes z a b)
    | _ => none
  | .call c => match c.callee with
    | .value (.func g) => do let l ← trL c.args.toList; pure (.ca g l)
    | .value f => do let a ← trAO f; let l ← trL c.args.toList; pure (.cf a l)
    | .builtin .len => match c.args.toList, c.argTypes.toList with
      | [x], [t] => do
        let a ← trAO x
        match P.underlying t with
        | some (.slice _) => pure (.ln a)
        | _ => none
      | _, _ => none
    | .builtin .cap => match c.args.toList, c.argTypes.toList with
      | [x], [t] => do
        let a ← trAO x
        match P.underlying t with
        | some (.slice _) => pure (.cp a)
        | _ => none
      | _, _ => none
    | .builtin .copy => match c.args.toList, c.argTypes.toList with
      | [x, y], [t, t'] => do
        let a ← trAO x
        let b ← trAO y
        match P.underlying t with
        | some (.slice e) => do
          let i ← P.info? e
          pure (.cy i.size a b)
        | _ => none
      | _, _ => none
    | .builtin .min => do let l ← trL c.args.toList; pure (.mn l)
    | .builtin .max => do let l ← trL c.args.toList; pure (.mx l)
    | .builtin .append => match c.args.toList, c.argTypes.toList with
      | [x, y], [t, t'] => if t = t' then do
        let a ← trAO x
        let b ← trAO y
        match P.underlying t with
        | some (.slice e) => do
          let i ← P.info? e
          let z ← zeroOf P e
          pure (.ap e i.size i.bytes z a b)
        | _ => none
        else none
      | _, _ => none
    | .builtin .clear => match c.args.toList, c.argTypes.toList with
      | [x], [t] => do
        let a ← trAO x
        match P.underlying t with
        | some (.slice e) => do
          let i ← P.info? e
          let z ← zeroOf P e
          pure (.cl i.size z a)
        | _ => none
      | _, _ => none
    | _ => none
  | _ => none
end Go.HL
namespace Go.HL
open Go Go.RowKit
set_option linter.unusedVariables false
set_option linter.unusedSimpArgs false
variable {P : Program} {blk : Nat → Nat} {N : Nat} {H0 : Hp} {w0 : World} {E : Env} {H : Hp} {a : Act} {w : World}

theorem run_sz {t : TypeId} {i : TypeInfo} (h : P.info? t = some i) (w : World) : (sizeOf t).run P w = .ok i.size w := by simp [sizeOf, typeInfo, h]
theorem run_ti {t : TypeId} {i : TypeInfo} (h : P.info? t = some i) (w : World) : (typeInfo t).run P w = .ok i w := by simp [typeInfo, h]
theorem run_zv {t : TypeId} {z : List Value} (h : zeroOf P t = some z) (w : World) : ∃ v, v.cells.toList = z ∧ (zeroValue t).run P w = .ok v w ∧ ∃ i, P.info? t = some i ∧ i.zero = some v ∧ v.cells.size = i.size := by
  unfold zeroOf at h
  obtain ⟨i, hi, h⟩ := Option.bind_eq_some_iff.1 h
  obtain ⟨v, hz, h⟩ := Option.bind_eq_some_iff.1 h
  split at h
  · rename_i hs
    exact ⟨v, Option.some.inj h, by simp [zeroValue, typeInfo, hi, hz], i, hi, hz, hs⟩
  · cases h
theorem run_isAgg {t : TypeId} {d : TypeDesc} (h : P.underlying t = some d) (w : World) : (isAgg t).run P w = .ok (aggD d) w := by
  unfold isAgg
  simp only [Sem.run_bind, run_underlying h, Result.andThen_ok]
  cases d <;> rfl

theorem wpv {o : Oper} {Q : Exit → Act → World → Prop} {K : Act → World → Prop} {u : Value} {w' : World} (h : (execOp a.eval o).run P w = .ok (.value u) w') (k : K (a.put o.dst u) w') : o.wp P a w K Q := by
  unfold Oper.wp; rw [h]; exact k

theorem binV_run {op : BinOp} {x y z : Value} (h : binV op x y = some z) {t : TypeId} (X Y : Operand) (w : World) :
    (do eqGuard op t X Y x y; binOp op t x y : Sem Value).run P w = .ok z w := by
  unfold binV at h
  split at h
  · rename_i k n k' m
    cases op <;> simp only [eqGuard, binOp] <;> simp only [binI] at h <;>
      (repeat' split at h) <;> first
      | (cases h; done)
      | (simp only [Option.some.injEq] at h; subst h; simp_all [Op.shift, Op.intArith, Op.intDiv, Op.intBits, Op.intCmp, Int.not_lt]; done)
      | (simp only [Option.some.injEq] at h; subst h; rename_i hh; simp [Op.shift, hh])
  · cases h

theorem foldlM_val (k : IntKind) (g : Value → Value → Sem Value) (f : Int → Int → Int) (hg : ∀ x y w, (g (.int k x) (.int k y)).run P w = .ok (.int k (f x y)) w) :
    ∀ (l : List Value) (m : List Int) (x : Int) (w : World), intsK k l = some m → (l.foldlM g (.int k x)).run P w = .ok (.int k (m.foldl f x)) w
  | [], m, x, w, h => by simp only [intsK, Option.some.injEq] at h; subst h; rfl
  | v :: l, m, x, w, h => by
    cases v <;> simp only [intsK] at h <;> first | (cases h; done) | skip
    rename_i k' n
    split at h
    · rename_i e; subst e
      split at h
      · rename_i ns hns
        simp only [Option.some.injEq] at h; subst h
        simp only [List.foldlM_cons, Sem.run_bind, hg, Result.andThen_ok, List.foldl_cons]
        exact foldlM_val k g f hg l ns _ w hns
      · cases h
    · cases h

theorem mxmn_run {l : List Value} {z : Value} (w : World) (tys : Array TypeId) (ty : TypeId) :
    (foldV (fun x y => if y > x then y else x) l = some z → (Builtin.max_ tys ty l.toArray).run P w = .ok z w) ∧
    (foldV (fun x y => if y < x then y else x) l = some z → (Builtin.min_ tys ty l.toArray).run P w = .ok z w) := by
  constructor <;> intro h
  all_goals
    cases l with
    | nil => cases h
    | cons v l =>
      cases v <;> simp only [foldV] at h <;> first | (cases h; done) | skip
      split at h
      · rename_i ns hns
        simp only [Option.some.injEq] at h; subst h
        first
          | (simp only [Builtin.max_]; exact foldlM_val _ _ _ (fun x y w => by simp [Builtin.max2]) l ns _ w hns)
          | (simp only [Builtin.min_]; exact foldlM_val _ _ _ (fun x y w => by simp [Builtin.min2]) l ns _ w hns)
      · cases h

/-! fill -/
theorem fold_set (off : Nat) : ∀ (vs : List Value) (i : Nat) (cs : Array Value), off + i + vs.length ≤ cs.size →
    (vs.zipIdx i).foldl (fun cs (p : Value × Nat) => cs.setIfInBounds (off + p.2) p.1) cs = (cs.toList.take (off + i) ++ vs ++ cs.toList.drop (off + i + vs.length)).toArray
  | [], i, cs, h => by simp
  | v :: vs, i, cs, h => by
    simp only [List.length_cons] at h
    simp only [List.zipIdx_cons, List.foldl_cons]
    rw [fold_set off vs (i + 1) _ (by simp; omega)]
    congr 1
    have := list_seg_step cs.toList (off + i) v vs (by simp; omega)
    simp only [Array.toList_setIfInBounds, List.length_cons] at this ⊢
    rw [show off + (i + 1) = off + i + 1 by omega]
    exact this
def All2 {α β : Type} (R : α → β → Prop) : List α → List β → Prop
  | [], [] => True
  | x :: l, y :: m => R x y ∧ All2 R l m
  | _, _ => False
theorem fill_eq (place : Nat → Option (Nat × Nat)) : ∀ (ps : List (Nat × Value)) (qs : List (Nat × Nat × Value)) (cs out : List Value),
    (All2 (fun p q => place p.1 = some (q.1, q.2.1) ∧ p.2 = q.2.2) ps qs) → fillL cs qs = some out → Instr.fill place cs.toArray ps = some out.toArray
  | [], [], cs, out, _, h => by simp only [fillL, Option.some.injEq] at h; subst h; rfl
  | (i, v) :: ps, (off, n, v') :: qs, cs, out, hf, h => by
    obtain ⟨⟨h1, h3⟩, h2⟩ := hf
    simp only at h1 h3
    subst h3
    simp only [fillL] at h
    split at h
    · rename_i hc
      simp only [Instr.fill, h1]
      have hn : ¬ ((v.cells.size ≠ n || off + v.cells.size > cs.toArray.size) = true) := by simp [hc.1]; omega
      rw [if_neg hn]
      rw [← fill_eq place ps qs _ out h2 h]
      congr 1
      have := fold_set off v.cells.toList 0 cs.toArray (by simp; omega)
      simp only [Nat.add_zero] at this
      rw [← Array.foldl_toList, Array.toList_zipIdx]
      rw [this]
      simp [hc.1]
    · cases h
  | [], _ :: _, _, _, hf, _ => hf.elim
  | _ :: _, [], _, _, hf, _ => hf.elim

theorem parts3_all2 (R : RelB blk N H0 w0 E H a w) {fs : Array Field} : ∀ {ps : List (Nat × Operand)} {qs : List (Nat × Nat × AO)} {vs : List (Nat × Nat × Value)}, trP3 fs P ps = some qs → parts3 E qs = some vs →
    ∃ places : Nat → Option (Nat × Nat), (∀ i, places i = (fs[i]?).bind fun f => (P.info? f.type).map fun inf => (f.offset, inf.size)) ∧
      All2 (fun p q => places p.1 = some (q.1, q.2.1) ∧ p.2 = q.2.2) (ps.map fun p => (p.1, a.eval p.2)) vs
  | [], qs, vs, h, k => by
    simp only [trP3, Option.some.injEq] at h; subst h
    simp only [parts3, Option.some.injEq] at k; subst k
    exact ⟨_, fun _ => rfl, trivial⟩
  | (i, x) :: ps, qs, vs, h, k => by
    simp only [trP3] at h
    obtain ⟨f, hf, h⟩ := Option.bind_eq_some_iff.1 h
    obtain ⟨inf, hi, h⟩ := Option.bind_eq_some_iff.1 h
    obtain ⟨o, ho, h⟩ := Option.bind_eq_some_iff.1 h
    obtain ⟨r, hr, h⟩ := Option.bind_eq_some_iff.1 h
    obtain rfl := Option.some.inj h
    simp only [parts3] at k
    cases h1 : o.val E with
    | none => rw [h1] at k; cases k
    | some v =>
      simp only [h1] at k
      cases h2 : parts3 E r with
      | none => rw [h2] at k; cases k
      | some us =>
        simp only [h2, Option.some.injEq] at k; subst k
        obtain ⟨places, hp, ha⟩ := parts3_all2 R hr h2
        exact ⟨places, hp, ⟨by simp [hp, hf, hi], trAO_val R ho h1⟩, ha⟩
theorem parts2_all2 (R : RelB blk N H0 w0 E H a w) {sz : Nat} : ∀ {ps : List (Nat × Operand)} {qs : List (Nat × AO)} {vs : List (Nat × Nat × Value)}, trP2 ps = some qs → parts2 E sz qs = some vs →
      All2 (fun p q => some (p.1 * sz, sz) = some (q.1, q.2.1) ∧ p.2 = q.2.2) (ps.map fun p => (p.1, a.eval p.2)) vs
  | [], qs, vs, h, k => by
    simp only [trP2, Option.some.injEq] at h; subst h
    simp only [parts2, Option.some.injEq] at k; subst k
    trivial
  | (i, x) :: ps, qs, vs, h, k => by
    simp only [trP2] at h
    obtain ⟨o, ho, h⟩ := Option.bind_eq_some_iff.1 h
    obtain ⟨r, hr, h⟩ := Option.bind_eq_some_iff.1 h
    obtain rfl := Option.some.inj h
    simp only [parts2] at k
    cases h1 : o.val E with
    | none => rw [h1] at k; cases k
    | some v =>
      simp only [h1] at k
      cases h2 : parts2 E sz r with
      | none => rw [h2] at k; cases k
      | some us =>
        simp only [h2, Option.some.injEq] at k; subst k
        exact ⟨⟨rfl, trAO_val R ho h1⟩, parts2_all2 R hr h2⟩
theorem run_mapM_places (fs : Array Field) (hall : ∀ f ∈ fs, (P.info? f.type).isSome) (w : World) :
    ((fs.mapM fun f => do pure (f.offset, ← sizeOf f.type) : Sem (Array (Nat × Nat)))).run P w = .ok (fs.map fun f => (f.offset, ((P.info? f.type).map (·.size)).getD 0)) w := by
  have key : ∀ l : List Field, (∀ f ∈ l, (P.info? f.type).isSome) → (l.mapM fun f => Prod.mk f.offset <$> sizeOf f.type : Sem (List (Nat × Nat))).run P w = .ok (l.map fun f => (f.offset, ((P.info? f.type).map (·.size)).getD 0)) w := by
    intro l
    induction l with
    | nil => intro _; rfl
    | cons f l ih =>
      intro h
      obtain ⟨i, hi⟩ := Option.isSome_iff_exists.1 (h f (by simp))
      have ih' := ih (fun g hg => h g (by simp [hg]))
      simp [List.mapM_cons, run_sz hi, ih', hi]
  rw [Array.mapM_eq_mapM_toList]
  simp only [bind_pure_comp]
  simp only [Sem.run_map, key fs.toList (fun f hf => hall f (by simpa using hf)), Result.andThen_ok]
  congr 1
  apply Array.ext'
  simp

theorem run_eqb_d {t : TypeId} (h : P.underlying t = some .bool) (x y : Bool) (w : World) (d : Nat) : (Op.equalIn (d + 1) t (.bool x) (.bool y)).run P w = .ok (x == y) w := by
  simp only [Op.equalIn, Sem.run_bind, run_underlying h, Result.andThen_ok, Sem.run_pure]
theorem run_eqs_d {t e : TypeId} (h : P.underlying t = some (.slice e)) (x : Option Addr) (n c n' c' : Nat) (w : World) (d : Nat) : (Op.equalIn (d + 1) t (.slice x n c) (.slice none n' c')).run P w = .ok x.isNone w := by
  cases x <;> simp only [Op.equalIn, Sem.run_bind, run_underlying h, Result.andThen_ok, Sem.run_pure] <;> rfl
theorem run_eqb {t : TypeId} (h : P.underlying t = some .bool) (x y : Bool) (w : World) : (Op.equal t (.bool x) (.bool y)).run P w = .ok (x == y) w := run_eqb_d h x y w 9999
theorem run_eqs {t e : TypeId} (h : P.underlying t = some (.slice e)) (x : Option Addr) (n c n' c' : Nat) (w : World) : (Op.equal t (.slice x n c) (.slice none n' c')).run P w = .ok x.isNone w := run_eqs_d h x n c n' c' w 9999
theorem run_eqF {d : Nat} {xs ys : Array Value} (w : World) : ∀ (fs : List Field) (k : Nat) (l m : List Value) (r : Bool),
    (fs.zipIdx k).all (fun p => p.1.name != "_" && p.1.offset == p.2 && (match P.underlying p.1.type with | some (.int _) => true | _ => false)) = true →
      l = xs.toList.drop k → m = ys.toList.drop k → aggEq l m = some r → l.length = fs.length → (Op.eqFields (d + 1) xs ys fs).run P w = .ok r w
  | [], k, l, m, r, _, hl, hm, he, hn => by
    have : l = [] := List.eq_nil_of_length_eq_zero hn
    subst this
    cases m with
    | nil => simp only [aggEq, Option.some.injEq] at he; subst he; simp [Op.eqFields]
    | cons u m => simp [aggEq] at he
  | f :: fs, k, l, m, r, ha, hl, hm, he, hn => by
    cases l with
    | nil => simp at hn
    | cons u l =>
      cases m with
      | nil => cases u <;> simp [aggEq] at he
      | cons v m =>
        cases u <;> cases v <;> simp only [aggEq] at he <;> first | (cases he; done) | skip
        rename_i k1 x k2 y
        split at he
        case isFalse => cases he
        rename_i hk
        subst hk
        simp only [Option.map_eq_some_iff] at he
        obtain ⟨r', hr', rfl⟩ := he
        simp only [List.zipIdx_cons, List.all_cons, Bool.and_eq_true, bne_iff_ne, ne_eq, beq_iff_eq] at ha
        obtain ⟨⟨⟨h1, h2⟩, h3⟩, h4⟩ := ha
        split at h3
        case h_2 => cases h3
        rename_i kk hu
        have e1 : xs.toList[k]? = some (.int k1 x) := by
          have : (xs.toList.drop k)[0]? = some (.int k1 x) := by rw [← hl]; rfl
          simpa using this
        have e2 : ys.toList[k]? = some (.int k1 y) := by
          have : (ys.toList.drop k)[0]? = some (.int k1 y) := by rw [← hm]; rfl
          simpa using this
        have p1 : (part f.type xs f.offset).run P w = .ok (.int k1 x) w := by
          have : xs[k]? = some (.int k1 x) := by simpa using e1
          simp [part, run_isAgg hu, aggD, h2, this]
        have p2 : (part f.type ys f.offset).run P w = .ok (.int k1 y) w := by
          have : ys[k]? = some (.int k1 y) := by simpa using e2
          simp [part, run_isAgg hu, aggD, h2, this]
        have ih := run_eqF (d := d) (xs := xs) (ys := ys) w fs (k + 1) l m r' h4 (by rw [← List.tail_drop, ← hl]; rfl) (by rw [← List.tail_drop, ← hm]; rfl) hr' (by simpa using hn)
        rw [Op.eqFields]
        simp only [ne_eq, h1, not_false_eq_true, if_true, Sem.run_bind, p1, p2, Result.andThen_ok, run_equalIn_int w d f.type k1 kk x y hu]
        cases hxy : (x == y) with
        | false => simp
        | true => simpa using ih
end Go.HL
namespace Go.HL
open Go Go.RowKit
set_option linter.unusedVariables false
set_option linter.unusedSimpArgs false
variable {P : Program} {blk : Nat → Nat} {N : Nat} {H0 : Hp} {w0 : World} {E : Env} {H : Hp} {a : Act} {w : World}
  {pr : List Nat} {al : List (Nat × Nat)} {dst : Option Nat} {ty : TypeId} {pos : String} {after : Array Edge} {g : Option (Nat × Bool)} {ao : AOp} {y : AV}

def Yv (P : Program) (blk : Nat → Nat) (a : Act) (w : World) (y : AV) (o : Oper) : Prop := ∃ u, y.is blk u ∧ (execOp a.eval o).run P w = .ok (.value u) w

theorem ps_move (R : RelB blk N H0 w0 E H a w) {x : Operand} (ht : trOp P pr al dst (.move x) = some ao) (hf : ao.form E = some (.pv y)) : Yv P blk a w y ⟨dst, .move x, ty, pos, after, g⟩ := by
  simp only [trOp] at ht
  obtain ⟨o, ho, ht⟩ := Option.bind_eq_some_iff.1 ht
  obtain rfl := Option.some.inj ht
  simp only [AOp.form, Option.map_eq_some_iff, Form.pv.injEq] at hf
  obtain ⟨z, hz, rfl⟩ := hf
  exact ⟨_, trAO_ev R ho hz, rfl⟩
theorem ps_assign (R : RelB blk N H0 w0 E H a w) {x : Operand} (ht : trOp P pr al dst (.assign x) = some ao) (hf : ao.form E = some (.pv y)) : Yv P blk a w y ⟨dst, .assign x, ty, pos, after, g⟩ := by
  simp only [trOp] at ht
  obtain ⟨o, ho, ht⟩ := Option.bind_eq_some_iff.1 ht
  obtain rfl := Option.some.inj ht
  simp only [AOp.form, Option.map_eq_some_iff, Form.pv.injEq] at hf
  obtain ⟨z, hz, rfl⟩ := hf
  exact ⟨_, trAO_ev R ho hz, rfl⟩
theorem ps_pick (R : RelB blk N H0 w0 E H a w) {c x z : Operand} (ht : trOp P pr al dst (.pick c x z) = some ao) (hf : ao.form E = some (.pv y)) : Yv P blk a w y ⟨dst, .pick c x z, ty, pos, after, g⟩ := by
  simp only [trOp] at ht
  obtain ⟨oc, hc, ht⟩ := Option.bind_eq_some_iff.1 ht
  obtain ⟨ox, hx, ht⟩ := Option.bind_eq_some_iff.1 ht
  obtain ⟨oz, hz, ht⟩ := Option.bind_eq_some_iff.1 ht
  obtain rfl := Option.some.inj ht
  simp only [AOp.form] at hf
  split at hf
  · rename_i hv
    simp only [Option.map_eq_some_iff, Form.pv.injEq] at hf
    obtain ⟨q, hq, rfl⟩ := hf
    exact ⟨_, trAO_ev R hx hq, by simp [execOp, trAO_val R hc hv, asBool]⟩
  · rename_i hv
    simp only [Option.map_eq_some_iff, Form.pv.injEq] at hf
    obtain ⟨q, hq, rfl⟩ := hf
    exact ⟨_, trAO_ev R hz hq, by simp [execOp, trAO_val R hc hv, asBool]⟩
  · cases hf
theorem ps_bin (R : RelB blk N H0 w0 E H a w) {bop : BinOp} {t tz : TypeId} {x z : Operand} (ht : trOp P pr al dst (.binOp bop t x z tz) = some ao) (hf : ao.form E = some (.pv y)) : Yv P blk a w y ⟨dst, .binOp bop t x z tz, ty, pos, after, g⟩ := by
  simp only [trOp] at ht
  obtain ⟨ox, hx, ht⟩ := Option.bind_eq_some_iff.1 ht
  obtain ⟨oz, hz, ht⟩ := Option.bind_eq_some_iff.1 ht
  split at ht
  · obtain rfl := Option.some.inj ht
    simp only [AOp.form] at hf
    cases h1 : ox.val E with
    | none => rw [h1] at hf; cases hf
    | some v1 =>
      cases h2 : oz.val E with
      | none => rw [h1, h2] at hf; cases hf
      | some v2 =>
        simp only [h1, h2, Option.map_eq_some_iff, Form.pv.injEq] at hf
        obtain ⟨q, hq, rfl⟩ := hf
        refine ⟨q, rfl, ?_⟩
        have := binV_run (P := P) hq (t := t) x z w
        simp only [execOp, trAO_val R hx h1, trAO_val R hz h2]
        simp only [Sem.run_bind] at this ⊢
        rw [this]; rfl
  · rename_i hu
    have key : ∀ ng : Bool, ao = .eb ng ox oz → (bop = .eql ∧ ng = false ∨ bop = .neq ∧ ng = true) → Yv P blk a w y ⟨dst, .binOp bop t x z tz, ty, pos, after, g⟩ := by
      rintro ng rfl hop
      simp only [AOp.form] at hf
      split at hf
      · rename_i b1 h1
        split at hf
        · rename_i b2 h2
          simp only [Option.some.injEq, Form.pv.injEq] at hf; subst hf
          refine ⟨_, rfl, ?_⟩
          rcases hop with ⟨rfl, rfl⟩ | ⟨rfl, rfl⟩ <;>
            simp [execOp, trAO_val R hx h1, trAO_val R hz h2, eqGuard, binOp, run_eqb hu]
        · cases hf
      · cases hf
    split at ht
    · exact key _ (Option.some.inj ht).symm (.inl ⟨rfl, rfl⟩)
    · exact key _ (Option.some.inj ht).symm (.inr ⟨rfl, rfl⟩)
    · cases ht
  · rename_i e hu
    have key : ∀ ng : Bool, ao = .es ng ox oz → (bop = .eql ∧ ng = false ∨ bop = .neq ∧ ng = true) → Yv P blk a w y ⟨dst, .binOp bop t x z tz, ty, pos, after, g⟩ := by
      rintro ng rfl hop
      simp only [AOp.form] at hf
      split at hf
      · rename_i b1 n1 c1 h1
        split at hf
        · rename_i h2
          simp only [Option.some.injEq, Form.pv.injEq] at hf; subst hf
          refine ⟨_, rfl, ?_⟩
          rcases hop with ⟨rfl, rfl⟩ | ⟨rfl, rfl⟩ <;>
            simp [execOp, trAO_val R hx h1, trAO_val R hz h2, eqGuard, binOp, run_eqs hu]
        · cases hf
      · cases hf
    split at ht
    · exact key _ (Option.some.inj ht).symm (.inl ⟨rfl, rfl⟩)
    · exact key _ (Option.some.inj ht).symm (.inr ⟨rfl, rfl⟩)
    · cases ht
  · rename_i fs hu
    split at ht
    case isFalse => cases ht
    rename_i hpl
    simp only [plainFields, Bool.and_eq_true, Bool.not_eq_true', Option.any_eq_true, beq_iff_eq] at hpl
    obtain ⟨⟨⟨hst, hgd⟩, i, hi, hsz⟩, hall⟩ := hpl
    have key : ∀ ng : Bool, ao = .eg ng fs.size ox oz → (bop = .eql ∧ ng = false ∨ bop = .neq ∧ ng = true) → Yv P blk a w y ⟨dst, .binOp bop t x z tz, ty, pos, after, g⟩ := by
      rintro ng rfl hop
      simp only [AOp.form] at hf
      split at hf
      · rename_i xs h1
        split at hf
        · rename_i ys h2
          split at hf
          case isFalse => cases hf
          rename_i hxs
          simp only [Option.map_eq_some_iff, Form.pv.injEq] at hf
          obtain ⟨r, hr, rfl⟩ := hf
          refine ⟨_, rfl, ?_⟩
          have hfo : P.fieldsOf t = fs := by simp [Program.fieldsOf, hu]
          have hrun : (Op.equalIn (9999 + 1) t (.agg xs) (.agg ys)).run P w = .ok r w := by
            rw [run_equalIn_struct w 9999 t xs ys (by rw [hfo]; exact hu) hst, hfo]
            exact run_eqF (d := 9998) w fs.toList 0 xs.toList ys.toList r hall rfl rfl hr (by simpa using hxs)
          have he : (Op.equal t (.agg xs) (.agg ys)).run P w = .ok r w := hrun
          rcases hop with ⟨rfl, rfl⟩ | ⟨rfl, rfl⟩ <;>
            simp [execOp, trAO_val R hx h1, trAO_val R hz h2, run_eqGuard_agg w _ t x z xs ys hgd, binOp, he]
        · cases hf
      · cases hf
    split at ht
    · exact key _ (Option.some.inj ht).symm (.inl ⟨rfl, rfl⟩)
    · exact key _ (Option.some.inj ht).symm (.inr ⟨rfl, rfl⟩)
    · cases ht
  · cases ht
theorem ps_un (R : RelB blk N H0 w0 E H a w) {uop : UnOp} {t : TypeId} {x : Operand} (ht : trOp P pr al dst (.unOp uop t x) = some ao) (hf : ao.form E = some (.pv y)) : Yv P blk a w y ⟨dst, .unOp uop t x, ty, pos, after, g⟩ := by
  simp only [trOp] at ht
  obtain ⟨ox, hx, ht⟩ := Option.bind_eq_some_iff.1 ht
  obtain rfl := Option.some.inj ht
  simp only [AOp.form] at hf
  split at hf
  · rename_i v hv
    simp only [Option.map_eq_some_iff, Form.pv.injEq] at hf
    obtain ⟨q, hq, rfl⟩ := hf
    refine ⟨q, rfl, ?_⟩
    simp only [execOp, trAO_val R hx hv]
    unfold unV at hq
    split at hq <;> first | (simp only [Option.some.injEq] at hq; subst hq; simp [Op.unary, Op.intArith, Op.intBits]; done) | cases hq
  · cases hf
theorem ps_conv (R : RelB blk N H0 w0 E H a w) {s d : TypeId} {x : Operand} (ht : trOp P pr al dst (.convert s d x) = some ao) (hf : ao.form E = some (.pv y)) : Yv P blk a w y ⟨dst, .convert s d x, ty, pos, after, g⟩ := by
  simp only [trOp] at ht
  obtain ⟨ox, hx, ht⟩ := Option.bind_eq_some_iff.1 ht
  split at ht
  · rename_i ks kd hs hd
    obtain rfl := Option.some.inj ht
    simp only [AOp.form] at hf
    split at hf
    · rename_i k n hv
      simp only [Option.some.injEq, Form.pv.injEq] at hf; subst hf
      exact ⟨_, rfl, by simp [execOp, trAO_val R hx hv, convert, run_underlying hs, run_underlying hd, Conv.intToInt]⟩
    · cases hf
  · cases ht
theorem ps_extract (R : RelB blk N H0 w0 E H a w) {x : Operand} {i : Nat} (ht : trOp P pr al dst (.extract x i) = some ao) (hf : ao.form E = some (.pv y)) : Yv P blk a w y ⟨dst, .extract x i, ty, pos, after, g⟩ := by
  simp only [trOp] at ht
  obtain ⟨ox, hx, ht⟩ := Option.bind_eq_some_iff.1 ht
  obtain rfl := Option.some.inj ht
  simp only [AOp.form] at hf
  split at hf
  · rename_i vs hv
    simp only [Option.map_eq_some_iff, Form.pv.injEq] at hf
    obtain ⟨q, hq, rfl⟩ := hf
    exact ⟨q, rfl, by simp [execOp, trAO_val R hx hv, Instr.extract, hq]⟩
  · cases hf
end Go.HL
namespace Go.HL
open Go Go.RowKit
set_option linter.unusedVariables false
set_option linter.unusedSimpArgs false
variable {P : Program} {blk : Nat → Nat} {N : Nat} {H0 : Hp} {w0 : World} {E : Env} {H : Hp} {a : Act} {w : World}
  {pr : List Nat} {al : List (Nat × Nat)} {dst : Option Nat} {ty : TypeId} {pos : String} {after : Array Edge} {g : Option (Nat × Bool)} {ao : AOp} {y : AV}

theorem ps_field (R : RelB blk N H0 w0 E H a w) {t : TypeId} {x : Operand} {f : Nat} (ht : trOp P pr al dst (.field t x f) = some ao) (hf : ao.form E = some (.pv y)) : Yv P blk a w y ⟨dst, .field t x f, ty, pos, after, g⟩ := by
  simp only [trOp] at ht
  obtain ⟨ox, hx, ht⟩ := Option.bind_eq_some_iff.1 ht
  split at ht
  · rename_i fs hu
    obtain ⟨fd, hfd, ht⟩ := Option.bind_eq_some_iff.1 ht
    obtain ⟨i, hi, ht⟩ := Option.bind_eq_some_iff.1 ht
    obtain ⟨d, hd, ht⟩ := Option.bind_eq_some_iff.1 ht
    obtain rfl := Option.some.inj ht
    simp only [AOp.form] at hf
    split at hf
    · rename_i cs hv
      split at hf
      · rename_i hc
        simp only [Option.some.injEq, Form.pv.injEq] at hf; subst hf
        refine ⟨_, rfl, ?_⟩
        simp only [execOp, trAO_val R hx hv, Instr.field, Sem.run_bind, run_underlying hu, Result.andThen_ok, hfd, asAgg, Sem.run_pure, part, run_isAgg hd]
        cases hag : aggD d with
        | true =>
          simp only [if_true, Sem.run_bind, run_sz hi, Result.andThen_ok, Sem.run_pure, mkV]
          congr 4
          apply Array.ext'
          simp [Array.toList_extract, List.extract_eq_take_drop]
        | false =>
          have h1 : i.size = 1 := by rcases hc.2 with h | h; (rw [hag] at h; cases h); exact h
          have hlt : fd.offset < cs.size := by omega
          simp [mkV, h1, hlt, List.head?_take, List.head?_drop]
      · cases hf
    · cases hf
  · cases ht
theorem ps_fieldAddr (R : RelB blk N H0 w0 E H a w) {t : TypeId} {x : Operand} {f : Nat} (ht : trOp P pr al dst (.fieldAddr t x f) = some ao) (hf : ao.form E = some (.pv y)) : Yv P blk a w y ⟨dst, .fieldAddr t x f, ty, pos, after, g⟩ := by
  simp only [trOp] at ht
  obtain ⟨ox, hx, ht⟩ := Option.bind_eq_some_iff.1 ht
  split at ht
  · rename_i fs hu
    obtain ⟨fd, hfd, ht⟩ := Option.bind_eq_some_iff.1 ht
    obtain ⟨i, hi, ht⟩ := Option.bind_eq_some_iff.1 ht
    split at ht
    · cases ht
    rename_i hz
    obtain rfl := Option.some.inj ht
    have run : ∀ ad : Addr, a.eval x = .pointer (some ad) → (execOp a.eval ⟨dst, .fieldAddr t x f, ty, pos, after, g⟩).run P w = .ok (.value (.pointer (some (ad.add fd.offset)))) w := fun ad he => by
      simp [execOp, he, Instr.fieldAt, run_underlying hu, hfd, Instr.sureAddr, fieldPlace, run_sz hi, hz]
    simp only [AOp.form] at hf
    split at hf
    · rename_i t' o hv
      simp only [Option.some.injEq, Form.pv.injEq] at hf; subst hf
      have := trAO_ev R hx hv
      refine ⟨_, ?_, run _ this⟩
      simp only [AV.is, Addr.add]
      split <;> simp_all
    · rename_i ad hv
      simp only [Option.some.injEq, Form.pv.injEq] at hf; subst hf
      exact ⟨_, rfl, run _ (trAO_ev R hx hv)⟩
    · cases hf
  · cases ht
theorem ps_indexAddr (R : RelB blk N H0 w0 E H a w) {t : TypeId} {x i : Operand} (ht : trOp P pr al dst (.indexAddr t x i) = some ao) (hf : ao.form E = some (.pv y)) : Yv P blk a w y ⟨dst, .indexAddr t x i, ty, pos, after, g⟩ := by
  simp only [trOp] at ht
  obtain ⟨ox, hx, ht⟩ := Option.bind_eq_some_iff.1 ht
  obtain ⟨oi, hi, ht⟩ := Option.bind_eq_some_iff.1 ht
  split at ht
  · rename_i e hu
    obtain ⟨inf, hinf, ht⟩ := Option.bind_eq_some_iff.1 ht
    obtain rfl := Option.some.inj ht
    simp only [AOp.form] at hf
    split at hf
    · rename_i ad len cap hv
      split at hf
      · rename_i k j hj
        split at hf
        · rename_i hc
          simp only [Option.some.injEq, Form.pv.injEq] at hf; subst hf
          refine ⟨_, rfl, ?_⟩
          simp [execOp, trAO_val R hx hv, trAO_val R hi hj, Instr.indexAt, asIntOf, run_underlying hu, hc, run_sz hinf]
        · cases hf
      · cases hf
    · cases hf
  · cases ht
theorem ps_nilCheck (R : RelB blk N H0 w0 E H a w) {x : Operand} (ht : trOp P pr al dst (.nilCheck x) = some ao) (hf : ao.form E = some (.pv y)) : Yv P blk a w y ⟨dst, .nilCheck x, ty, pos, after, g⟩ := by
  simp only [trOp] at ht
  obtain ⟨ox, hx, ht⟩ := Option.bind_eq_some_iff.1 ht
  obtain rfl := Option.some.inj ht
  simp only [AOp.form] at hf
  split at hf
  · rename_i t' o hv
    simp only [Option.some.injEq, Form.pv.injEq] at hf; subst hf
    have e : a.eval x = .pointer (some ⟨blk t', o, none⟩) := trAO_ev R hx hv
    exact ⟨.pointer (some ⟨blk t', o, none⟩), rfl, by simp [execOp, e]⟩
  · rename_i ad hv
    simp only [Option.some.injEq, Form.pv.injEq] at hf; subst hf
    have e : a.eval x = .pointer (some ad) := trAO_ev R hx hv
    exact ⟨.pointer (some ad), rfl, by simp [execOp, e]⟩
  · cases hf
theorem ps_makeFunc (R : RelB blk N H0 w0 E H a w) {fn : Fn} {first cap : Array Operand} (ht : trOp P pr al dst (.makeFunc fn first cap) = some ao) (hf : ao.form E = some (.pv y)) : Yv P blk a w y ⟨dst, .makeFunc fn first cap, ty, pos, after, g⟩ := by
  cases fn <;> simp only [trOp] at ht <;> first | (cases ht; done) | skip
  split at ht
  · rename_i h0
    obtain ⟨l, hl, ht⟩ := Option.bind_eq_some_iff.1 ht
    obtain rfl := Option.some.inj ht
    simp only [AOp.form] at hf
    split at hf
    · rename_i vs hv
      simp only [Option.some.injEq, Form.pv.injEq] at hf; subst hf
      refine ⟨_, rfl, ?_⟩
      have := trL_vals R hl hv
      have h1 : first = #[] := Array.eq_empty_of_size_eq_zero h0
      subst h1
      simp only [execOp, Instr.makeFunc, Sem.run_bind, Sem.run_pure, Result.andThen_ok, Array.map_empty]
      congr 4
      apply Array.ext'
      simpa using this
    · cases hf
  · cases ht
theorem trO_bnd (R : RelB blk N H0 w0 E H a w) {x : Option Operand} {o : Option AO} (ht : trO? x = some o) {d l r : Nat} (hb : bnd E o d l = some r) :
    (x = none ∧ o = none ∧ r = d) ∨ ∃ x' k i, x = some x' ∧ o.isSome = true ∧ a.eval x' = .int k i ∧ 0 ≤ i ∧ i ≤ l ∧ r = i.toNat := by
  cases x with
  | none =>
    simp only [trO?, Option.some.injEq] at ht; subst ht
    simp only [bnd, Option.some.injEq] at hb
    exact .inl ⟨rfl, rfl, hb.symm⟩
  | some x' =>
    simp only [trO?, Option.map_eq_some_iff] at ht
    obtain ⟨o', ho, rfl⟩ := ht
    simp only [bnd] at hb
    split at hb
    · rename_i k i hv
      split at hb
      · rename_i hc
        simp only [Option.some.injEq] at hb
        exact .inr ⟨x', k, i, rfl, rfl, trAO_val R ho hv, hc.1, hc.2, hb.symm⟩
      · cases hb
    · cases hb
theorem run_bound {k : IntKind} {i : Int} {lim : Nat} (h0 : 0 ≤ i) (h1 : i ≤ lim) (code : BoundsCode) (w : World) : (Instr.sliceBound (.int k i) lim code).run P w = .ok i.toNat w := by
  simp only [Instr.sliceBound, asIntOf, Sem.run_bind, Sem.run_pure, Result.andThen_ok]
  rw [if_pos ⟨h0, h1⟩]; rfl
theorem ps_slice (R : RelB blk N H0 w0 E H a w) {t : TypeId} {x : Operand} {lo hi mx : Option Operand} (ht : trOp P pr al dst (.slice t x lo hi mx) = some ao) (hf : ao.form E = some (.pv y)) : Yv P blk a w y ⟨dst, .slice t x lo hi mx, ty, pos, after, g⟩ := by
  simp only [trOp] at ht
  obtain ⟨ox, hx, ht⟩ := Option.bind_eq_some_iff.1 ht
  obtain ⟨ol, hl, ht⟩ := Option.bind_eq_some_iff.1 ht
  obtain ⟨oh, hh, ht⟩ := Option.bind_eq_some_iff.1 ht
  obtain ⟨om, hm, ht⟩ := Option.bind_eq_some_iff.1 ht
  split at ht
  · rename_i e hu
    obtain ⟨inf, hinf, ht⟩ := Option.bind_eq_some_iff.1 ht
    obtain rfl := Option.some.inj ht
    simp only [AOp.form] at hf
    split at hf
    · rename_i v hv
      simp only [Option.map_eq_some_iff, Form.pv.injEq] at hf
      obtain ⟨z, hz, rfl⟩ := hf
      refine ⟨z, rfl, ?_⟩
      unfold slV at hz
      split at hz
      · rename_i b len cap
        split at hz
        · rename_i m h3
          split at hz
          · rename_i h h2
            split at hz
            · rename_i l h1
              split at hz
              · cases hz
              · rename_i hne
                simp only [Option.some.injEq] at hz; subst hz
                have hb : (Instr.sliceBounds true len cap (lo.map a.eval) (hi.map a.eval) (mx.map a.eval)).run P w = .ok (l, h, m) w := by
                  rcases trO_bnd R hm h3 with ⟨rfl, rfl, rfl⟩ | ⟨x3, k3, i3, rfl, hs3, e3, p3, q3, rfl⟩ <;>
                  rcases trO_bnd R hh h2 with ⟨rfl, rfl, rfl⟩ | ⟨x2, k2, i2, rfl, hs2, e2, p2, q2, rfl⟩ <;>
                  rcases trO_bnd R hl h1 with ⟨rfl, rfl, rfl⟩ | ⟨x1, k1, i1, rfl, hs1, e1, p1, q1, rfl⟩ <;>
                  first
                    | (exfalso; simp_all; done)
                    | (simp only [Instr.sliceBounds, Option.map_some, Option.map_none, *, Sem.run_bind, Sem.run_pure, Result.andThen_ok, run_bound p1 q1, run_bound p2 q2, run_bound p3 q3]; done)
                    | (simp only [Instr.sliceBounds, Option.map_some, Option.map_none, *, Sem.run_bind, Sem.run_pure, Result.andThen_ok, run_bound p2 q2, run_bound p3 q3]; done)
                    | (simp only [Instr.sliceBounds, Option.map_some, Option.map_none, *, Sem.run_bind, Sem.run_pure, Result.andThen_ok, run_bound p1 q1, run_bound p2 q2]; done)
                    | (simp only [Instr.sliceBounds, Option.map_some, Option.map_none, *, Sem.run_bind, Sem.run_pure, Result.andThen_ok, run_bound p1 q1]; done)
                    | (simp only [Instr.sliceBounds, Option.map_some, Option.map_none, *, Sem.run_bind, Sem.run_pure, Result.andThen_ok, run_bound p2 q2]; done)
                    | (simp only [Instr.sliceBounds, Option.map_some, Option.map_none, *, Sem.run_bind, Sem.run_pure, Result.andThen_ok]; done)
                simp [execOp, trAO_val R hx hv, Instr.sliceAt, Instr.slice, run_underlying hu, hb, run_sz hinf]
            · cases hz
          · cases hz
        · cases hz
      · cases hz
    · cases hf
  · cases ht
theorem ps_len (R : RelB blk N H0 w0 E H a w) {c : Call} (hc : c.callee = .builtin .len) (ht : trOp P pr al dst (.call c) = some ao) (hf : ao.form E = some (.pv y)) : Yv P blk a w y ⟨dst, .call c, ty, pos, after, g⟩ := by
  simp only [trOp, hc] at ht
  split at ht
  · rename_i x t hx ht'
    obtain ⟨ox, ho, ht⟩ := Option.bind_eq_some_iff.1 ht
    split at ht
    · rename_i e hu
      obtain rfl := Option.some.inj ht
      have h1 : c.args = #[x] := by apply Array.ext'; simpa using hx
      have h2 : c.argTypes = #[t] := by apply Array.ext'; simpa using ht'
      simp only [AOp.form] at hf
      split at hf
      · rename_i b n cap hv
        simp only [Option.some.injEq, Form.pv.injEq] at hf; subst hf
        refine ⟨_, rfl, ?_⟩
        simp [execOp, resolve, hc, h1, h2, invoke, builtin, trAO_val R ho hv, Builtin.len_, run_underlying hu, goInt]
      · cases hf
    · cases ht
  · cases ht
theorem ps_cap (R : RelB blk N H0 w0 E H a w) {c : Call} (hc : c.callee = .builtin .cap) (ht : trOp P pr al dst (.call c) = some ao) (hf : ao.form E = some (.pv y)) : Yv P blk a w y ⟨dst, .call c, ty, pos, after, g⟩ := by
  simp only [trOp, hc] at ht
  split at ht
  · rename_i x t hx ht'
    obtain ⟨ox, ho, ht⟩ := Option.bind_eq_some_iff.1 ht
    split at ht
    · rename_i e hu
      obtain rfl := Option.some.inj ht
      have h1 : c.args = #[x] := by apply Array.ext'; simpa using hx
      have h2 : c.argTypes = #[t] := by apply Array.ext'; simpa using ht'
      simp only [AOp.form] at hf
      split at hf
      · rename_i b n cap hv
        simp only [Option.some.injEq, Form.pv.injEq] at hf; subst hf
        refine ⟨_, rfl, ?_⟩
        simp [execOp, resolve, hc, h1, h2, invoke, builtin, trAO_val R ho hv, Builtin.cap_, run_underlying hu, goInt]
      · cases hf
    · cases ht
  · cases ht
theorem ps_mm (R : RelB blk N H0 w0 E H a w) {c : Call} (hc : c.callee = .builtin .min ∨ c.callee = .builtin .max) (ht : trOp P pr al dst (.call c) = some ao) (hf : ao.form E = some (.pv y)) : Yv P blk a w y ⟨dst, .call c, ty, pos, after, g⟩ := by
  rcases hc with hc | hc <;> simp only [trOp, hc] at ht <;> obtain ⟨l, hl, ht⟩ := Option.bind_eq_some_iff.1 ht <;> obtain rfl := Option.some.inj ht <;> simp only [AOp.form] at hf
  all_goals
    split at hf
    · rename_i vs hv
      simp only [Option.map_eq_some_iff, Form.pv.injEq] at hf
      obtain ⟨z, hz, rfl⟩ := hf
      have h1 : c.args.map a.eval = vs.toArray := by
        apply Array.ext'
        simpa using trL_vals R hl hv
      refine ⟨z, rfl, ?_⟩
      first
        | (simp [execOp, resolve, hc, h1, invoke, builtin, (mxmn_run w c.argTypes ty).2 hz]; done)
        | (simp [execOp, resolve, hc, h1, invoke, builtin, (mxmn_run w c.argTypes ty).1 hz]; done)
    · cases hf
end Go.HL
namespace Go.HL
open Go Go.RowKit
set_option linter.unusedVariables false
set_option linter.unusedSimpArgs false
variable {P : Program} {blk : Nat → Nat} {N : Nat} {H0 : Hp} {w0 : World} {E : Env} {H : Hp} {a : Act} {w : World}
  {pr : List Nat} {al : List (Nat × Nat)} {dst : Option Nat} {ty : TypeId} {pos : String} {after : Array Edge} {g : Option (Nat × Bool)} {ao : AOp} {y : AV}
  {K : Env → Hp → Prop} {x : Bool} {Q : Exit → Act → World → Prop}

theorem ps_build (R : RelB blk N H0 w0 E H a w) {t : TypeId} {ps : Array (Nat × Operand)} (ht : trOp P pr al dst (.build t ps) = some ao) (hf : ao.form E = some (.pv y)) : Yv P blk a w y ⟨dst, .build t ps, ty, pos, after, g⟩ := by
  simp only [trOp] at ht
  obtain ⟨z, hz, ht⟩ := Option.bind_eq_some_iff.1 ht
  split at ht
  · rename_i fs hu
    split at ht
    · rename_i hall
      obtain ⟨l, hl, ht⟩ := Option.bind_eq_some_iff.1 ht
      obtain rfl := Option.some.inj ht
      simp only [AOp.form] at hf
      split at hf
      · rename_i vs hv
        simp only [Option.map_eq_some_iff, Form.pv.injEq] at hf
        obtain ⟨cs, hcs, rfl⟩ := hf
        refine ⟨_, rfl, ?_⟩
        obtain ⟨zv, hzl, hzr, _⟩ := run_zv hz w
        obtain ⟨places, hp, ha⟩ := parts3_all2 R hl hv
        have hall' : ∀ f ∈ fs, (P.info? f.type).isSome := fun f hf => by
          have := Array.all_eq_true_iff_forall_mem.1 hall f hf
          exact this
        have hm := run_mapM_places fs hall' w
        have hpl : ∀ i, places i = (fs.map fun f => (f.offset, ((P.info? f.type).map (·.size)).getD 0))[i]? := fun i => by
          rw [hp]
          simp only [Array.getElem?_map]
          cases hfi : fs[i]? with
          | none => rfl
          | some f =>
            obtain ⟨inf, hi⟩ := Option.isSome_iff_exists.1 (hall' f (Array.mem_of_getElem? hfi))
            simp [hi]
        have hfill := fill_eq places _ _ z cs ha hcs
        have e1 : zv.cells = z.toArray := by apply Array.ext'; simpa using hzl
        have e2 : (ps.map fun (p : Nat × Operand) => (p.1, a.eval p.2)).toList = ps.toList.map fun p => (p.1, a.eval p.2) := by simp
        simp only [execOp, Instr.build, Sem.run_bind, hzr, Result.andThen_ok, run_underlying hu, hm]
        rw [show (fun (x : Nat) => (fs.map fun f => (f.offset, ((P.info? f.type).map (·.size)).getD 0))[x]?) = places from funext fun i => (hpl i).symm]
        rw [e1, e2, hfill]
        rfl
      · cases hf
    · cases ht
  · cases ht

theorem run_loadVar_mk {t : TypeId} {i : TypeInfo} {d : TypeDesc} (hi : P.info? t = some i) (hd : P.underlying t = some d) (ad : Addr) (vs : List Value) (hl : vs.length = i.size) (hag : aggD d = true ∨ i.size = 1)
    (hc : ∀ j u, vs[j]? = some u → w.cell? (ad.add j) = some u) : (loadVar t ad).run P w = .ok (mkV (aggD d) vs) w := by
  unfold loadVar
  simp only [Sem.run_bind, run_isAgg hd, Result.andThen_ok]
  cases hb : aggD d with
  | true =>
    have := run_loadCells_list (P := P) w ad vs hc
    rw [hl] at this
    simp only [if_true, Sem.run_bind, run_sz hi, Result.andThen_ok, this, Sem.run_pure, mkV]
  | false =>
    have h1 : i.size = 1 := by rcases hag with h | h; (rw [hb] at h; cases h); exact h
    rw [h1] at hl
    obtain ⟨u, rfl⟩ := List.length_eq_one_iff.1 hl
    have := hc 0 u rfl
    simp only [Addr.add, if_true] at this
    simp [this, mkV]
theorem ps_lv (R : RelB blk N H0 w0 E H a w) {t : TypeId} {o : Operand} (ht : trOp P pr al dst (.load t o) = some ao) (hf : ao.form E = some (.pv y)) : Yv P blk a w y ⟨dst, .load t o, ty, pos, after, g⟩ := by
  simp only [trOp] at ht
  obtain ⟨ox, hx, ht⟩ := Option.bind_eq_some_iff.1 ht
  obtain ⟨i, hi, ht⟩ := Option.bind_eq_some_iff.1 ht
  obtain ⟨d, hd, ht⟩ := Option.bind_eq_some_iff.1 ht
  obtain rfl := Option.some.inj ht
  have key : ∀ root, AOp.form E (.lv i.size (aggD d) root ox) = some (.pv y) → Yv P blk a w y ⟨dst, .load t o, ty, pos, after, g⟩ := fun root hf => by
    simp only [AOp.form] at hf
    split at hf
    case h_2 => cases hf
    rename_i t' off hv
    split at hf
    case h_2 => cases hf
    rename_i cs hcs
    split at hf
    case isFalse => cases hf
    split at hf
    case h_2 => cases hf
    rename_i vs hvs
    split at hf
    case h_2 => cases hf
    rename_i v hmk
    simp only [Option.some.injEq, Form.pv.injEq] at hf; subst hf
    obtain ⟨hle, rfl⟩ := sub_eq hvs
    obtain ⟨rfl, hag⟩ := mkV?_eq hmk
    refine ⟨_, rfl, ?_⟩
    have e : a.eval o = .pointer (some ⟨blk t', off, none⟩) := trAO_ev R hx hv
    obtain ⟨⟨ty', h1⟩, _, _⟩ := R.vars t' cs hcs
    have hlen : ((cs.drop off).take i.size).length = i.size := by rw [List.length_take, List.length_drop]; omega
    have := run_loadVar_mk (P := P) (w := w) hi hd ⟨blk t', off, none⟩ ((cs.drop off).take i.size) hlen (by rw [hlen] at hag; exact hag) (fun j u hj => by
      have hadd : (⟨blk t', off, none⟩ : Addr).add j = ⟨blk t', off + j, none⟩ := by unfold Addr.add; split <;> simp_all
      rw [List.getElem?_take] at hj
      split at hj
      · rw [List.getElem?_drop] at hj
        rw [hadd, cell_of_row w (blk t') (off + j) _ ty' (0, 0) h1]
        simpa using hj
      · cases hj)
    simp [execOp, e, Instr.loadAt, Instr.sureAddr, this]
  have key2 : AOp.form E (.ld i.size (aggD d) ox) = some (.pv y) → False := fun hf => by
    simp only [AOp.form] at hf
    (repeat' split at hf) <;> cases hf
  cases hlk : al.lookup (opTmp o) with
  | some r => simp only [hlk] at hf; exact key r hf
  | none => simp only [hlk] at hf; exact (key2 hf).elim

/-! Effects -/
theorem upv {o : Oper} {u : Value} {w' : World} {K' : Act → World → Prop} (h : (execOp a.eval o).run P w = .ok (.value u) w') (k : K' (a.put o.dst u) w') : o.wp P a w K' Q := by
  unfold Oper.wp; rw [h]; exact k
theorem ups {o : Oper} {w' : World} {K' : Act → World → Prop} (h : (execOp a.eval o).run P w = .ok .skip w') (k : K' (a.put o.dst undef) w') : o.wp P a w K' Q := by
  unfold Oper.wp; rw [h]; exact k

theorem es_ld (R : RelB blk N H0 w0 E H a w) {t : TypeId} {o : Operand} (hd' : okDst N dst) (ht : trOp P pr al dst (.load t o) = some ao) {ad : Addr} {n : Nat} {agg : Bool} (hf : ao.form E = some (.lh ad n agg))
    (hW : Form.W P dst x E H K (.lh ad n agg)) : Oper.wp P ⟨dst, .load t o, ty, pos, after, g⟩ a w (Post N H0 w0 K) Q := by
  simp only [trOp] at ht
  obtain ⟨ox, hx, ht⟩ := Option.bind_eq_some_iff.1 ht
  obtain ⟨i, hi, ht⟩ := Option.bind_eq_some_iff.1 ht
  obtain ⟨d, hd, ht⟩ := Option.bind_eq_some_iff.1 ht
  obtain rfl := Option.some.inj ht
  have key : AOp.form E (.ld i.size (aggD d) ox) = some (.lh ad n agg) → Oper.wp P ⟨dst, .load t o, ty, pos, after, g⟩ a w (Post N H0 w0 K) Q := fun hf => by
    simp only [AOp.form] at hf
    split at hf
    · rename_i ad' hv
      split at hf
      · rename_i hc
        simp only [Option.some.injEq, Form.lh.injEq] at hf
        obtain ⟨rfl, rfl, rfl⟩ := hf
        obtain ⟨vs, h1, h2, h3⟩ := hW
        have e := trAO_val R hx hv
        have := run_loadVar_mk (P := P) (w := w) hi hd ad' vs h1 hc (fun j u hj => R.sub.has (h2 j u hj))
        exact upv (u := mkV (aggD d) vs) (w' := w) (by simp [execOp, e, Instr.loadAt, Instr.sureAddr, this]) (R.post (y := .v _) hd' rfl h3)
      · cases hf
    · cases hf
  have key2 : ∀ root, AOp.form E (.lv i.size (aggD d) root ox) = some (.lh ad n agg) → False := fun root hf => by
    simp only [AOp.form] at hf
    (repeat' split at hf) <;> cases hf
  cases hlk : al.lookup (opTmp o) with
  | some r => simp only [hlk] at hf; exact (key2 r hf).elim
  | none => simp only [hlk] at hf; exact key hf
theorem run_store_at {t : TypeId} {i : TypeInfo} (hi : P.info? t = some i) {b off : Nat} {cur : List Value} {et : TypeId} (hg : w.heap[b]? = some (.cells cur.toArray et (0, 0))) {v : Value} (hs : v.cells.size = i.size)
    (hfit : off + v.cells.size ≤ cur.length) (h1 : v.cells.toList.all (·.oneCell') = true) :
    (storeVar t ⟨b, off, none⟩ v).run P w = .ok () (w.setRow b (cur.take off ++ v.cells.toList ++ cur.drop (off + v.cells.size)).toArray) := by
  have := run_storeCells_at P b off et v.cells.toList 0 cur.toArray w hg (by simpa using hfit) (fun u hu => List.all_eq_true.1 h1 u hu)
  simp only [Nat.add_zero] at this
  simp only [storeVar, Sem.run_bind, run_sz hi, Result.andThen_ok, hs]
  simp only [ne_eq, not_true_eq_false, if_false, this]
  simp [hs]
theorem es_sv (R : RelB blk N H0 w0 E H a w) {t : TypeId} {o z : Operand} (ht : trOp P pr al dst (.store t o z) = some ao) {t' : Nat} {cs : List Value} (hf : ao.form E = some (.sv t' cs))
    (hW : Form.W P dst x E H K (.sv t' cs)) : Oper.wp P ⟨dst, .store t o z, ty, pos, after, g⟩ a w (Post N H0 w0 K) Q := by
  simp only [trOp] at ht
  obtain ⟨ox, hx, ht⟩ := Option.bind_eq_some_iff.1 ht
  obtain ⟨oz, hz, ht⟩ := Option.bind_eq_some_iff.1 ht
  obtain ⟨i, hi, ht⟩ := Option.bind_eq_some_iff.1 ht
  obtain rfl := Option.some.inj ht
  have key : ∀ root, AOp.form E (.sv i.size root ox oz) = some (.sv t' cs) → Oper.wp P ⟨dst, .store t o z, ty, pos, after, g⟩ a w (Post N H0 w0 K) Q := fun root hf => by
    simp only [AOp.form] at hf
    split at hf
    case h_2 => cases hf
    rename_i s off hv
    split at hf
    case h_2 => cases hf
    rename_i old hold
    split at hf
    case h_2 => cases hf
    rename_i v hvz
    split at hf
    case isFalse => cases hf
    rename_i hc
    split at hf
    case h_2 => cases hf
    rename_i r hr
    simp only [Option.some.injEq, Form.sv.injEq] at hf
    obtain ⟨rfl, rfl⟩ := hf
    obtain ⟨rfl, hk⟩ := hW
    obtain ⟨hfit, rfl⟩ := putL_eq hr
    have e : a.eval o = .pointer (some ⟨blk s, off, none⟩) := trAO_ev R hx hv
    obtain ⟨⟨ty', h1⟩, _, _⟩ := R.vars s old hold
    have := run_store_at (P := P) hi h1 hc.1 (off := off) (by simpa using hfit) hc.2.1
    refine ups (w' := w.setRow (blk s) (old.take off ++ v.cells.toList ++ old.drop (off + v.cells.size)).toArray) (by simp [execOp, e, trAO_val R hz hvz, Instr.storeAt, Instr.sureAddr, this]) ?_
    exact ⟨blk, _, _, R.sv hold _, hk⟩
  have key2 : AOp.form E (.st i.size ox oz) = some (.sv t' cs) → False := fun hf => by
    simp only [AOp.form] at hf
    (repeat' split at hf) <;> cases hf
  cases hlk : al.lookup (opTmp o) with
  | some r => simp only [hlk] at hf; exact key r hf
  | none => simp only [hlk] at hf; exact (key2 hf).elim
theorem es_st (R : RelB blk N H0 w0 E H a w) {t : TypeId} {o z : Operand} (ht : trOp P pr al dst (.store t o z) = some ao) {ad : Addr} {vs : List Value} (hf : ao.form E = some (.sh ad vs))
    (hW : Form.W P dst x E H K (.sh ad vs)) : Oper.wp P ⟨dst, .store t o z, ty, pos, after, g⟩ a w (Post N H0 w0 K) Q := by
  simp only [trOp] at ht
  obtain ⟨ox, hx, ht⟩ := Option.bind_eq_some_iff.1 ht
  obtain ⟨oz, hz, ht⟩ := Option.bind_eq_some_iff.1 ht
  obtain ⟨i, hi, ht⟩ := Option.bind_eq_some_iff.1 ht
  obtain rfl := Option.some.inj ht
  have key : AOp.form E (.st i.size ox oz) = some (.sh ad vs) → Oper.wp P ⟨dst, .store t o z, ty, pos, after, g⟩ a w (Post N H0 w0 K) Q := fun hf => by
    simp only [AOp.form] at hf
    split at hf
    · rename_i ad' hv
      split at hf
      · rename_i v hvz
        split at hf
        · rename_i hc
          simp only [Option.some.injEq, Form.sh.injEq] at hf
          obtain ⟨rfl, rfl⟩ := hf
          obtain ⟨rfl, cs, et, hs, ho, hfit, hk⟩ := hW
          obtain ⟨b, off, sp⟩ := ad'
          simp only at hs ho hfit hk; subst hs
          have e := trAO_val R hx hv
          have := run_store_at (P := P) hi (R.sub.1 b cs et ho) hc.1 (off := off) (by simpa using hfit) hc.2
          refine ups (w' := w.setRow b (cs.take off ++ v.cells.toList ++ cs.drop (off + v.cells.size)).toArray) (by simp [execOp, e, trAO_val R hz hvz, Instr.storeAt, Instr.sureAddr, this]) ?_
          refine ⟨blk, _, _, ?_, hk⟩
          have h2 := R.sh ho (splice cs off v.cells.toList)
          simpa [splice, Act.put] using h2
        · cases hf
      · cases hf
    · cases hf
  have key2 : ∀ root, AOp.form E (.sv i.size root ox oz) = some (.sh ad vs) → False := fun root hf => by
    simp only [AOp.form] at hf
    (repeat' split at hf) <;> cases hf
  cases hlk : al.lookup (opTmp o) with
  | some r => simp only [hlk] at hf; exact (key2 r hf).elim
  | none => simp only [hlk] at hf; exact key hf
end Go.HL
namespace Go.HL
open Go Go.RowKit
set_option linter.unusedVariables false
set_option linter.unusedSimpArgs false
variable {P : Program} {blk : Nat → Nat} {N : Nat} {H0 : Hp} {w0 : World} {E : Env} {H : Hp} {a : Act} {w : World}
  {pr : List Nat} {al : List (Nat × Nat)} {dst : Option Nat} {ty : TypeId} {pos : String} {after : Array Edge} {g : Option (Nat × Bool)} {ao : AOp} {y : AV}
  {K : Env → Hp → Prop} {x : Bool} {Q : Exit → Act → World → Prop}

theorem post_al (R : RelB blk N H0 w0 E H a w) {t : TypeId} {cs : List Value} {len : Option Nat} (hd : okDst N dst) (hW : Form.W P dst x E H K (.al t cs len)) :
    Post N H0 w0 K (a.put dst (alV len w.heap.size)) (w.alloc (.cells cs.toArray t)) :=
  (R.alloc cs t).post (y := .v _) hd rfl (hW _ (R.sub.fresh (Nat.le_refl _)))

theorem es_alloc (R : RelB blk N H0 w0 E H a w) {t : TypeId} {F : Form} (hd : okDst N dst) (ht : trOp P pr al dst (.alloc t) = some ao) (hf : ao.form E = some F) (hW : F.W P dst x E H K) :
    Oper.wp P ⟨dst, .alloc t, ty, pos, after, g⟩ a w (Post N H0 w0 K) Q := by
  simp only [trOp] at ht
  obtain ⟨z, hz, ht⟩ := Option.bind_eq_some_iff.1 ht
  obtain ⟨zv, hzl, hzr, _⟩ := run_zv hz w
  have e1 : zv.cells = z.toArray := by apply Array.ext'; simpa using hzl
  have run : (execOp a.eval ⟨dst, .alloc t, ty, pos, after, g⟩).run P w = .ok (.value (.pointer (some ⟨w.heap.size, 0, none⟩))) (w.alloc (.cells z.toArray t)) := by
    simp [execOp, Instr.alloc, hzr, newVar, newRow, e1]
  cases dst with
  | none => cases ht
  | some d =>
    simp only at ht
    split at ht
    · obtain rfl := Option.some.inj ht
      simp only [AOp.form, Option.some.injEq] at hf; subst hf
      obtain ⟨blk', R'⟩ := R.nv hd z t
      exact upv run ⟨blk', _, _, R', hW⟩
    · obtain rfl := Option.some.inj ht
      simp only [AOp.form, Option.some.injEq] at hf; subst hf
      exact upv run (post_al R hd hW)
theorem es_box (R : RelB blk N H0 w0 E H a w) {t : TypeId} {o : Operand} {F : Form} (hd : okDst N dst) (ht : trOp P pr al dst (.box t o) = some ao) (hf : ao.form E = some F) (hW : F.W P dst x E H K) :
    Oper.wp P ⟨dst, .box t o, ty, pos, after, g⟩ a w (Post N H0 w0 K) Q := by
  simp only [trOp] at ht
  obtain ⟨ox, hx, ht⟩ := Option.bind_eq_some_iff.1 ht
  have run : ∀ v, a.eval o = v → (execOp a.eval ⟨dst, .box t o, ty, pos, after, g⟩).run P w = .ok (.value (.pointer (some ⟨w.heap.size, 0, none⟩))) (w.alloc (.cells v.cells.toList.toArray t)) := fun v hv => by
    simp [execOp, Instr.box, newVar, newRow, hv]
  cases dst with
  | none => cases ht
  | some d =>
    simp only at ht
    split at ht
    · obtain ⟨i, hi, ht⟩ := Option.bind_eq_some_iff.1 ht
      obtain rfl := Option.some.inj ht
      simp only [AOp.form] at hf
      split at hf
      case h_2 => cases hf
      rename_i v hv
      split at hf
      case isFalse => cases hf
      rename_i hsz
      split at hf
      case h_2 => cases hf
      rename_i r hr
      simp only [Option.some.injEq] at hf; subst hf
      obtain ⟨hle, rfl⟩ := sub_eq hr
      have hrr : (v.cells.toList.drop 0).take i.size = v.cells.toList := by
        rw [List.drop_zero, List.take_of_length_le (by simp [hsz])]
      rw [hrr] at hW
      obtain ⟨blk', R'⟩ := R.nv hd v.cells.toList t
      exact upv (run v (trAO_val R hx hv)) ⟨blk', _, _, R', hW⟩
    · obtain rfl := Option.some.inj ht
      simp only [AOp.form] at hf
      split at hf
      · rename_i v hv
        simp only [Option.some.injEq] at hf; subst hf
        exact upv (run v (trAO_val R hx hv)) (post_al R hd hW)
      · cases hf
theorem getElem_rep (z : List Value) : ∀ (n i : Nat), i < n * z.length → ((List.replicate n z).flatten)[i]? = z[i % z.length]?
  | 0, i, h => by simp at h
  | n + 1, i, h => by
    rw [List.replicate_succ, List.flatten_cons]
    by_cases hi : i < z.length
    · rw [List.getElem?_append_left hi, Nat.mod_eq_of_lt hi]
    · have hi' : z.length ≤ i := Nat.le_of_not_lt hi
      rw [List.getElem?_append_right hi', getElem_rep z n (i - z.length) (by rw [Nat.succ_mul] at h; omega)]
      congr 1
      exact (Nat.mod_eq_sub_mod hi').symm
theorem range_rep (z : Array Value) (n : Nat) : (Array.range (n * z.size)).map (fun i => z[i % z.size]!) = ((List.replicate n z.toList).flatten).toArray := by
  apply Array.ext'
  apply List.ext_getElem?
  intro i
  simp only [Array.toList_map, Array.toList_range, List.getElem?_map]
  by_cases hi : i < n * z.size
  · rw [getElem_rep z.toList n i (by simpa using hi), List.getElem?_range hi]
    have hz : 0 < z.size := by rcases Nat.eq_zero_or_pos z.size with h | h; (rw [h] at hi; simp at hi); exact h
    have hlt : i % z.size < z.size := Nat.mod_lt _ hz
    simp [hlt]
  · have h1 : (List.range (n * z.size))[i]? = none := by simp; omega
    have h2 : ((List.replicate n z.toList).flatten)[i]? = none := by
      rw [List.getElem?_eq_none]; simp [List.length_flatten]; omega
    rw [h1]; simp [h2]
theorem es_bs (R : RelB blk N H0 w0 E H a w) {t : TypeId} {len : Nat} {ps : Array (Nat × Operand)} {F : Form} (hd : okDst N dst) (ht : trOp P pr al dst (.buildSlice t len ps) = some ao) (hf : ao.form E = some F) (hW : F.W P dst x E H K) :
    Oper.wp P ⟨dst, .buildSlice t len ps, ty, pos, after, g⟩ a w (Post N H0 w0 K) Q := by
  simp only [trOp] at ht
  split at ht
  · rename_i e hu
    obtain ⟨i, hi, ht⟩ := Option.bind_eq_some_iff.1 ht
    obtain ⟨z, hz, ht⟩ := Option.bind_eq_some_iff.1 ht
    obtain ⟨l, hl, ht⟩ := Option.bind_eq_some_iff.1 ht
    split at ht
    · rename_i hlim
      obtain rfl := Option.some.inj ht
      simp only [AOp.form] at hf
      split at hf
      · rename_i vs hv
        simp only [Option.map_eq_some_iff] at hf
        obtain ⟨cs, hcs, rfl⟩ := hf
        obtain ⟨zv, hzl, hzr, i', hi', hiz, hzs⟩ := run_zv hz w
        obtain rfl : i = i' := Option.some.inj (hi.symm.trans hi')
        have ha := parts2_all2 R hl hv
        have hfill := fill_eq (fun j => some (j * i.size, i.size)) _ _ _ cs ha hcs
        have hbase : (Array.range (len * i.size)).map (fun j => (if len * i.size = 0 then (#[] : Array Value) else zv.cells)[j % (if len * i.size = 0 then (#[] : Array Value) else zv.cells).size]!) = ((List.replicate len z).flatten).toArray := by
          by_cases h0 : len * i.size = 0
          · have hzl0 : (List.replicate len z).flatten = [] := by
              apply List.eq_nil_of_length_eq_zero
              rw [← hzl]; simp [List.length_flatten, hzs, h0]
            rw [hzl0, h0]; simp
          · simp only [h0, if_false]
            have := range_rep zv.cells len
            rw [hzs, hzl] at this
            simp only [hzs]
            exact this
        have run : (execOp a.eval ⟨dst, .buildSlice t len ps, ty, pos, after, g⟩).run P w = .ok (.value (.slice (some ⟨w.heap.size, 0, none⟩) len len)) (w.alloc (.cells cs.toArray e)) := by
          have e2 : (ps.map fun (p : Nat × Operand) => (p.1, a.eval p.2)).toList = ps.toList.map fun p => (p.1, a.eval p.2) := by simp
          have hn : ¬ (len * i.size > 2 ^ 24) := by omega
          by_cases h0 : len * i.size = 0
          · simp only [h0, if_true] at hbase
            simp only [execOp, Instr.buildSlice, Sem.run_bind, run_underlying hu, Result.andThen_ok, run_sz hi, h0, if_true, Sem.run_pure]
            simp only [Nat.not_lt_zero, gt_iff_lt, if_false, Sem.run_pure, Result.andThen_ok, Sem.run_bind]
            rw [e2]
            rw [hbase, hfill]
            rfl
          · simp only [h0, if_false] at hbase
            simp only [execOp, Instr.buildSlice, Sem.run_bind, run_underlying hu, Result.andThen_ok, run_sz hi, h0, if_false, Sem.run_pure, hn, hzr]
            rw [e2]
            rw [hbase, hfill]
            rfl
        exact upv run (post_al R hd hW)
      · cases hf
    · cases ht
  · cases ht

theorem es_ms (R : RelB blk N H0 w0 E H a w) {t : TypeId} {l c : Operand} {F : Form} (hd : okDst N dst) (ht : trOp P pr al dst (.makeSlice t l c) = some ao) (hf : ao.form E = some F) (hW : F.W P dst x E H K) :
    Oper.wp P ⟨dst, .makeSlice t l c, ty, pos, after, g⟩ a w (Post N H0 w0 K) Q := by
  simp only [trOp] at ht
  obtain ⟨ol, hl, ht⟩ := Option.bind_eq_some_iff.1 ht
  obtain ⟨oc, hc, ht⟩ := Option.bind_eq_some_iff.1 ht
  split at ht
  case h_2 => cases ht
  rename_i e hu
  obtain ⟨i, hi, ht⟩ := Option.bind_eq_some_iff.1 ht
  obtain ⟨z, hz, ht⟩ := Option.bind_eq_some_iff.1 ht
  split at ht
  · cases ht
  obtain rfl := Option.some.inj ht
  obtain ⟨zv, hzl, hzr, i', hi', hiz, hzs⟩ := run_zv hz w
  obtain rfl : i = i' := Option.some.inj (hi.symm.trans hi')
  simp only [AOp.form] at hf
  split at hf
  case h_2 => cases hf
  rename_i kl n hv1
  split at hf
  case h_2 => cases hf
  rename_i kc m hv2
  split at hf
  case isFalse => cases hf
  rename_i hcond
  obtain ⟨rfl, h0, hb, h63⟩ := hcond
  simp only [Option.some.injEq] at hf; subst hf
  have hrun := run_make (P := P) w t e i zv hu hi hiz kl kc n n h0 (Int.le_refl n) (by
    have h1 : ((n.toNat * i.bytes : Nat) : Int) ≤ ((140737488355328 : Nat) : Int) := Int.ofNat_le.2 hb
    rw [Int.natCast_mul, Int.toNat_of_nonneg h0, Int.mul_comm] at h1
    omega) (by omega)
  have hmc : madeCells zv.cells (n.toNat * i.size) = ((List.replicate n.toNat z).flatten).toArray := by
    have := range_rep zv.cells n.toNat
    rw [hzl, hzs] at this
    unfold madeCells
    rw [← this, hzs]
  rw [hmc] at hrun
  exact upv (u := alV (some n.toNat) w.heap.size) (by simp only [execOp, trAO_val R hl hv1, trAO_val R hc hv2, Sem.run_bind, hrun, Result.andThen_ok, Sem.run_pure, alV]) (post_al R hd hW)

theorem es_call (R : RelB blk N H0 w0 E H a w) {c : Call} {f : FuncId} {l : List Value} (hd : okDst N dst)
    (run : okFn P f → (execOp a.eval ⟨dst, .call c, ty, pos, after, g⟩).run P w = .ok (.enter f l.toArray) w) (hW : Form.W P dst x E H K (.ca f l)) :
    Oper.wp P ⟨dst, .call c, ty, pos, after, g⟩ a w (Post N H0 w0 K) Q := by
  unfold Oper.wp
  rw [run hW.1]
  rw [Oper.upon_enter]
  refine (hW.2 w R.sub).mono ?_
  rintro e w' ⟨v, H', rfl, ⟨_, hk⟩, hs, hf⟩
  exact (R.call hs hf).post (y := .v _) hd rfl hk
theorem run_callFunc {f : FuncId} (h : okFn P f) (args : Array Value) (w : World) : (callFunc f args).run P w = .ok (.enter f args) w := by
  obtain ⟨fn, h1, h2, h3⟩ := h
  obtain ⟨c, hc⟩ := Option.isSome_iff_exists.1 h2
  have h3' : ¬ fn.name = "runtime.NumGoroutine" := by simpa using h3
  simp [callFunc, h1, h3', hc]
theorem es_ca (R : RelB blk N H0 w0 E H a w) {c : Call} {f : FuncId} {F : Form} (hc : c.callee = .value (.func f)) (hd : okDst N dst) (ht : trOp P pr al dst (.call c) = some ao) (hf : ao.form E = some F) (hW : F.W P dst x E H K) :
    Oper.wp P ⟨dst, .call c, ty, pos, after, g⟩ a w (Post N H0 w0 K) Q := by
  simp only [trOp, hc] at ht
  obtain ⟨l, hl, ht⟩ := Option.bind_eq_some_iff.1 ht
  obtain rfl := Option.some.inj ht
  simp only [AOp.form] at hf
  split at hf
  · rename_i vs hv
    simp only [Option.some.injEq] at hf; subst hf
    have h1 : c.args.map a.eval = vs.toArray := by
      apply Array.ext'
      simpa using trL_vals R hl hv
    refine es_call R hd (fun ho => ?_) hW
    simp [execOp, resolve, hc, Act.eval, Deferred.ofValue, invoke, run_callFunc ho, h1]
  · cases hf
theorem es_cf (R : RelB blk N H0 w0 E H a w) {c : Call} {o : Operand} {F : Form} (hc : c.callee = .value o) (hno : ∀ f, o ≠ .func f) (hd : okDst N dst) (ht : trOp P pr al dst (.call c) = some ao) (hf : ao.form E = some F) (hW : F.W P dst x E H K) :
    Oper.wp P ⟨dst, .call c, ty, pos, after, g⟩ a w (Post N H0 w0 K) Q := by
  have ht' : ∃ ox l, trAO o = some ox ∧ trL c.args.toList = some l ∧ ao = .cf ox l := by
    cases o with
    | func f => exact absurd rfl (hno f)
    | _ =>
      simp only [trOp, hc] at ht
      obtain ⟨ox, hx, ht⟩ := Option.bind_eq_some_iff.1 ht
      obtain ⟨l, hl, ht⟩ := Option.bind_eq_some_iff.1 ht
      exact ⟨ox, l, hx, hl, (Option.some.inj ht).symm⟩
  obtain ⟨ox, l, hx, hl, rfl⟩ := ht'
  simp only [AOp.form] at hf
  split at hf
  · rename_i f first cap hv
    split at hf
    · rename_i vs hvs
      split at hf
      · rename_i h0
        simp only [Option.some.injEq] at hf; subst hf
        have h1 : c.args.map a.eval = vs.toArray := by
          apply Array.ext'
          simpa using trL_vals R hl hvs
        have h2 : first = #[] := Array.eq_empty_of_size_eq_zero h0
        subst h2
        refine es_call R hd (fun ho => ?_) hW
        simp [execOp, resolve, hc, trAO_val R hx hv, Deferred.ofValue, invoke, run_callFunc ho, h1]
      · cases hf
    · cases hf
  · cases hf
end Go.HL
namespace Go.HL
open Go Go.RowKit
set_option linter.unusedVariables false
set_option linter.unusedSimpArgs false
variable {P : Program} {blk : Nat → Nat} {N : Nat} {H0 : Hp} {w0 : World} {E : Env} {H : Hp} {a : Act} {w : World}
  {pr : List Nat} {al : List (Nat × Nat)} {dst : Option Nat} {ty : TypeId} {pos : String} {after : Array Edge} {g : Option (Nat × Bool)} {ao : AOp} {y : AV}
  {K : Env → Hp → Prop} {x : Bool} {Q : Exit → Act → World → Prop}

theorem run_first (hs : Sub H w) {src : Option Addr} {sz m c : Nat} {news : List Value} (hl : news.length = m * sz) (hh : HasAll H src news) : (Builtin.firstCells sz m (.slice src m c)).run P w = .ok news.toArray w := by
  cases src with
  | none =>
    rcases hh with rfl | ⟨ad, e, _⟩
    · rfl
    · cases e
  | some ad =>
    have hc : ∀ j v, news[j]? = some v → w.cell? (ad.add j) = some v := by
      rcases hh with rfl | ⟨ad', e, h⟩
      · intro j v h; simp at h
      · cases e; exact fun j v hj => hs.has (h j v hj)
    have := run_loadCells_list (P := P) w ad news hc
    rw [hl] at this
    exact this
theorem nextcap_le {n c : Nat} (h : c < n) : Builtin.nextslicecap n c ≤ 2 * n := by
  unfold Builtin.nextslicecap
  split
  · omega
  · split
    · omega
    · have key : ∀ r c', c' ≤ 2 * n → (c' < n → 256 ≤ c') → Builtin.growBy n r c' ≤ 2 * n := by
        intro r
        induction r with
        | zero => intro c' h1 _; exact h1
        | succ r ih =>
          intro c' h1 h2
          unfold Builtin.growBy
          split
          · exact h1
          · rename_i hlt
            have := h2 (by omega)
            exact ih _ (by omega) (by omega)
      exact key 4 c (by omega) (by omega)
theorem zeroCells_len (z : Array Value) (n : Nat) : (Builtin.zeroCells z n).toList.length = n * z.size := by simp [Builtin.zeroCells]
theorem es_ap (R : RelB blk N H0 w0 E H a w) {c : Call} {F : Form} (hc : c.callee = .builtin .append) (hd : okDst N dst) (ht : trOp P pr al dst (.call c) = some ao) (hf : ao.form E = some F) (hW : F.W P dst x E H K) :
    Oper.wp P ⟨dst, .call c, ty, pos, after, g⟩ a w (Post N H0 w0 K) Q := by
  simp only [trOp, hc] at ht
  split at ht
  case h_2 => cases ht
  rename_i o1 o2 t1 t2 hargs htys
  split at ht
  case isFalse => cases ht
  rename_i htt
  subst htt
  obtain ⟨ox, hx, ht⟩ := Option.bind_eq_some_iff.1 ht
  obtain ⟨oz, hz, ht⟩ := Option.bind_eq_some_iff.1 ht
  split at ht
  case h_2 => cases ht
  rename_i e hu
  obtain ⟨i, hi, ht⟩ := Option.bind_eq_some_iff.1 ht
  obtain ⟨z, hzz, ht⟩ := Option.bind_eq_some_iff.1 ht
  obtain rfl := Option.some.inj ht
  have ea : c.args = #[o1, o2] := by apply Array.ext'; simpa using hargs
  have et : c.argTypes = #[t1, t1] := by apply Array.ext'; simpa using htys
  obtain ⟨zv, hzl, hzr, i', hi', hiz, hzs⟩ := run_zv hzz w
  obtain rfl : i = i' := Option.some.inj (hi.symm.trans hi')
  simp only [AOp.form] at hf
  split at hf
  case h_2 => cases hf
  rename_i base n cap hv1
  split at hf
  case h_2 => cases hf
  rename_i src m c2 hv2
  simp only [Option.some.injEq] at hf; subst hf
  have e1 := trAO_val R hx hv1
  have e2 := trAO_val R hz hv2
  obtain ⟨news, hl, hh, hb, h63, hW⟩ := hW
  have lift : ∀ {u : Value} {w' : World}, (Builtin.append_ #[t1, t1] ty #[.slice base n cap, .slice src m c2]).run P w = .ok u w' → (execOp a.eval ⟨dst, .call c, ty, pos, after, g⟩).run P w = .ok (.value u) w' := fun h => by
    simp [execOp, resolve, hc, ea, et, invoke, builtin, e1, e2, h]
  by_cases hroom : n + m ≤ cap
  · rw [if_pos hroom] at hW
    have hf := run_first (P := P) R.sub (c := c2) hl hh
    rcases hW with ⟨rfl, hk⟩ | ⟨ad, cs, t', rfl, hsp, ho, hfit, h1, hk⟩
    · refine upv (lift (u := .slice base (n + m) cap) (w' := w) ?_) (R.post (y := .v _) hd rfl hk)
      cases base with
      | none => simp [Builtin.append_, run_underlying hu, run_sz hi, Builtin.lenOf, hf, hroom]
      | some b => simp [Builtin.append_, run_underlying hu, run_sz hi, Builtin.lenOf, hf, hroom, storeCells]
    · obtain ⟨b, off, sp⟩ := ad
      simp only at hsp ho hfit hk; subst hsp
      have hst := run_storeCells_at P b (off + n * i.size) t' news 0 cs.toArray w (R.sub.1 b cs t' ho) (by simp [hl]; rw [Nat.add_mul] at hfit; omega) h1
      have hadd : (⟨b, off, none⟩ : Addr).add (n * i.size) = ⟨b, off + n * i.size, none⟩ := by unfold Addr.add; split <;> simp_all
      refine upv (lift (u := .slice (some ⟨b, off, none⟩) (n + m) cap) (w' := w.setRow b (splice cs (off + n * i.size) news).toArray) ?_) ((R.sh ho _).post (y := .v _) hd rfl hk)
      simp only [Nat.add_zero] at hst
      simp [Builtin.append_, run_underlying hu, run_sz hi, Builtin.lenOf, hf, hroom, hadd, hst, splice]
  · rw [if_neg hroom] at hW
    obtain ⟨olds, hol, hoh, hk⟩ := hW
    have hfn := run_first (P := P) (R.sub.drew) (c := c2) hl hh
    have hfo := run_first (P := P) (R.sub.drew) (c := cap) hol hoh
    have hcap : Builtin.nextslicecap (n + m) cap * i.bytes ≤ 281474976710656 := by
      have h1 := nextcap_le (show cap < n + m by omega)
      have h2 : Builtin.nextslicecap (n + m) cap * i.bytes ≤ 2 * (n + m) * i.bytes := Nat.mul_le_mul_right _ h1
      rw [Nat.mul_assoc] at h2
      omega
    have h63' : ¬ (9223372036854775807 < ((n : Int) + (m : Int))) := by omega
    have h48' : ¬ (281474976710656 < Builtin.nextslicecap (n + m) cap * i.bytes) := by omega
    have hrun : (Builtin.append_ #[t1, t1] ty #[.slice base n cap, .slice src m c2]).run P w =
        .ok (.slice (some ⟨w.heap.size, 0, none⟩) (n + m) (grownCap w (n + m) cap e)) (w.drew.alloc (.cells (olds ++ news ++ (Builtin.zeroCells zv.cells (grownCap w (n + m) cap e - (n + m))).toList).toArray e)) := by
      simp [Builtin.append_, run_underlying hu, sizeOf, typeInfo, zeroValue, hi, hiz, Builtin.lenOf, hroom, h63', h48', Question.forced, hfn, hfo, newRow, grownCap]
      congr 2
      apply Array.ext'
      simp [List.append_assoc]
    have hge := grownCap_ge w (n + m) cap e
    have hcm := grownCap_le_maxLen w (n + m) cap e (by simp only [maxLen]; omega)
    refine upv (lift hrun) ?_
    refine ((R.drew).alloc (olds ++ news ++ (Builtin.zeroCells zv.cells (grownCap w (n + m) cap e - (n + m))).toList) e).post (y := .v _) hd rfl ?_
    exact hk w.heap.size _ _ hge hcm (by rw [zeroCells_len, hzs]) (R.sub.fresh (Nat.le_refl _))
theorem es_cy (R : RelB blk N H0 w0 E H a w) {c : Call} {F : Form} (hc : c.callee = .builtin .copy) (hd : okDst N dst) (ht : trOp P pr al dst (.call c) = some ao) (hf : ao.form E = some F) (hW : F.W P dst x E H K) :
    Oper.wp P ⟨dst, .call c, ty, pos, after, g⟩ a w (Post N H0 w0 K) Q := by
  simp only [trOp, hc] at ht
  split at ht
  case h_2 => cases ht
  rename_i o1 o2 t1 t2 hargs htys
  obtain ⟨ox, hx, ht⟩ := Option.bind_eq_some_iff.1 ht
  obtain ⟨oz, hz, ht⟩ := Option.bind_eq_some_iff.1 ht
  split at ht
  case h_2 => cases ht
  rename_i e hu
  obtain ⟨i, hi, ht⟩ := Option.bind_eq_some_iff.1 ht
  obtain rfl := Option.some.inj ht
  have ea : c.args = #[o1, o2] := by apply Array.ext'; simpa using hargs
  have et : c.argTypes = #[t1, t2] := by apply Array.ext'; simpa using htys
  simp only [AOp.form] at hf
  split at hf
  case h_2 => cases hf
  rename_i base n cap hv1
  split at hf
  case h_2 => cases hf
  rename_i src m c2 hv2
  simp only [Option.some.injEq] at hf; subst hf
  have e1 := trAO_val R hx hv1
  have e2 := trAO_val R hz hv2
  obtain ⟨news, hl, hh, hW⟩ := hW
  have lift : ∀ {w' : World}, (Builtin.copy_ #[t1, t2] ty #[.slice base n cap, .slice src m c2]).run P w = .ok (goInt (Nat.min m n)) w' → (execOp a.eval ⟨dst, .call c, ty, pos, after, g⟩).run P w = .ok (.value (.int .i64 (Nat.min m n))) w' := fun h => by
    simp [execOp, resolve, hc, ea, et, invoke, builtin, e1, e2, h, goInt]
  have hf := run_first (P := P) R.sub (c := c2) (src := src) (m := Nat.min m n) hl hh
  rcases hW with ⟨rfl, hk⟩ | ⟨ad, cs, t', rfl, hsp, ho, hfit, h1, hk⟩
  · refine upv (lift (w' := w) ?_) (R.post (y := .v _) hd rfl hk)
    have hf' : (Builtin.firstCells i.size (Nat.min m n) (.slice src m c2)).run P w = .ok #[] w := by
      cases src with
      | none => rfl
      | some b =>
        have hz0 : Nat.min m n * i.size = 0 := by rw [← hl]; rfl
        simp [Builtin.firstCells, hz0, loadCells, loadCellsFrom]
    cases base with
    | none => simp [Builtin.copy_, run_underlying hu, run_sz hi, Builtin.lenOf, hf']
    | some b => simp [Builtin.copy_, run_underlying hu, run_sz hi, Builtin.lenOf, hf', storeCells]
  · obtain ⟨b, off, sp⟩ := ad
    simp only at hsp ho hfit hk; subst hsp
    have hst := run_storeCells_at P b off t' news 0 cs.toArray w (R.sub.1 b cs t' ho) (by simpa using hfit) h1
    simp only [Nat.add_zero] at hst
    have hf' : (Builtin.firstCells i.size (Nat.min m n) (.slice src m c2)).run P w = .ok news.toArray w := by
      cases src with
      | none =>
        rcases hh with rfl | ⟨ad, e, _⟩
        · rfl
        · cases e
      | some sb => exact hf
    refine upv (lift (w' := w.setRow b (splice cs off news).toArray) ?_) ((R.sh ho _).post (y := .v _) hd rfl hk)
    simp [Builtin.copy_, run_underlying hu, run_sz hi, Builtin.lenOf, hf', hst, splice]
theorem es_cl (R : RelB blk N H0 w0 E H a w) {c : Call} {F : Form} (hc : c.callee = .builtin .clear) (hd : okDst N dst) (ht : trOp P pr al dst (.call c) = some ao) (hf : ao.form E = some F) (hW : F.W P dst x E H K) :
    Oper.wp P ⟨dst, .call c, ty, pos, after, g⟩ a w (Post N H0 w0 K) Q := by
  simp only [trOp, hc] at ht
  split at ht
  case h_2 => cases ht
  rename_i o1 t1 hargs htys
  obtain ⟨ox, hx, ht⟩ := Option.bind_eq_some_iff.1 ht
  split at ht
  case h_2 => cases ht
  rename_i e hu
  obtain ⟨i, hi, ht⟩ := Option.bind_eq_some_iff.1 ht
  obtain ⟨z, hzz, ht⟩ := Option.bind_eq_some_iff.1 ht
  obtain rfl := Option.some.inj ht
  have ea : c.args = #[o1] := by apply Array.ext'; simpa using hargs
  have et : c.argTypes = #[t1] := by apply Array.ext'; simpa using htys
  obtain ⟨zv, hzl, hzr, i', hi', hiz, hzs⟩ := run_zv hzz w
  simp only [AOp.form] at hf
  split at hf
  case h_2 => cases hf
  rename_i base n cap hv1
  simp only [Option.some.injEq] at hf; subst hf
  have e1 := trAO_val R hx hv1
  have lift : ∀ {w' : World}, (Builtin.clear_ #[t1] ty #[.slice base n cap]).run P w = .ok (.tuple #[]) w' → (execOp a.eval ⟨dst, .call c, ty, pos, after, g⟩).run P w = .ok (.value (.tuple #[])) w' := fun h => by
    simp [execOp, resolve, hc, ea, et, invoke, builtin, e1, h]
  have hzc : (Builtin.zeroCells zv.cells n).toList = (List.replicate n z).flatten := by
    have := range_rep zv.cells n
    rw [hzl] at this
    have h2 : Builtin.zeroCells zv.cells n = (Array.range (n * zv.cells.size)).map (fun i => zv.cells[i % zv.cells.size]!) := rfl
    rw [h2, this]
  rcases hW with ⟨h0, hk⟩ | ⟨ad, cs, t', rfl, hsp, ho, hfit, h1, hk⟩
  · refine upv (lift (w' := w) ?_) (R.post (y := .v _) hd rfl hk)
    cases base with
    | none => simp [Builtin.clear_, run_underlying hu]
    | some b =>
      cases n with
      | zero => simp [Builtin.clear_, run_underlying hu]
      | succ n => simp [Builtin.clear_, run_underlying hu, hzr, hzc, h0, storeCells]
  · obtain ⟨b, off, sp⟩ := ad
    simp only at hsp ho hfit hk; subst hsp
    have hst := run_storeCells_at P b off t' ((List.replicate n z).flatten) 0 cs.toArray w (R.sub.1 b cs t' ho) (by simpa using hfit) h1
    simp only [Nat.add_zero] at hst
    refine upv (lift (w' := w.setRow b (splice cs off ((List.replicate n z).flatten)).toArray) ?_) ((R.sh ho _).post (y := .v _) hd rfl hk)
    cases n with
    | zero =>
      have := setRow_self w b cs.toArray t' (0, 0) (R.sub.1 b cs t' ho)
      simp [Builtin.clear_, run_underlying hu, splice, this]
    | succ n =>
      have e3 : (Builtin.clear_ #[t1] ty #[.slice (some ⟨b, off, none⟩) (n + 1) cap]).run P w = ((storeCells ⟨b, off, none⟩ (Builtin.zeroCells zv.cells (n + 1)).toList).run P w).andThen fun _ w' => .ok (.tuple #[]) w' := by
        simp [Builtin.clear_, run_underlying hu, hzr]
      rw [e3, hzc, hst]
      rfl
end Go.HL
namespace Go.HL
open Go Go.RowKit
set_option linter.unusedVariables false
set_option linter.unusedSimpArgs false
variable {P : Program} {blk : Nat → Nat} {N : Nat} {H0 : Hp} {w0 : World} {E : Env} {H : Hp} {a : Act} {w : World}
  {pr : List Nat} {al : List (Nat × Nat)} {dst : Option Nat} {ty : TypeId} {pos : String} {after : Array Edge} {g : Option (Nat × Bool)} {ao : AOp} {y : AV}
  {K : Env → Hp → Prop} {x : Bool} {Q : Exit → Act → World → Prop}

theorem pv_of_kind {F : Form} (h : F.kind = 0) : ∃ y, F = .pv y := by
  cases F <;> simp [Form.kind] at h
  exact ⟨_, rfl⟩
theorem op_pv (R : RelB blk N H0 w0 E H a w) (hd : okDst N dst) {o : Oper} (ho : o.dst = dst) (hy : Yv P blk a w y o) (hW : Form.W P dst x E H K (.pv y)) : Oper.wp P o a w (Post N H0 w0 K) Q := by
  obtain ⟨u, h1, h2⟩ := hy
  subst ho
  exact upv h2 (R.post hd h1 hW)
theorem pv0 {F : Form} (hc : ao.cls = 0 ∨ ao.cls = 1) (hf : ao.form E = some F) (hl : ao.cls = 1 → ∃ y, F = .pv y) : ∃ y, F = .pv y := by
  rcases AOp.form_kind hf with h | h
  · exact pv_of_kind h
  · rcases hc with hc | hc
    · exact pv_of_kind (h.trans hc)
    · exact hl hc
theorem lv_pv {F : Form} {n r : Nat} {agg : Bool} {o : AO} (hf : AOp.form E (.lv n agg r o) = some F) : ∃ y, F = .pv y := by
  simp only [AOp.form] at hf
  (repeat' split at hf) <;> first | (cases hf; done) | (simp only [Option.some.injEq] at hf; exact ⟨_, hf.symm⟩)
theorem op_sound (R : RelB blk N H0 w0 E H a w) (hd : okDst N dst) {op : Op} {F : Form} (ht : trOp P pr al dst op = some ao) (hf : ao.form E = some F) (hW : F.W P dst x E H K) :
    Oper.wp P ⟨dst, op, ty, pos, after, g⟩ a w (Post N H0 w0 K) Q := by
  have go : ∀ (hc : ao.cls = 0) (ps : ∀ y, ao.form E = some (.pv y) → Yv P blk a w y ⟨dst, op, ty, pos, after, g⟩), Oper.wp P ⟨dst, op, ty, pos, after, g⟩ a w (Post N H0 w0 K) Q := fun hc ps => by
    obtain ⟨y, rfl⟩ := pv0 (.inl hc) hf (fun h => by rw [hc] at h; cases h)
    exact op_pv R hd rfl (ps y hf) hW
  cases op with
  | move o => exact go (by simp only [trOp] at ht; obtain ⟨_, _, ht⟩ := Option.bind_eq_some_iff.1 ht; obtain rfl := Option.some.inj ht; rfl) fun y h => ps_move R ht h
  | assign o => exact go (by simp only [trOp] at ht; obtain ⟨_, _, ht⟩ := Option.bind_eq_some_iff.1 ht; obtain rfl := Option.some.inj ht; rfl) fun y h => ps_assign R ht h
  | pick c o z => exact go (by simp only [trOp] at ht; obtain ⟨_, _, ht⟩ := Option.bind_eq_some_iff.1 ht; obtain ⟨_, _, ht⟩ := Option.bind_eq_some_iff.1 ht; obtain ⟨_, _, ht⟩ := Option.bind_eq_some_iff.1 ht; obtain rfl := Option.some.inj ht; rfl) fun y h => ps_pick R ht h
  | binOp bop t o z tz =>
    exact go (by
      simp only [trOp] at ht
      obtain ⟨_, _, ht⟩ := Option.bind_eq_some_iff.1 ht
      obtain ⟨_, _, ht⟩ := Option.bind_eq_some_iff.1 ht
      (repeat' split at ht) <;> first | (cases ht; done) | (obtain rfl := Option.some.inj ht; rfl) | (simp at ht; done)) fun y h => ps_bin R ht h
  | unOp u t o => exact go (by simp only [trOp] at ht; obtain ⟨_, _, ht⟩ := Option.bind_eq_some_iff.1 ht; obtain rfl := Option.some.inj ht; rfl) fun y h => ps_un R ht h
  | convert s d o =>
    exact go (by
      simp only [trOp] at ht
      obtain ⟨_, _, ht⟩ := Option.bind_eq_some_iff.1 ht
      split at ht <;> first | (cases ht; done) | (obtain rfl := Option.some.inj ht; rfl)) fun y h => ps_conv R ht h
  | extract o i => exact go (by simp only [trOp] at ht; obtain ⟨_, _, ht⟩ := Option.bind_eq_some_iff.1 ht; obtain rfl := Option.some.inj ht; rfl) fun y h => ps_extract R ht h
  | field t o f =>
    exact go (by
      simp only [trOp] at ht
      obtain ⟨_, _, ht⟩ := Option.bind_eq_some_iff.1 ht
      split at ht
      · obtain ⟨_, _, ht⟩ := Option.bind_eq_some_iff.1 ht
        obtain ⟨_, _, ht⟩ := Option.bind_eq_some_iff.1 ht
        obtain ⟨_, _, ht⟩ := Option.bind_eq_some_iff.1 ht
        obtain rfl := Option.some.inj ht; rfl
      · cases ht) fun y h => ps_field R ht h
  | build t ps =>
    exact go (by
      simp only [trOp] at ht
      obtain ⟨_, _, ht⟩ := Option.bind_eq_some_iff.1 ht
      split at ht
      · split at ht
        · obtain ⟨_, _, ht⟩ := Option.bind_eq_some_iff.1 ht
          obtain rfl := Option.some.inj ht; rfl
        · cases ht
      · cases ht) fun y h => ps_build R ht h
  | fieldAddr t o f =>
    exact go (by
      simp only [trOp] at ht
      obtain ⟨_, _, ht⟩ := Option.bind_eq_some_iff.1 ht
      split at ht
      · obtain ⟨_, _, ht⟩ := Option.bind_eq_some_iff.1 ht
        obtain ⟨_, _, ht⟩ := Option.bind_eq_some_iff.1 ht
        split at ht
        · cases ht
        · obtain rfl := Option.some.inj ht; rfl
      · cases ht) fun y h => ps_fieldAddr R ht h
  | indexAddr t o i =>
    exact go (by
      simp only [trOp] at ht
      obtain ⟨_, _, ht⟩ := Option.bind_eq_some_iff.1 ht
      obtain ⟨_, _, ht⟩ := Option.bind_eq_some_iff.1 ht
      split at ht
      · obtain ⟨_, _, ht⟩ := Option.bind_eq_some_iff.1 ht
        obtain rfl := Option.some.inj ht; rfl
      · cases ht) fun y h => ps_indexAddr R ht h
  | slice t o lo hi mx =>
    exact go (by
      simp only [trOp] at ht
      obtain ⟨_, _, ht⟩ := Option.bind_eq_some_iff.1 ht
      obtain ⟨_, _, ht⟩ := Option.bind_eq_some_iff.1 ht
      obtain ⟨_, _, ht⟩ := Option.bind_eq_some_iff.1 ht
      obtain ⟨_, _, ht⟩ := Option.bind_eq_some_iff.1 ht
      split at ht
      · obtain ⟨_, _, ht⟩ := Option.bind_eq_some_iff.1 ht
        obtain rfl := Option.some.inj ht; rfl
      · cases ht) fun y h => ps_slice R ht h
  | nilCheck o => exact go (by simp only [trOp] at ht; obtain ⟨_, _, ht⟩ := Option.bind_eq_some_iff.1 ht; obtain rfl := Option.some.inj ht; rfl) fun y h => ps_nilCheck R ht h
  | makeFunc fn first cap =>
    exact go (by
      cases fn <;> simp only [trOp] at ht <;> first | (cases ht; done) | skip
      split at ht
      · obtain ⟨_, _, ht⟩ := Option.bind_eq_some_iff.1 ht
        obtain rfl := Option.some.inj ht; rfl
      · cases ht) fun y h => ps_makeFunc R ht h
  | load t o =>
    cases F with
    | pv y => exact op_pv R hd rfl (ps_lv R ht hf) hW
    | lh ad n agg => exact es_ld R hd ht hf hW
    | _ =>
      exfalso
      simp only [trOp] at ht
      obtain ⟨_, _, ht⟩ := Option.bind_eq_some_iff.1 ht
      obtain ⟨_, _, ht⟩ := Option.bind_eq_some_iff.1 ht
      obtain ⟨_, _, ht⟩ := Option.bind_eq_some_iff.1 ht
      obtain rfl := Option.some.inj ht
      have := AOp.form_kind hf
      cases hlk : al.lookup (opTmp o) with
      | some r => simp only [hlk] at hf; obtain ⟨_, h⟩ := lv_pv hf; cases h
      | none => simp only [hlk] at this; simp [Form.kind, AOp.cls] at this
  | store t o z =>
    cases F with
    | sv t' cs => exact es_sv R ht hf hW
    | sh ad vs => exact es_st R ht hf hW
    | _ =>
      exfalso
      simp only [trOp] at ht
      obtain ⟨_, _, ht⟩ := Option.bind_eq_some_iff.1 ht
      obtain ⟨_, _, ht⟩ := Option.bind_eq_some_iff.1 ht
      obtain ⟨_, _, ht⟩ := Option.bind_eq_some_iff.1 ht
      obtain rfl := Option.some.inj ht
      cases hlk : al.lookup (opTmp o) with
      | some r => simp only [hlk, AOp.form] at hf; (repeat' split at hf) <;> cases hf
      | none => simp only [hlk, AOp.form] at hf; (repeat' split at hf) <;> cases hf
  | alloc t => exact es_alloc R hd ht hf hW
  | box t o => exact es_box R hd ht hf hW
  | buildSlice t len ps => exact es_bs R hd ht hf hW
  | makeSlice t l c => exact es_ms R hd ht hf hW
  | call c =>
    cases hc : c.callee with
    | value o =>
      cases o with
      | func f => exact es_ca R hc hd ht hf hW
      | tmp t => exact es_cf R hc (fun f e => by cases e) hd ht hf hW
      | const v => exact es_cf R hc (fun f e => by cases e) hd ht hf hW
      | global n => exact es_cf R hc (fun f e => by cases e) hd ht hf hW
    | invoke r m => simp only [trOp, hc] at ht; cases ht
    | builtin b =>
      cases b with
      | len =>
        exact go (by
          simp only [trOp, hc] at ht
          split at ht
          · obtain ⟨_, _, ht⟩ := Option.bind_eq_some_iff.1 ht
            split at ht
            · obtain rfl := Option.some.inj ht; rfl
            · cases ht
          · cases ht) fun y h => ps_len R hc ht h
      | min => exact go (by simp only [trOp, hc] at ht; obtain ⟨_, _, ht⟩ := Option.bind_eq_some_iff.1 ht; obtain rfl := Option.some.inj ht; rfl) fun y h => ps_mm R (.inl hc) ht h
      | max => exact go (by simp only [trOp, hc] at ht; obtain ⟨_, _, ht⟩ := Option.bind_eq_some_iff.1 ht; obtain rfl := Option.some.inj ht; rfl) fun y h => ps_mm R (.inr hc) ht h
      | cap =>
        exact go (by
          simp only [trOp, hc] at ht
          split at ht
          · obtain ⟨_, _, ht⟩ := Option.bind_eq_some_iff.1 ht
            split at ht
            · obtain rfl := Option.some.inj ht; rfl
            · cases ht
          · cases ht) fun y h => ps_cap R hc ht h
      | copy => exact es_cy R hc hd ht hf hW
      | append => exact es_ap R hc hd ht hf hW
      | clear => exact es_cl R hc hd ht hf hW
      | _ => simp only [trOp, hc] at ht; cases ht
  | _ => simp only [trOp] at ht; cases ht

/-! An operation with its guard. -/
def okDB (N : Nat) : Option Nat → Bool
  | some d => decide (d < N)
  | none => true
def trG (ops : Array Oper) : Option (Nat × Bool) → Option (Option (Nat × Bool))
  | none => some none
  | some (j, b) => match (ops[j]?).bind (·.dst) with | some t => some (some (t, b)) | none => none
def trOper (P : Program) (N : Nat) (pr : List Nat) (al : List (Nat × Nat)) (ops : Array Oper) (o : Oper) : Option AOper := do
  let op ← trOp P pr al o.dst o.op
  let g ← trG ops o.guard
  if okDB N o.dst then pure ⟨o.dst, op, g, false⟩ else none

theorem oper_sound (R : RelB blk N H0 w0 E H a w) {ops : Array Oper} {i : Nat} {o : Oper} {ao : AOper} (hi : ops[i]? = some o) (ht : trOper P N pr al ops o = some ao) {ao' : AOper} (he : ao'.d = ao.d ∧ ao'.op = ao.op ∧ ao'.g = ao.g) (hW : ao'.W P E H K) :
    wpOp P ops Q i (Post N H0 w0 K) a w := by
  obtain ⟨dst, op, ty, pos, after, guard⟩ := o
  unfold trOper at ht
  obtain ⟨op', hop, ht⟩ := Option.bind_eq_some_iff.1 ht
  obtain ⟨g', hg, ht⟩ := Option.bind_eq_some_iff.1 ht
  split at ht
  case isFalse => cases ht
  rename_i hN
  obtain rfl := Option.some.inj ht
  obtain ⟨d1, op1, g1, x1⟩ := ao'
  obtain ⟨rfl, rfl, rfl⟩ := he
  have hd : okDst N d1 := by
    cases d1 with
    | none => trivial
    | some d => simpa [okDB, okDst] using hN
  rw [AOper.W_def] at hW
  obtain ⟨F, hF, hW⟩ := hW
  unfold wpOp
  simp only [hi]
  cases guard with
  | none =>
    simp only [trG, Option.some.injEq] at hg; subst hg
    simp only [AOper.form] at hF
    rw [if_pos (by simp [Region.wanted])]
    exact .inl (op_sound R hd hop hF hW)
  | some jb =>
    obtain ⟨j, b⟩ := jb
    simp only [trG] at hg
    cases hj : (ops[j]?).bind (·.dst) with
    | none => rw [hj] at hg; cases hg
    | some t =>
      simp only [hj, Option.some.injEq] at hg; subst hg
      simp only [AOper.form] at hF
      split at hF
      · rename_i c hr
        obtain ⟨u, hu, hiu⟩ := R.regs t _ hr
        have hu' : a.tmps[t]? = some (.bool c) := by rw [hu]; exact congrArg some hiu
        have hyl : yielded ops a.tmps j = some c := by simp [yielded, hj, hu']
        split at hF
        · rename_i hcb
          rw [if_pos (by simp [Region.wanted, hyl, hcb])]
          exact .inl (op_sound R hd hop hF hW)
        · rename_i hcb
          rw [if_neg (by simp [Region.wanted, hyl, hcb])]
          simp only [Option.some.injEq] at hF; subst hF
          exact R.post (y := .v undef) hd rfl hW
      · rename_i u0 hnb hr
        obtain ⟨u, hu, hiu⟩ := R.regs t _ hr
        have hu' : a.tmps[t]? = some u0 := by rw [hu]; exact congrArg some hiu
        have hyl : yielded ops a.tmps j = none := by
          simp only [yielded, hj, Option.bind_some, hu']
          split
          · rename_i b' hb'
            simp only [Option.some.injEq] at hb'
            exact absurd hb' (hnb b')
          · rfl
        rw [if_neg (by simp [Region.wanted, hyl])]
        simp only [Option.some.injEq] at hF; subst hF
        exact R.post (y := .v undef) hd rfl hW
      · cases hF
end Go.HL
namespace Go.HL
open Go Go.RowKit
set_option linter.unusedVariables false
set_option linter.unusedSimpArgs false
variable {P : Program} {N : Nat} {H0 : Hp} {w0 : World} {E : Env} {H : Hp} {a : Act} {w : World}
  {pr : List Nat} {al : List (Nat × Nat)} {K : Env → Hp → Prop} {Q : Exit → Act → World → Prop}

def AOper.alike (x y : AOper) : Prop := x.d = y.d ∧ x.op = y.op ∧ x.g = y.g
def told (P : Program) (N : Nat) (pr : List Nat) (al : List (Nat × Nat)) (ops : Array Oper) (i : Nat) (ao : AOper) : Prop := ∃ o ao0, ops[i]? = some o ∧ trOper P N pr al ops o = some ao0 ∧ ao.alike ao0

theorem ops_sound {ops : Array Oper} (hQ : ∀ a w, Post N H0 w0 K a w → Q .normal a w) : ∀ (l : List (Nat × AOper)), (∀ p ∈ l, told P N pr al ops p.1 p.2) → ∀ {E H a w blk}, RelB blk N H0 w0 E H a w → WL P (l.map (·.2)) E H K →
    wpOps P ops Q (l.map (·.1)) a w
  | [], _, E, H, a, w, blk, R, h => hQ _ _ ⟨blk, E, H, R, h⟩
  | (i, ao) :: l, ht, E, H, a, w, blk, R, h => by
    obtain ⟨o, ao0, ho, htr, hal⟩ := ht (i, ao) (by simp)
    simp only [List.map_cons]
    rw [wpOps_cons]
    have h2 : ao.W P E H fun E' H' => WL P (l.map fun p => p.2) E' H' K := h
    refine wpOp_mono (fun a' w' hp => ?_) (oper_sound R ho htr hal h2)
    obtain ⟨blk', E', H', R', h'⟩ := hp
    exact ops_sound hQ l (fun p hp => ht p (by simp [hp])) R' h'

theorem WL_front {x : AOper} : ∀ {l1 : List AOper} {l2 : List AOper} {E : Env} {H : Hp}, (∀ y ∈ l1, okPair y x = true) → WL P (l1 ++ x :: l2) E H K → x.W P E H fun E' H' => WL P (l1 ++ l2) E' H' K
  | [], l2, E, H, _, h => h
  | y :: l1, l2, E, H, hp, h => by
    have h1 : y.W P E H fun E1 H1 => x.W P E1 H1 fun E2 H2 => WL P (l1 ++ l2) E2 H2 K :=
      AOper.W_mono h fun E1 H1 h' => WL_front (l1 := l1) (fun z hz => hp z (by simp [hz])) h'
    exact swap (hp y (by simp)) h1

/-! What waits for what, as bits. -/
def dps (o : Oper) : List Nat := (o.after.toList.filter (Region.binds .any)).map (·.on)
def maskOf (ms : List Nat) (o : Oper) : Nat := (dps o).foldl (fun s e => s ||| 2 ^ e ||| ms.getD e 0) 0
def masks (ops : List Oper) : List Nat := ops.foldl (fun ms o => ms ++ [maskOf ms o]) []
def masksOk (ops : Array Oper) (ms : List Nat) : Bool :=
  (List.range ops.size).all fun i => match ops[i]? with
    | some o => (dps o).all (fun e => decide (e < i)) && (ms.getD i 0 == maskOf ms o)
    | none => false
theorem testBit_fold (m : Nat → Nat) (j : Nat) : ∀ (l : List Nat) (s : Nat), (l.foldl (fun s e => s ||| 2 ^ e ||| m e) s).testBit j = (s.testBit j || l.any fun e => decide (e = j) || (m e).testBit j)
  | [], s => by simp
  | e :: l, s => by
    rw [List.foldl_cons, testBit_fold m j l]
    simp only [Nat.testBit_or, Nat.testBit_two_pow, List.any_cons]
    cases s.testBit j <;> cases (m e).testBit j <;> cases decide (e = j) <;> simp
theorem mask_listed {ops : Array Oper} {ms : List Nat} (hm : masksOk ops ms = true) {S : Nat → Prop} (hS : ∀ i o, ops[i]? = some o → S i → ∀ e ∈ dps o, S e) :
    ∀ i o, ops[i]? = some o → (∀ e ∈ dps o, S e) → ∀ j, (ms.getD i 0).testBit j = true → S j := by
  intro i
  induction i using Nat.strongRecOn with
  | _ i ih =>
    intro o ho hd j hj
    have hlt : i < ops.size := (Array.getElem?_eq_some_iff.1 ho).1
    have h1 := List.all_eq_true.1 hm i (List.mem_range.2 hlt)
    simp only [ho, Bool.and_eq_true, beq_iff_eq] at h1
    rw [h1.2, maskOf, testBit_fold (fun e => ms.getD e 0)] at hj
    simp only [Nat.zero_testBit, Bool.false_or, List.any_eq_true, Bool.or_eq_true, decide_eq_true_eq] at hj
    obtain ⟨e, he, hej⟩ := hj
    rcases hej with rfl | hej
    · exact hd e he
    · have hei : e < i := by simpa using List.all_eq_true.1 h1.1 e he
      obtain ⟨oe, hoe⟩ : ∃ oe, ops[e]? = some oe := ⟨ops[e]'(by omega), by simp⟩
      exact ih e hei oe hoe (hS e oe hoe (hd e he)) j hej

def pairsOk (ms : List Nat) : List (Nat × AOper) → Bool
  | [] => true
  | y :: l => l.all (fun x => (ms.getD x.1 0).testBit y.1 || okPair y.2 x.2) && pairsOk ms l
theorem pairsOk_split {ms : List Nat} {x : Nat × AOper} : ∀ {l1 l2 : List (Nat × AOper)}, pairsOk ms (l1 ++ x :: l2) = true → (∀ y ∈ l1, (ms.getD x.1 0).testBit y.1 = true ∨ okPair y.2 x.2 = true) ∧ pairsOk ms (l1 ++ l2) = true
  | [], l2, h => by
    simp only [List.nil_append, pairsOk, Bool.and_eq_true] at h
    exact ⟨fun y hy => by simp at hy, h.2⟩
  | y :: l1, l2, h => by
    simp only [List.cons_append, pairsOk, Bool.and_eq_true, List.all_eq_true, Bool.or_eq_true] at h ⊢
    obtain ⟨h1, h2⟩ := pairsOk_split h.2
    refine ⟨fun z hz => ?_, fun z hz => ?_, h2⟩
    · rcases List.mem_cons.1 hz with rfl | hz
      · exact h.1 x (by simp)
      · exact h1 z hz
    · refine h.1 z ?_
      simp only [List.mem_append, List.mem_cons] at hz ⊢
      rcases hz with hz | hz
      · exact .inl hz
      · exact .inr (.inr hz)

theorem nodup_mid {α : Type} {x : α} {l1 l2 : List α} (h : (l1 ++ x :: l2).Nodup) : (x :: (l1 ++ l2)).Nodup := (List.perm_middle.nodup_iff).1 h
theorem any_sound {ops : Array Oper} {ms : List Nat} (hm : masksOk ops ms = true) (hQ : ∀ a w, Post N H0 w0 K a w → Q .normal a w) :
    ∀ (fuel : Nat) (listed : Array Bool) (L : List (Nat × AOper)), listed.size = ops.size → fuel = L.length → (∀ i, i < ops.size → listed.getD i true = false → ∃ ao, (i, ao) ∈ L) → (∀ p ∈ L, p.1 < ops.size ∧ listed.getD p.1 true = false) → (L.map (·.1)).Nodup →
      (∀ p ∈ L, told P N pr al ops p.1 p.2) → (∀ i o, ops[i]? = some o → listed.getD i false = true → ∀ e ∈ dps o, listed.getD e false = true) → pairsOk ms L = true →
      ∀ {E H a w blk}, RelB blk N H0 w0 E H a w → WL P (L.map (·.2)) E H K → wpAny P .any ops Q fuel listed a w := by
  intro fuel
  induction fuel with
  | zero =>
    intro listed L hsz hf hin hout hnd ht hcl hp E H a w blk R h
    have hL : L = [] := List.eq_nil_of_length_eq_zero hf.symm
    subst hL
    refine ⟨?_, hQ _ _ ⟨blk, E, H, R, h⟩⟩
    apply List.eq_nil_iff_forall_not_mem.2
    intro i hi
    obtain ⟨h1, o, ho, _⟩ := mem_ready.1 hi
    obtain ⟨ao, hao⟩ := hin i (Array.getElem?_eq_some_iff.1 ho).1 h1
    simp at hao
  | succ fuel ih =>
    intro listed L hsz hf hin hout hnd ht hcl hp E H a w blk R h
    have lst : ∀ e, e < ops.size → listed.getD e true = true → listed.getD e false = true := fun e he h => by
      have : e < listed.size := by omega
      simpa [this] using h
    refine ⟨fun hr => ?_, fun i hi => ?_⟩
    · -- the least one that is not listed is ready
      exfalso
      have hex : ∃ i, i < ops.size ∧ listed.getD i true = false := by
        cases L with
        | nil => simp at hf
        | cons p l => exact ⟨p.1, hout p (by simp)⟩
      have key : ∀ n, ∀ i, i ≤ n → i < ops.size → listed.getD i true = false → False := by
        intro n
        induction n with
        | zero =>
          intro i hin' hi hl
          have : i = 0 := by omega
          subst this
          have hmem : 0 ∈ Region.ready .any ops listed := by
            refine mem_ready.2 ⟨hl, ops[0], by simp [hi], fun e he hb => ?_⟩
            have h1 := List.all_eq_true.1 hm 0 (List.mem_range.2 hi)
            simp only [show ops[0]? = some ops[0] by simp [hi], Bool.and_eq_true] at h1
            have := List.all_eq_true.1 h1.1 e.on (by simp only [dps, List.mem_map, List.mem_filter]; exact ⟨e, ⟨by simpa using he, hb⟩, rfl⟩)
            simp at this
          rw [hr] at hmem; simp at hmem
        | succ n ihn =>
          intro i hin' hi hl
          have hmem : i ∈ Region.ready .any ops listed := by
            refine mem_ready.2 ⟨hl, ops[i], by simp [hi], fun e he hb => ?_⟩
            have h1 := List.all_eq_true.1 hm i (List.mem_range.2 hi)
            simp only [show ops[i]? = some ops[i] by simp [hi], Bool.and_eq_true] at h1
            have hlt := List.all_eq_true.1 h1.1 e.on (by simp only [dps, List.mem_map, List.mem_filter]; exact ⟨e, ⟨by simpa using he, hb⟩, rfl⟩)
            simp only [decide_eq_true_eq] at hlt
            cases hle : listed.getD e.on true with
            | false => exact (ihn e.on (by omega) (by omega) hle).elim
            | true => exact lst e.on (by omega) hle
          rw [hr] at hmem; simp at hmem
      obtain ⟨i, h1, h2⟩ := hex
      exact key i i (Nat.le_refl _) h1 h2
    · obtain ⟨h1, o, ho, hall⟩ := mem_ready.1 hi
      have hilt : i < ops.size := (Array.getElem?_eq_some_iff.1 ho).1
      obtain ⟨ao, hao⟩ := hin i hilt h1
      obtain ⟨L1, L2, rfl⟩ := List.append_of_mem hao
      obtain ⟨hpx, hp'⟩ := pairsOk_split hp
      have hdl : ∀ e ∈ dps o, listed.getD e false = true := fun e he => by
        simp only [dps, List.mem_map, List.mem_filter] at he
        obtain ⟨e', ⟨he', hb⟩, rfl⟩ := he
        exact hall e' (by simpa using he') hb
      have hmask := mask_listed hm (S := fun j => listed.getD j false = true) (fun i o ho hs e he => hcl i o ho hs e he) i o ho hdl
      have hok : ∀ y ∈ L1.map (·.2), okPair y ao = true := fun y hy => by
        obtain ⟨p, hp1, rfl⟩ := List.mem_map.1 hy
        rcases hpx p hp1 with hb | hb
        · have hl := hmask p.1 hb
          have h2 := (hout p (by simp [hp1])).2
          have hlt : p.1 < listed.size := by rw [hsz]; exact (hout p (by simp [hp1])).1
          simp [hlt] at hl h2
          rw [h2] at hl; cases hl
        · exact hb
      simp only [List.map_append, List.map_cons] at h
      have h' := WL_front hok h
      obtain ⟨o', ao0, ho', htr, hal⟩ := ht (i, ao) (by simp)
      have hnd' : i ∉ (L1 ++ L2).map (·.1) := by
        simp only [List.map_append, List.map_cons] at hnd
        have := nodup_mid hnd
        simpa using (List.nodup_cons.1 this).1
      refine wpOp_mono (fun a' w' hpost => ?_) (oper_sound R ho' htr hal (K := fun E' H' => WL P (L1.map (·.2) ++ L2.map (·.2)) E' H' K) h')
      obtain ⟨blk', E', H', R', hw'⟩ := hpost
      refine ih (listed.setIfInBounds i true) (L1 ++ L2) (by simpa using hsz) (by simp at hf ⊢; omega) (fun j hj hl => ?_) (fun p hp2 => ?_) ?_ (fun p hp2 => ht p ?_) (fun j oj hj hl e he => ?_) hp' R' (by simpa using hw')
      · have hji : j ≠ i := fun e => by
          subst e
          simp [hsz, hj] at hl
        rw [getD_set_ne true (Ne.symm hji)] at hl
        obtain ⟨ao', hm'⟩ := hin j hj hl
        simp only [List.mem_append, List.mem_cons, Prod.mk.injEq] at hm' ⊢
        rcases hm' with hm' | ⟨h3, _⟩ | hm'
        · exact ⟨ao', .inl hm'⟩
        · exact absurd h3 hji
        · exact ⟨ao', .inr hm'⟩
      · have hmem : p ∈ L1 ++ (i, ao) :: L2 := by
          simp only [List.mem_append, List.mem_cons] at hp2 ⊢
          rcases hp2 with hp2 | hp2
          · exact .inl hp2
          · exact .inr (.inr hp2)
        obtain ⟨q1, q2⟩ := hout p hmem
        have hne : p.1 ≠ i := fun e => hnd' (by rw [← e]; exact List.mem_map.2 ⟨p, hp2, rfl⟩)
        exact ⟨q1, by rw [getD_set_ne true (Ne.symm hne)]; exact q2⟩
      · simp only [List.map_append, List.map_cons] at hnd ⊢
        exact (List.nodup_cons.1 (nodup_mid hnd)).2
      · simp only [List.mem_append, List.mem_cons] at hp2 ⊢
        rcases hp2 with hp2 | hp2
        · exact .inl hp2
        · exact .inr (.inr hp2)
      · by_cases hji : j = i
        · subst hji
          obtain rfl : o = oj := Option.some.inj (ho.symm.trans hj)
          exact getD_set_true (hdl e he)
        · rw [getD_set_ne false (Ne.symm hji)] at hl
          exact getD_set_true (hcl j oj hj hl e he)
end Go.HL
namespace Go.HL
open Go Go.RowKit
set_option linter.unusedVariables false
set_option linter.unusedSimpArgs false
variable {P : Program}

inductive AC where
  | sk
  | rg (l : List AOper)
  | sq (a b : AC)
  | cd (c : AO) (t e : AC)
  | bk (id : Nat) (c : AC)
  | lp (c : AC)
  | xt (id : Nat)
  | rt
inductive X where
  | n
  | x (id : Nat)
  | r
def X.to : X → Exit
  | .n => .normal
  | .x id => .exit id
  | .r => .ret

def seqQ (k : Env → Hp → Prop) (Q : X → Env → Hp → Prop) : X → Env → Hp → Prop
  | .n => k
  | .x i => Q (.x i)
  | .r => Q .r
def bkQ (id : Nat) (Q : X → Env → Hp → Prop) : X → Env → Hp → Prop
  | .n => Q .n
  | .x i => if i = id then Q .n else Q (.x i)
  | .r => Q .r
def iterW (body : Env → Hp → (X → Env → Hp → Prop) → Prop) (Q : X → Env → Hp → Prop) : Nat → Env → Hp → Prop
  | 0, _, _ => False
  | n + 1, E, H => body E H (seqQ (iterW body Q n) Q)
def AC.W (P : Program) : AC → Env → Hp → (X → Env → Hp → Prop) → Prop
  | .sk, E, H, Q => Q .n E H
  | .rg l, E, H, Q => WL P l E H (Q .n)
  | .sq a b, E, H, Q => a.W P E H (seqQ (fun E' H' => b.W P E' H' Q) Q)
  | .cd c t e, E, H, Q => match c.val E with
    | some (.bool b) => (b = true → t.W P E H Q) ∧ (b = false → e.W P E H Q)
    | _ => False
  | .bk id c, E, H, Q => c.W P E H (bkQ id Q)
  | .lp c, E, H, Q => ∃ n, iterW (fun E H Q => c.W P E H Q) Q n E H
  | .xt id, E, H, Q => Q (.x id) E H
  | .rt, E, H, Q => Q .r E H

theorem iterW_mono {body : Env → Hp → (X → Env → Hp → Prop) → Prop} (hb : ∀ E H Q Q', body E H Q → (∀ x E H, Q x E H → Q' x E H) → body E H Q') {Q Q' : X → Env → Hp → Prop} (k : ∀ x E H, Q x E H → Q' x E H) :
    ∀ n E H, iterW body Q n E H → iterW body Q' n E H
  | 0, _, _, h => h
  | n + 1, E, H, h => hb _ _ _ _ h fun x E H hx => by
    cases x with
    | n => exact iterW_mono hb k n E H hx
    | x i => exact k _ _ _ hx
    | r => exact k _ _ _ hx
theorem AC.W_mono : ∀ {c : AC} {E : Env} {H : Hp} {Q Q' : X → Env → Hp → Prop}, c.W P E H Q → (∀ x E H, Q x E H → Q' x E H) → c.W P E H Q'
  | .sk, _, _, _, _, h, k => k _ _ _ h
  | .rg l, _, _, _, _, h, k => WL_mono h (k .n)
  | .sq a b, _, _, Q, Q', h, k => AC.W_mono (c := a) h fun x E H hx => by
    cases x with
    | n => exact AC.W_mono (c := b) hx k
    | x i => exact k _ _ _ hx
    | r => exact k _ _ _ hx
  | .cd c t e, E, _, _, _, h, k => by
    unfold AC.W at *
    split
    · rename_i b hb
      rw [hb] at h
      exact ⟨fun q => AC.W_mono (c := t) (h.1 q) k, fun q => AC.W_mono (c := e) (h.2 q) k⟩
    · rename_i hne
      split at h
      · rename_i b hb; exact absurd hb (hne b)
      · exact h
  | .bk id c, _, _, _, _, h, k => AC.W_mono (c := c) h fun x E H hx => by
    cases x with
    | n => exact k _ _ _ hx
    | x i => simp only [bkQ] at hx ⊢; split <;> rename_i hi <;> simp only [hi, if_true, if_false] at hx <;> exact k _ _ _ hx
    | r => exact k _ _ _ hx
  | .lp c, _, _, _, _, ⟨n, h⟩, k => ⟨n, iterW_mono (body := fun E H Q => c.W P E H Q) (fun _ _ _ _ h k => AC.W_mono (c := c) h k) k n _ _ h⟩
  | .xt id, _, _, _, _, h, k => k _ _ _ h
  | .rt, _, _, _, _, h, k => k _ _ _ h

/-! From the program's code. -/
def prio (o : AOper) : Nat := match o.op.cls with | 2 => 0 | 0 => 1 | 1 => 2 | 4 => 3 | 6 => 5 | _ => 4
def best : List (Nat × AOper) → Option (Nat × AOper)
  | [] => none
  | p :: l => match best l with | none => some p | some q => if prio q.2 < prio p.2 then some q else some p
def canonGo (ms : List Nat) (dp : Nat → List Nat) : Nat → List (Nat × AOper) → List (Nat × AOper) → List (Nat × AOper)
  | 0, _, acc => acc.reverse
  | f + 1, rem, acc =>
    match best (rem.filter fun p => (dp p.1).all fun e => acc.any fun q => q.1 == e) with
    | none => acc.reverse
    | some p => canonGo ms dp f (rem.filter fun q => q.1 != p.1) ((p.1, { p.2 with x := p.2.op.cls == 7 && acc.any fun q => q.2.op.cls == 4 && !(ms.getD p.1 0).testBit q.1 }) :: acc)
def trOps (P : Program) (N : Nat) (pr : List Nat) (al : List (Nat × Nat)) (ops : Array Oper) : List Oper → Option (List AOper)
  | [] => some []
  | o :: l => match trOper P N pr al ops o with
    | some a => match trOps P N pr al ops l with | some r => some (a :: r) | none => none
    | none => none
def toldB (P : Program) (N : Nat) (pr : List Nat) (al : List (Nat × Nat)) (ops : Array Oper) (as : List AOper) : Bool := true
def aeq (x y : AOper) : Prop := x.alike y
/-- A region of open order, told in one order. -/
def drawOk (ops : Array Oper) (ms : List Nat) (L : List (Nat × AOper)) : Bool :=
  masksOk ops ms && (L.length == ops.size) && L.all (fun p => decide (p.1 < ops.size)) && decide ((L.map fun p => p.1).Nodup) && ((List.range ops.size).all fun i => (L.map fun p => p.1).contains i) && pairsOk ms L
def zipI (as : List AOper) : List (Nat × AOper) := as.zipIdx.map fun p => (p.2, p.1)
def trDraw (ops : Array Oper) (as : List AOper) : Option (List AOper) :=
  let ms := masks ops.toList
  let L := canonGo ms (fun i => match ops[i]? with | some o => dps o | none => []) as.length (zipI as) []
  -- the one told is the one translated, but for the mark 'x'
  let L' := L.map fun p => (p.1, match as[p.1]? with | some a => { a with x := p.2.x } | none => p.2)
  if drawOk ops ms L' then some (L'.map fun p => p.2) else none
def trC (P : Program) (N : Nat) (pr : List Nat) (al : List (Nat × Nat)) : Code → Option AC
  | .skip => some .sk
  | .region _ ops draw => match trOps P N pr al ops ops.toList with
    | some as => if draw then (if P.follows .mixedOrders then (trDraw ops as).map .rg else none) else some (.rg as)
    | none => none
  | .seq a b => match trC P N pr al a with
    | some x => match trC P N pr al b with | some y => some (.sq x y) | none => none
    | none => none
  | .cond c t e => match trAO c with
    | some o => match trC P N pr al t with
      | some x => match trC P N pr al e with | some y => some (.cd o x y) | none => none
      | none => none
    | none => none
  | .block id c => match trC P N pr al c with | some x => some (.bk id x) | none => none
  | .loop c => match trC P N pr al c with | some x => some (.lp x) | none => none
  | .exit id => some (.xt id)
  | .ret => some .rt
  | _ => none

section
variable {N : Nat} {H0 : Hp} {w0 : World} {pr : List Nat} {al : List (Nat × Nat)}
def PostX (N : Nat) (H0 : Hp) (w0 : World) (Q : X → Env → Hp → Prop) (e : Exit) (a : Act) (w : World) : Prop := ∃ x, e = x.to ∧ Post N H0 w0 (Q x) a w

theorem trOps_told {ops : Array Oper} : ∀ {l : List Oper} {as : List AOper}, trOps P N pr al ops l = some as → as.length = l.length ∧ ∀ (i : Nat) (o : Oper), l[i]? = some o → ∃ a, as[i]? = some a ∧ trOper P N pr al ops o = some a
  | [], as, h => by simp only [trOps, Option.some.injEq] at h; subst h; exact ⟨rfl, fun i o h => by simp at h⟩
  | o :: l, as, h => by
    simp only [trOps] at h
    cases h1 : trOper P N pr al ops o with
    | none => rw [h1] at h; cases h
    | some a =>
      simp only [h1] at h
      cases h2 : trOps P N pr al ops l with
      | none => rw [h2] at h; cases h
      | some r =>
        simp only [h2, Option.some.injEq] at h; subst h
        obtain ⟨h3, h4⟩ := trOps_told h2
        refine ⟨by simp [h3], fun i o' hi => ?_⟩
        cases i with
        | zero => simp at hi; subst hi; exact ⟨a, rfl, h1⟩
        | succ i => simpa using h4 i o' (by simpa using hi)

theorem region_plain {ops : Array Oper} {as : List AOper} (ht : trOps P N pr al ops ops.toList = some as) {Q : X → Env → Hp → Prop} {id : Nat} {E : Env} {H : Hp} {a : Act} {w : World} {blk : Nat → Nat}
    (R : RelB blk N H0 w0 E H a w) (h : WL P as E H (Q .n)) : (Code.region id ops false).wp P (PostX N H0 w0 Q) a w := by
  obtain ⟨hlen, hget⟩ := trOps_told ht
  refine wp_region ?_
  have h1 : (zipI as).map (fun p => p.2) = as := by
    simp [zipI, List.map_map, Function.comp_def]
  have h2 : (zipI as).map (fun p => p.1) = List.range ops.size := by
    simp only [zipI, List.map_map, Function.comp_def]
    rw [List.zipIdx_map_snd]
    simp [hlen, List.range_eq_range']
  rw [← h2]
  refine ops_sound (pr := pr) (al := al) (K := Q .n) (fun a w hp => ⟨.n, rfl, hp⟩) (zipI as) (fun p hp => ?_) R (by rw [h1]; exact h)
  simp only [zipI, List.mem_map] at hp
  obtain ⟨⟨b, i⟩, hb, rfl⟩ := hp
  have hbi : as[i]? = some b := by simpa using List.mk_mem_zipIdx_iff_getElem?.1 hb
  have hlt : i < ops.size := by
    have := (List.getElem?_eq_some_iff.1 hbi).1
    rw [hlen] at this; simpa using this
  obtain ⟨a', ha', htr⟩ := hget i ops[i] (by simp [hlt])
  obtain rfl : b = a' := Option.some.inj (hbi.symm.trans ha')
  exact ⟨ops[i], b, by simp [hlt], htr, rfl, rfl, rfl⟩
theorem region_draw {ops : Array Oper} {as as' : List AOper} (ht : trOps P N pr al ops ops.toList = some as) (hd : trDraw ops as = some as') (hm : P.follows .mixedOrders = true) {Q : X → Env → Hp → Prop} {id : Nat} {E : Env} {H : Hp} {a : Act} {w : World} {blk : Nat → Nat}
    (R : RelB blk N H0 w0 E H a w) (h : WL P as' E H (Q .n)) : (Code.region id ops true).wp P (PostX N H0 w0 Q) a w := by
  obtain ⟨hlen, hget⟩ := trOps_told ht
  unfold trDraw at hd
  simp only at hd
  generalize hL : (canonGo (masks ops.toList) (fun i => match ops[i]? with | some o => dps o | none => []) as.length (zipI as) []).map (fun p => (p.1, match as[p.1]? with | some a => { a with x := p.2.x } | none => p.2)) = L at hd
  split at hd
  case isFalse => cases hd
  rename_i hok
  simp only [Option.some.injEq] at hd; subst hd
  unfold drawOk at hok
  simp only [Bool.and_eq_true, beq_iff_eq, decide_eq_true_eq, List.all_eq_true] at hok
  obtain ⟨⟨⟨⟨⟨hms, hl⟩, hlt⟩, hnd⟩, hall⟩, hpo⟩ := hok
  have htold : ∀ p ∈ L, told P N pr al ops p.1 p.2 := fun p hp => by
    have hp1 := hlt p hp
    obtain ⟨a', ha', htr⟩ := hget p.1 (ops[p.1]'hp1) (by simp [hp1])
    rw [← hL] at hp
    obtain ⟨q, hq, rfl⟩ := List.mem_map.1 hp
    simp only at ha' htr hp1 ⊢
    refine ⟨ops[q.1]'hp1, a', by simp [hp1], htr, ?_⟩
    rw [ha']
    exact ⟨rfl, rfl, rfl⟩
  refine wp_region_any hm ?_
  refine any_sound (pr := pr) (al := al) hms (K := Q .n) (fun a w hp => ⟨.n, rfl, hp⟩) ops.size _ L (by simp) hl.symm (fun i hi _ => ?_) (fun p hp => ⟨hlt p hp, by simp [hlt p hp]⟩) hnd htold (fun i o ho hl e he => by
    exfalso
    have : i < ops.size := (Array.getElem?_eq_some_iff.1 ho).1
    simp [this] at hl) hpo (R.drew) h
  -- all numbers are there
  have hmem : i ∈ L.map fun p => p.1 := by
    have := hall i (List.mem_range.2 hi)
    simpa [List.contains_iff_mem] using this
  obtain ⟨p, hp, rfl⟩ := List.mem_map.1 hmem
  exact ⟨p.2, hp⟩

theorem code_sound : ∀ (c : Code) {ac : AC}, trC P N pr al c = some ac → ∀ {Q : X → Env → Hp → Prop} {E : Env} {H : Hp} {a : Act} {w : World} {blk : Nat → Nat}, RelB blk N H0 w0 E H a w → ac.W P E H Q → c.wp P (PostX N H0 w0 Q) a w
  | .skip, ac, ht, Q, E, H, a, w, blk, R, h => by
    simp only [trC, Option.some.injEq] at ht; subst ht
    exact wp_skip ⟨.n, rfl, blk, E, H, R, h⟩
  | .region id ops draw, ac, ht, Q, E, H, a, w, blk, R, h => by
    simp only [trC] at ht
    split at ht
    · rename_i as has
      split at ht
      · rename_i hdr
        split at ht
        · rename_i hm
          obtain ⟨as', h1, rfl⟩ := Option.map_eq_some_iff.1 ht
          subst hdr
          exact region_draw has h1 hm R h
        · cases ht
      · rename_i hdr
        simp only [Option.some.injEq] at ht; subst ht
        have : draw = false := by simpa using hdr
        subst this
        exact region_plain has R h
    · cases ht
  | .seq x y, ac, ht, Q, E, H, a, w, blk, R, h => by
    simp only [trC] at ht
    split at ht
    · rename_i a1 h1
      split at ht
      · rename_i a2 h2
        simp only [Option.some.injEq] at ht; subst ht
        refine wp_seq (Code.wp_mono (fun e a' w' hp => ?_) (code_sound x h1 R h))
        obtain ⟨z, rfl, blk', E', H', R', hz⟩ := hp
        cases z with
        | n => exact code_sound y h2 R' hz
        | x i => exact ⟨.x i, rfl, blk', E', H', R', hz⟩
        | r => exact ⟨.r, rfl, blk', E', H', R', hz⟩
      · cases ht
    · cases ht
  | .cond o x y, ac, ht, Q, E, H, a, w, blk, R, h => by
    simp only [trC] at ht
    split at ht
    · rename_i o' ho
      split at ht
      · rename_i a1 h1
        split at ht
        · rename_i a2 h2
          simp only [Option.some.injEq] at ht; subst ht
          simp only [AC.W] at h
          split at h
          · rename_i b hb
            refine wp_cond_split (trAO_val R ho hb) (fun q => code_sound x h1 R (h.1 q)) (fun q => code_sound y h2 R (h.2 q))
          · exact h.elim
        · cases ht
      · cases ht
    · cases ht
  | .block id c, ac, ht, Q, E, H, a, w, blk, R, h => by
    simp only [trC] at ht
    split at ht
    · rename_i a1 h1
      simp only [Option.some.injEq] at ht; subst ht
      refine wp_block (Code.wp_mono (fun e a' w' hp => ?_) (code_sound c h1 R h))
      obtain ⟨z, rfl, blk', E', H', R', hz⟩ := hp
      cases z with
      | n => exact ⟨.n, rfl, blk', E', H', R', hz⟩
      | x i =>
        simp only [X.to, Exit.inBlock]
        simp only [bkQ] at hz
        split
        · rename_i hi; rw [if_pos hi] at hz; exact ⟨.n, rfl, blk', E', H', R', hz⟩
        · rename_i hi; rw [if_neg hi] at hz; exact ⟨.x i, rfl, blk', E', H', R', hz⟩
      | r => exact ⟨.r, rfl, blk', E', H', R', hz⟩
    · cases ht
  | .loop c, ac, ht, Q, E, H, a, w, blk, R, h => by
    simp only [trC] at ht
    split at ht
    · rename_i a1 h1
      simp only [Option.some.injEq] at ht; subst ht
      obtain ⟨n, h⟩ := h
      intro b k cs
      have key : ∀ n {E H a w blk}, RelB blk N H0 w0 E H a w → iterW (fun E H Q => a1.W P E H Q) Q n E H →
          ∃ e a' w', PostX N H0 w0 Q e a' w' ∧ Arrives P (lone (b.at a (.code c :: .inLoop c :: k)) cs w) b k cs e a' w' := by
        intro n
        induction n with
        | zero => intro E H a w blk R h; exact h.elim
        | succ n ih =>
          intro E H a w blk R h
          obtain ⟨e, a₁, w₁, ⟨z, rfl, blk', E', H', R', hz⟩, harr⟩ := code_sound c h1 R h b (.inLoop c :: k) cs
          cases z with
          | n =>
            obtain ⟨e₂, a₂, w₂, hq₂, harr₂⟩ := ih R' hz
            exact ⟨e₂, a₂, w₂, hq₂, .of_steps (Steps.trans harr (.one step_inLoop)) harr₂⟩
          | x i => exact ⟨_, a₁, w₁, ⟨.x i, rfl, blk', E', H', R', hz⟩, .pass (x := .inLoop c) rfl (fun _ _ => .inl (by simp [X.to])) harr⟩
          | r => exact ⟨_, a₁, w₁, ⟨.r, rfl, blk', E', H', R', hz⟩, .pass (x := .inLoop c) rfl (fun _ _ => .inl (by simp [X.to])) harr⟩
      obtain ⟨e, a', w', hq, harr⟩ := key n R h
      exact ⟨e, a', w', hq, .of_steps (.one step_loop) harr⟩
    · cases ht
  | .exit id, ac, ht, Q, E, H, a, w, blk, R, h => by
    simp only [trC, Option.some.injEq] at ht; subst ht
    exact wp_exit ⟨.x id, rfl, blk, E, H, R, h⟩
  | .ret, ac, ht, Q, E, H, a, w, blk, R, h => by
    simp only [trC, Option.some.injEq] at ht; subst ht
    exact wp_ret ⟨.r, rfl, blk, E, H, R, h⟩
  | .rangeFunc _ _ _ _, ac, ht, _, _, _, _, _, _, _, _ => by simp only [trC] at ht; cases ht
  | .scope _, ac, ht, _, _, _, _, _, _, _, _ => by simp only [trC] at ht; cases ht
  | .label _, ac, ht, _, _, _, _, _, _, _, _ => by simp only [trC] at ht; cases ht
  | .goto _, ac, ht, _, _, _, _, _, _, _, _ => by simp only [trC] at ht; cases ht
  | .refuse _, ac, ht, _, _, _, _, _, _, _, _ => by simp only [trC] at ht; cases ht
end

/-! Functions. -/
inductive AR where
  | tm (r : Nat)
  | cl (r n : Nat) (agg : Bool)
structure AF where
  n : Nat
  np : Nat
  body : AC
  res : List AR
def AR.val (E : Env) : AR → Option Value
  | .tm r => match E.r r with | some (.v v) => some v | _ => none
  | .cl r n agg => match E.r r with
    | some (.p t off) => match E.x t with
      | some cs => match sub cs off n with
        | some vs => mkV? agg vs
        | none => none
      | none => none
    | _ => none
def resL (E : Env) : List AR → Option (List Value)
  | [] => some []
  | x :: l => match x.val E with
    | some v => match resL E l with | some vs => some (v :: vs) | none => none
    | none => none
def resV (E : Env) (l : List AR) : Option Value := match resL E l with
  | some [v] => some v
  | some vs => some (.tuple vs.toArray)
  | none => none
def trR (P : Program) : List ResultVar → Option (List AR)
  | [] => some []
  | .tmp t :: l => match trR P l with | some r => some (.tm t :: r) | none => none
  | .cell a ty :: l => match P.info? ty with
    | some i => match P.underlying ty with
      | some d => match trR P l with | some r => some (.cl a i.size (aggD d) :: r) | none => none
      | none => none
    | none => none
def trF (P : Program) (pr : List Nat) (al : List (Nat × Nat)) (fn : Func) : Option AF :=
  match fn.body with
  | some c => match trC P fn.ntmps pr al c with
    | some ac => match trR P fn.results.toList with
      | some rs => if fn.params.size + fn.nfree ≤ fn.ntmps ∧ fn.name ≠ "runtime.NumGoroutine" then some ⟨fn.ntmps, fn.params.size + fn.nfree, ac, rs⟩ else none
      | none => none
    | none => none
  | none => none
def E0 (args : List Value) : Env := { r := fun i => (args[i]?).map .v, x := fun _ => none }
def finQ (res : List AR) (Q : Value → Hp → Prop) : X → Env → Hp → Prop
  | .x _, _, _ => False
  | _, E, H => ∃ v, resV E res = some v ∧ Q v H

theorem trR_run {N : Nat} {H0 : Hp} {w0 : World} {E : Env} {H : Hp} {a : Act} {w : World} {blk : Nat → Nat} (R : RelB blk N H0 w0 E H a w) : ∀ {l : List ResultVar} {rs : List AR}, trR P l = some rs → ∀ {vs}, resL E rs = some vs →
    (l.mapM (fun | .tmp t => pure (a.tmps.getD t undef) | .cell b t => do loadVar t (← asAddr (a.tmps.getD b undef))) : Sem (List Value)).run P w = .ok vs w
  | [], rs, ht, vs, hv => by
    simp only [trR, Option.some.injEq] at ht; subst ht
    simp only [resL, Option.some.injEq] at hv; subst hv; rfl
  | .tmp t :: l, rs, ht, vs, hv => by
    simp only [trR] at ht
    split at ht
    · rename_i r hr
      simp only [Option.some.injEq] at ht; subst ht
      simp only [resL, AR.val] at hv
      split at hv
      · rename_i v hv1
        split at hv
        · rename_i us hus
          simp only [Option.some.injEq] at hv; subst hv
          split at hv1
          · rename_i v' hr'
            simp only [Option.some.injEq] at hv1; subst hv1
            obtain ⟨u, hu, hi⟩ := R.regs t _ hr'
            have hi' : u = v' := hi
            subst hi'
            have ih := trR_run R hr hus
            simp only [List.mapM_cons, Sem.run_bind, Sem.run_pure, Result.andThen_ok, ih]
            simp [hu]
          · cases hv1
        · cases hv
      · cases hv
    · cases ht
  | .cell b ty :: l, rs, ht, vs, hv => by
    simp only [trR] at ht
    split at ht
    · rename_i i hi
      split at ht
      · rename_i d hd
        split at ht
        · rename_i r hr
          simp only [Option.some.injEq] at ht; subst ht
          simp only [resL, AR.val] at hv
          split at hv
          · rename_i v hv1
            split at hv
            · rename_i us hus
              simp only [Option.some.injEq] at hv; subst hv
              split at hv1
              · rename_i t off hr'
                split at hv1
                · rename_i cs hcs
                  split at hv1
                  · rename_i vs0 hvs0
                    obtain ⟨hle, rfl⟩ := sub_eq hvs0
                    obtain ⟨rfl, hag⟩ := mkV?_eq hv1
                    have hlen : ((cs.drop off).take i.size).length = i.size := by rw [List.length_take, List.length_drop]; omega
                    obtain ⟨u, hu, hiu⟩ := R.regs b _ hr'
                    have hiu' : u = .pointer (some ⟨blk t, off, none⟩) := hiu
                    subst hiu'
                    obtain ⟨⟨ty', h1⟩, _, _⟩ := R.vars t cs hcs
                    have hload := run_loadVar_mk (P := P) (w := w) hi hd ⟨blk t, off, none⟩ ((cs.drop off).take i.size) hlen (by rw [hlen] at hag; exact hag) (fun j u hj => by
                      have hadd : (⟨blk t, off, none⟩ : Addr).add j = ⟨blk t, off + j, none⟩ := by unfold Addr.add; split <;> simp_all
                      rw [List.getElem?_take] at hj
                      split at hj
                      · rw [List.getElem?_drop] at hj
                        rw [hadd, cell_of_row w (blk t) (off + j) _ ty' (0, 0) h1]
                        simpa using hj
                      · cases hj)
                    have ih := trR_run R hr hus
                    have hg : a.tmps.getD b undef = .pointer (some ⟨blk t, off, none⟩) := by simp [Array.getD_eq_getD_getElem?, hu]
                    simp only [List.mapM_cons, Sem.run_bind, hg, asAddr, Sem.run_pure, Result.andThen_ok, hload]
                    erw [ih]
                    rfl
                  · cases hv1
                · cases hv1
              · cases hv1
            · cases hv
          · cases hv
        · cases ht
      · cases ht
    · cases ht
theorem results_run {N : Nat} {H0 : Hp} {w0 : World} {E : Env} {H : Hp} {a : Act} {w : World} {blk : Nat → Nat} (R : RelB blk N H0 w0 E H a w) {fn : Func} {rs : List AR} (ht : trR P fn.results.toList = some rs) {v : Value} (hv : resV E rs = some v) :
    (results fn a.tmps).run P w = .ok v w := by
  unfold resV at hv
  cases hl : resL E rs with
  | none => rw [hl] at hv; cases hv
  | some vs =>
    have := trR_run R ht hl
    unfold results
    rw [Array.mapM_eq_mapM_toList]
    simp only [Sem.run_bind, Sem.run_map, Sem.run_pure]
    erw [this]
    simp only [Result.andThen_ok]
    rw [hl] at hv
    match vs, hv with
    | [], hv => simp at hv; subst hv; rfl
    | [u], hv => simp at hv; subst hv; rfl
    | u :: u' :: us, hv => simp at hv; subst hv; simp

/-- A function by its body. -/
theorem callR_body {f : FuncId} {fn : Func} {pr : List Nat} {al : List (Nat × Nat)} {af : AF} (hf : P.funcs[f]? = some fn) (ht : trF P pr al fn = some af) {args : List Value} (hn : args.length = af.np) {H : Hp} {Q : Value → Hp → Prop}
    (h : af.body.W P (E0 args) H (finQ af.res Q)) : CallR P f args H Q := by
  unfold trF at ht
  split at ht
  case h_2 => cases ht
  rename_i c hc
  split at ht
  case h_2 => cases ht
  rename_i ac hac
  split at ht
  case h_2 => cases ht
  rename_i rs hrs
  split at ht
  case isFalse => cases ht
  rename_i hle
  simp only [Option.some.injEq] at ht; subst ht
  simp only at hn h
  refine ⟨⟨fn, hf, by simp [hc], by simpa using hle.2⟩, fun w hw => ?_⟩
  refine calls_of_wp hf hc ?_
  have R : RelB (fun _ => 0) fn.ntmps H w (E0 args) H { tmps := args.toArray ++ Array.replicate (fn.ntmps - args.toArray.size) undef, defers := [] } w := by
    refine ⟨by simp; omega, rfl, fun t y hy => ?_, fun t cs hx => by simp [E0] at hx, fun t t' hx => by simp [E0] at hx, hw, Fr.refl _ _⟩
    simp only [E0, Option.map_eq_some_iff] at hy
    obtain ⟨v, hv, rfl⟩ := hy
    have hlt := (List.getElem?_eq_some_iff.1 hv).1
    exact ⟨v, by rw [Array.getElem?_append_left (by simpa using hlt)]; simpa using hv, rfl⟩
  refine Code.wp_mono (fun e a' w' hp => ?_) (code_sound c hac R h)
  obtain ⟨x, rfl, blk', E', H', R', hq⟩ := hp
  cases x with
  | n =>
    obtain ⟨v, hv, hq⟩ := hq
    exact ⟨R'.defers, v, results_run R' hrs hv, v, H', rfl, hq, R'.sub, R'.fr⟩
  | x i => exact hq.elim
  | r =>
    obtain ⟨v, hv, hq⟩ := hq
    exact ⟨R'.defers, v, results_run R' hrs hv, v, H', rfl, hq, R'.sub, R'.fr⟩
end Go.HL
namespace Go.HL
open Go Go.RowKit
set_option linter.unusedVariables false
set_option linter.unusedSimpArgs false
variable {P : Program}

abbrev o (d : Nat) (op : AOp) : AOper := ⟨some d, op, none, false⟩
abbrev oN (op : AOp) : AOper := ⟨none, op, none, false⟩
abbrev g (d : Nat) (q : Nat × Bool) (op : AOp) : AOper := ⟨some d, op, some q, false⟩
abbrev gN (q : Nat × Bool) (op : AOp) : AOper := ⟨none, op, some q, false⟩
abbrev xx (a : AOper) : AOper := { a with x := true }
abbrev ki (n : Int) : AO := .c (.int .i64 n)
abbrev vi (n : Int) : Value := .int .i64 n
abbrev vb (b : Bool) : Value := .bool b

theorem put_same (E : Env) (d : Nat) (y : AV) : (E.put (some d) y).r d = some y := upd_eq _ _ _
theorem put_ne (E : Env) {d t : Nat} (y : AV) (h : t ≠ d) : (E.put (some d) y).r t = E.r t := upd_ne _ _ h
theorem put_none (E : Env) (y : AV) : E.put none y = E := rfl
theorem put_x' (E : Env) (d : Nat) (y : AV) : (E.put (some d) y).x = E.x := rfl
theorem nv_same (E : Env) (t : Nat) (cs : List Value) : (E.nv t cs).r t = some (.p t 0) := by simp only [Env.nv, upd_eq]
theorem nv_ne (E : Env) {t s : Nat} (cs : List Value) (h : s ≠ t) : (E.nv t cs).r s = dropP t (E.r s) := by simp only [Env.nv, upd_ne _ _ h]
theorem nv_x (E : Env) (t : Nat) (cs : List Value) : (E.nv t cs).x t = some cs := upd_eq _ _ _
theorem nv_x_ne (E : Env) {t s : Nat} (cs : List Value) (h : s ≠ t) : (E.nv t cs).x s = E.x s := upd_ne _ _ h
theorem sv_r (E : Env) (t : Nat) (cs : List Value) : (E.sv t cs).r = E.r := rfl
theorem sv_x (E : Env) (t : Nat) (cs : List Value) : (E.sv t cs).x t = some cs := upd_eq _ _ _
theorem sv_x_ne (E : Env) {t s : Nat} (cs : List Value) (h : s ≠ t) : (E.sv t cs).x s = E.x s := upd_ne _ _ h
theorem drop_v (t : Nat) (x : Value) : dropP t (some (.v x)) = some (.v x) := rfl
theorem drop_n (t : Nat) : dropP t none = none := rfl
theorem drop_p {t s o : Nat} (h : s ≠ t) : dropP t (some (.p s o)) = some (.p s o) := by simp [dropP, h]
theorem E0_r (args : List Value) (i : Nat) : (E0 args).r i = (args[i]?).map .v := rfl
theorem E0_x (args : List Value) (i : Nat) : (E0 args).x i = none := rfl

/-! Steps -/
section
variable {E : Env} {H : Hp} {K : Env → Hp → Prop} {Q : X → Env → Hp → Prop} {l : List AOper} {d : Nat} {op : AOp}
theorem S_pv {y : AV} {x : Bool} (hf : op.form E = some (.pv y)) (h : WL P l (E.put (some d) y) H K) : WL P (⟨some d, op, none, x⟩ :: l) E H K := by
  show AOper.W P _ E H _
  rw [AOper.W_def]; exact ⟨_, hf, h⟩
theorem S_nv {cs : List Value} {x : Bool} (hf : op.form E = some (.nv cs)) (h : WL P l (E.nv d cs) H K) : WL P (⟨some d, op, none, x⟩ :: l) E H K := by
  show AOper.W P _ E H _
  rw [AOper.W_def]; exact ⟨_, hf, h⟩
theorem S_sv {t : Nat} {cs : List Value} {x : Bool} (hf : op.form E = some (.sv t cs)) (h : WL P l (E.sv t cs) H K) : WL P (⟨none, op, none, x⟩ :: l) E H K := by
  show AOper.W P _ E H _
  rw [AOper.W_def]; exact ⟨_, hf, rfl, h⟩
theorem S_lh {a : Addr} {n : Nat} {agg x : Bool} {vs : List Value} (hf : op.form E = some (.lh a n agg)) (hl : vs.length = n) (hh : ∀ i u, vs[i]? = some u → H.Has (a.add i) u) (h : WL P l (E.put (some d) (.v (mkV agg vs))) H K) :
    WL P (⟨some d, op, none, x⟩ :: l) E H K := by
  show AOper.W P _ E H _
  rw [AOper.W_def]; exact ⟨_, hf, vs, hl, hh, h⟩
theorem S_sh {a : Addr} {vs cs : List Value} {t : TypeId} {x : Bool} (hf : op.form E = some (.sh a vs)) (hs : a.spot = none) (ho : H.own a.block = some (cs, t)) (hl : a.off + vs.length ≤ cs.length) (h : WL P l E (H.set a.block (splice cs a.off vs, t)) K) :
    WL P (⟨none, op, none, x⟩ :: l) E H K := by
  show AOper.W P _ E H _
  rw [AOper.W_def]; exact ⟨_, hf, rfl, cs, t, hs, ho, hl, h⟩
theorem S_al {t : TypeId} {cs : List Value} {len : Option Nat} {x : Bool} (hf : op.form E = some (.al t cs len)) (h : ∀ b, H.Fresh b → WL P l (E.put (some d) (.v (alV len b))) (H.set b (cs, t)) K) :
    WL P (⟨some d, op, none, x⟩ :: l) E H K := by
  show AOper.W P _ E H _
  rw [AOper.W_def]; exact ⟨_, hf, h⟩
theorem S_ca {f : FuncId} {as : List Value} (hf : op.form E = some (.ca f as)) (h : CallR P f as H fun v H' => WL P l (E.put (some d) (.v v)) H' K) : WL P (⟨some d, op, none, false⟩ :: l) E H K := by
  show AOper.W P _ E H _
  rw [AOper.W_def]; exact ⟨_, hf, CallR.mono h fun v H' hv => ⟨fun e => (by cases e), hv⟩⟩
theorem S_cx {f : FuncId} {as : List Value} (hf : op.form E = some (.ca f as)) (h : CallR P f as H fun v H' => H.le H' ∧ WL P l (E.put (some d) (.v v)) H' K) : WL P (⟨some d, op, none, true⟩ :: l) E H K := by
  show AOper.W P _ E H _
  rw [AOper.W_def]; exact ⟨_, hf, CallR.mono h fun v H' hv => ⟨fun _ => hv.1, hv.2⟩⟩
theorem S_cn {f : FuncId} {as : List Value} {x : Bool} (hf : op.form E = some (.ca f as)) (h : CallR P f as H fun v H' => H.le H' ∧ WL P l E H' K) : WL P (⟨none, op, none, x⟩ :: l) E H K := by
  show AOper.W P _ E H _
  rw [AOper.W_def]; exact ⟨_, hf, CallR.mono h fun v H' hv => ⟨fun _ => hv.1, hv.2⟩⟩
theorem S_g {t : Nat} {b c x : Bool} {d : Option Nat} (hr : E.r t = some (.v (.bool c))) (h1 : c = b → WL P (⟨d, op, none, x⟩ :: l) E H K) (h2 : ¬ c = b → WL P l (E.put d (.v undef)) H K) : WL P (⟨d, op, some (t, b), x⟩ :: l) E H K := by
  show AOper.W P _ E H _
  unfold AOper.W AOper.form
  simp only [hr]
  by_cases hc : c = b
  · simp only [hc, if_true]; exact h1 hc
  · simp only [hc, if_false]; exact h2 hc
theorem S_gs {t : Nat} {b c x : Bool} {d : Option Nat} (hr : E.r t = some (.v (.bool c))) (h1 : c = true → WL P (⟨d, op, some (t, b), x⟩ :: l) E H K) (h2 : c = false → WL P (⟨d, op, some (t, b), x⟩ :: l) E H K) : WL P (⟨d, op, some (t, b), x⟩ :: l) E H K := by
  cases c with
  | true => exact h1 rfl
  | false => exact h2 rfl
theorem S_gt {t : Nat} {b x : Bool} {d : Option Nat} (hr : E.r t = some (.v (.bool b))) (h : WL P (⟨d, op, none, x⟩ :: l) E H K) : WL P (⟨d, op, some (t, b), x⟩ :: l) E H K := S_g hr (fun _ => h) (fun e => absurd rfl e)
theorem S_gf {t : Nat} {b x : Bool} {d : Option Nat} (hr : E.r t = some (.v (.bool !b))) (h : WL P l (E.put d (.v undef)) H K) : WL P (⟨d, op, some (t, b), x⟩ :: l) E H K := S_g hr (fun e => by cases b <;> cases e) (fun _ => h)
theorem S_gu {t : Nat} {b x : Bool} {d : Option Nat} (hr : E.r t = some (.v undef)) (h : WL P l (E.put d (.v undef)) H K) : WL P (⟨d, op, some (t, b), x⟩ :: l) E H K := by
  show AOper.W P _ E H _
  unfold AOper.W AOper.form
  simp only [hr, undef]
  exact h
theorem S_pk {c a b : AO} {q x : Bool} (hc : c.val E = some (.bool q)) (h1 : q = true → WL P (⟨some d, .mv a, none, x⟩ :: l) E H K) (h2 : q = false → WL P (⟨some d, .mv b, none, x⟩ :: l) E H K) : WL P (⟨some d, .pk c a b, none, x⟩ :: l) E H K := by
  have key : AOp.form E (.pk c a b) = if q = true then AOp.form E (.mv a) else AOp.form E (.mv b) := by
    simp only [AOp.form, hc]; cases q <;> rfl
  cases q with
  | true => have := h1 rfl; show AOper.W P _ E H _; unfold AOper.W AOper.form; simp only [key, if_true]; exact this
  | false => have := h2 rfl; show AOper.W P _ E H _; unfold AOper.W AOper.form; simp only [key, Bool.false_eq_true, if_false]; exact this
theorem S_pkt {c a b : AO} {x : Bool} (hc : c.val E = some (.bool true)) (h : WL P (⟨some d, .mv a, none, x⟩ :: l) E H K) : WL P (⟨some d, .pk c a b, none, x⟩ :: l) E H K := S_pk hc (fun _ => h) (fun e => by cases e)
theorem S_pkf {c a b : AO} {x : Bool} (hc : c.val E = some (.bool false)) (h : WL P (⟨some d, .mv b, none, x⟩ :: l) E H K) : WL P (⟨some d, .pk c a b, none, x⟩ :: l) E H K := S_pk hc (fun e => by cases e) (fun _ => h)
theorem S_pks {c a b : AO} {q x : Bool} (hc : c.val E = some (.bool q)) (h1 : q = true → WL P (⟨some d, .pk c a b, none, x⟩ :: l) E H K) (h2 : q = false → WL P (⟨some d, .pk c a b, none, x⟩ :: l) E H K) : WL P (⟨some d, .pk c a b, none, x⟩ :: l) E H K := by
  cases q with
  | true => exact h1 rfl
  | false => exact h2 rfl
theorem S_nil2 {k : Env → Hp → Prop} (h : k E H) : WL P [] E H (seqQ k Q .n) := h
theorem S_nil (h : K E H) : WL P [] E H K := h
theorem S_rg {l : List AOper} (h : WL P l E H (Q .n)) : AC.W P (.rg l) E H Q := h
theorem S_sq {a b : AC} (h : AC.W P a E H (seqQ (fun E' H' => AC.W P b E' H' Q) Q)) : AC.W P (.sq a b) E H Q := h
theorem S_sk (h : Q .n E H) : AC.W P .sk E H Q := h
theorem S_rt (h : Q .r E H) : AC.W P .rt E H Q := h
theorem S_xt {i : Nat} (h : Q (.x i) E H) : AC.W P (.xt i) E H Q := h
theorem S_bk {i : Nat} {c : AC} (h : AC.W P c E H (bkQ i Q)) : AC.W P (.bk i c) E H Q := h
theorem S_cd {c : AO} {t e : AC} {b : Bool} (hc : c.val E = some (.bool b)) (h1 : b = true → AC.W P t E H Q) (h2 : b = false → AC.W P e E H Q) : AC.W P (.cd c t e) E H Q := by
  simp only [AC.W, hc]; exact ⟨h1, h2⟩
theorem S_cdt {c : AO} {t e : AC} (hc : c.val E = some (.bool true)) (h : AC.W P t E H Q) : AC.W P (.cd c t e) E H Q := S_cd hc (fun _ => h) (fun e => by cases e)
theorem S_cdf {c : AO} {t e : AC} (hc : c.val E = some (.bool false)) (h : AC.W P e E H Q) : AC.W P (.cd c t e) E H Q := S_cd hc (fun e => by cases e) (fun _ => h)
/-- A loop by its count of rounds. -/
theorem S_lp {c : AC} (I : Nat → Env → Hp → Prop) (n : Nat) (h0 : I n E H) (h : ∀ n E H, I n E H → AC.W P c E H (seqQ (fun E' H' => ∃ m, m < n ∧ I m E' H') Q)) : AC.W P (.lp c) E H Q := by
  have mono : ∀ k E H, iterW (fun E H Q => AC.W P c E H Q) Q k E H → iterW (fun E H Q => AC.W P c E H Q) Q (k + 1) E H := by
    intro k
    induction k with
    | zero => intro E H h; exact h.elim
    | succ k ih =>
      intro E H h
      refine AC.W_mono h fun x E H hx => ?_
      cases x with
      | n => exact ih E H hx
      | x i => exact hx
      | r => exact hx
  have up : ∀ j k E H, k ≤ j → iterW (fun E H Q => AC.W P c E H Q) Q k E H → iterW (fun E H Q => AC.W P c E H Q) Q j E H := by
    intro j k E H hj h
    induction hj with
    | refl => exact h
    | step _ ih => exact mono _ E H ih
  have key : ∀ n E H, I n E H → iterW (fun E H Q => AC.W P c E H Q) Q (n + 1) E H := by
    intro n
    induction n using Nat.strongRecOn with
    | _ n ih =>
      intro E H hI
      refine AC.W_mono (h n E H hI) fun x E' H' hx => ?_
      cases x with
      | n => obtain ⟨m, hm, hI'⟩ := hx; exact up n (m + 1) E' H' hm (ih m hm E' H' hI')
      | x i => exact hx
      | r => exact hx
  exact ⟨n + 1, key n E H h0⟩
theorem S_fin {res : List AR} {R : Value → Hp → Prop} {v : Value} (hv : resV E res = some v) (h : R v H) : finQ res R .r E H := ⟨v, hv, h⟩
theorem S_fin' {res : List AR} {R : Value → Hp → Prop} {v : Value} (hv : resV E res = some v) (h : R v H) : finQ res R .n E H := ⟨v, hv, h⟩
end
end Go.HL
