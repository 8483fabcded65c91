/- A small calculus of verification conditions over the kit's Code.wp: values as pure data, what a call owns, and how both stand to a world. -/
import Derived.WalkKit
import Derived.Deep.Quiet
set_option linter.all false
namespace Go.V
open Go Go.RowKit

/-- Plain data that a value stands for; what it points to is only read. -/
inductive PV where
  | v (x : Value)
  | ptr (cs : List PV)
  | sl (rs : Nat) (rows : List (List PV))
  | agg (cs : List PV)
  | tup (cs : List PV)
  | clo (f : FuncId) (caps : List PV)

mutual
def Rel (S : Nat → Prop) (w : World) : PV → Value → Prop
  | .v x, u => u = x
  | .ptr cs, u => ∃ b o, u = .pointer (some ⟨b, o, none⟩) ∧ ¬ S b ∧ b < w.heap.size ∧ RelAt S w b o cs
  | .sl rs rows, u => ∃ a cap, u = .slice a rows.length cap ∧ rows.length ≤ cap ∧
      (rows = [] ∨ ∃ b o, a = some ⟨b, o, none⟩ ∧ ¬ S b ∧ b < w.heap.size ∧ RelRows S w b rs o rows)
  | .agg cs, u => ∃ us, u = .agg us ∧ RelL S w cs us.toList
  | .tup cs, u => ∃ us, u = .tuple us ∧ RelL S w cs us.toList
  | .clo f caps, u => ∃ us, u = .func (.func f) #[] us ∧ RelL S w caps us.toList
def RelAt (S : Nat → Prop) (w : World) (b : Nat) : Nat → List PV → Prop
  | _, [] => True
  | o, c :: cs => (∃ u, w.cell? ⟨b, o, none⟩ = some u ∧ Rel S w c u) ∧ RelAt S w b (o + 1) cs
def RelRows (S : Nat → Prop) (w : World) (b rs : Nat) : Nat → List (List PV) → Prop
  | _, [] => True
  | o, r :: rows => r.length = rs ∧ RelAt S w b o r ∧ RelRows S w b rs (o + rs) rows
def RelL (S : Nat → Prop) (w : World) : List PV → List Value → Prop
  | [], us => us = []
  | c :: cs, us => ∃ u us', us = u :: us' ∧ Rel S w c u ∧ RelL S w cs us'
end

/-- All blocks but those in S are as they were. -/
structure Same (S : Nat → Prop) (w w' : World) : Prop where
  size : w.heap.size ≤ w'.heap.size
  block : ∀ k, k < w.heap.size → ¬ S k → w'.heap[k]? = w.heap[k]?

section
variable {S S' : Nat → Prop} {w w' : World}

mutual
theorem Rel.mono (hw : Same S w w') (hS : ∀ k, k < w.heap.size → S' k → S k) : ∀ (x : PV) (u : Value), Rel S w x u → Rel S' w' x u
  | .v _, _, h => by simpa only [Rel] using h
  | .ptr cs, u, h => by
    simp only [Rel] at h ⊢
    obtain ⟨b, o, h1, h2, h3, h4⟩ := h
    exact ⟨b, o, h1, fun k => h2 (hS b h3 k), Nat.lt_of_lt_of_le h3 hw.size, RelAt.mono hw hS (hw.block b h3 h2) o cs h4⟩
  | .sl rs rows, u, h => by
    simp only [Rel] at h ⊢
    obtain ⟨a, cap, h1, h2, h3⟩ := h
    refine ⟨a, cap, h1, h2, ?_⟩
    rcases h3 with h3 | ⟨b, o, e, n, l, r⟩
    · exact .inl h3
    · exact .inr ⟨b, o, e, fun k => n (hS b l k), Nat.lt_of_lt_of_le l hw.size, RelRows.mono hw hS (hw.block b l n) o rows r⟩
  | .agg cs, u, h => by
    simp only [Rel] at h ⊢
    obtain ⟨us, h1, h2⟩ := h
    exact ⟨us, h1, RelL.mono hw hS cs us.toList h2⟩
  | .tup cs, u, h => by
    simp only [Rel] at h ⊢
    obtain ⟨us, h1, h2⟩ := h
    exact ⟨us, h1, RelL.mono hw hS cs us.toList h2⟩
  | .clo _ cs, u, h => by
    simp only [Rel] at h ⊢
    obtain ⟨us, h1, h2⟩ := h
    exact ⟨us, h1, RelL.mono hw hS cs us.toList h2⟩
theorem RelAt.mono (hw : Same S w w') (hS : ∀ k, k < w.heap.size → S' k → S k) {b : Nat} (hb : w'.heap[b]? = w.heap[b]?) :
    ∀ (o : Nat) (cs : List PV), RelAt S w b o cs → RelAt S' w' b o cs
  | _, [], _ => by simp only [RelAt]
  | o, c :: cs, h => by
    simp only [RelAt] at h ⊢
    obtain ⟨⟨u, h1, h2⟩, h3⟩ := h
    refine ⟨⟨u, ?_, Rel.mono hw hS c u h2⟩, RelAt.mono hw hS hb (o + 1) cs h3⟩
    rw [World.cell?_of_block (w := w) (by exact hb)]; exact h1
theorem RelRows.mono (hw : Same S w w') (hS : ∀ k, k < w.heap.size → S' k → S k) {b rs : Nat} (hb : w'.heap[b]? = w.heap[b]?) :
    ∀ (o : Nat) (rows : List (List PV)), RelRows S w b rs o rows → RelRows S' w' b rs o rows
  | _, [], _ => by simp only [RelRows]
  | o, r :: rows, h => by
    simp only [RelRows] at h ⊢
    exact ⟨h.1, RelAt.mono hw hS hb o r h.2.1, RelRows.mono hw hS hb (o + rs) rows h.2.2⟩
theorem RelL.mono (hw : Same S w w') (hS : ∀ k, k < w.heap.size → S' k → S k) : ∀ (cs : List PV) (us : List Value), RelL S w cs us → RelL S' w' cs us
  | [], _, h => by simpa only [RelL] using h
  | c :: cs, us, h => by
    simp only [RelL] at h ⊢
    obtain ⟨u, us', h1, h2, h3⟩ := h
    exact ⟨u, us', h1, Rel.mono hw hS c u h2, RelL.mono hw hS cs us' h3⟩
end
end

/-- A slot's content: plain data; the handle of something owned; an address within it. -/
inductive AV where
  | p (x : PV)
  | h (id : Nat)
  | el (id rs row off : Nat)
  | agg (cs : List AV)
  | tup (cs : List AV)
  | clo (f : FuncId) (caps : List AV)
  | junk

def blk : Value → Option Nat
  | .pointer (some a) => some a.block
  | .slice (some a) _ _ => some a.block
  | _ => none

mutual
def ARel (η : Nat → Value) (S : Nat → Prop) (w : World) : AV → Value → Prop
  | .p x, u => Rel S w x u
  | .h id, u => u = η id
  | .el id rs row off, u => ∃ b, blk (η id) = some b ∧ u = .pointer (some ⟨b, row * rs + off, none⟩)
  | .agg cs, u => ∃ us, u = .agg us ∧ ARelL η S w cs us.toList
  | .tup cs, u => ∃ us, u = .tuple us ∧ ARelL η S w cs us.toList
  | .clo f caps, u => ∃ us, u = .func (.func f) #[] us ∧ ARelL η S w caps us.toList
  | .junk, _ => True
def ARelL (η : Nat → Value) (S : Nat → Prop) (w : World) : List AV → List Value → Prop
  | [], us => us = []
  | c :: cs, us => ∃ u us', us = u :: us' ∧ ARel η S w c u ∧ ARelL η S w cs us'
end

mutual
def AV.names (n : Nat) : AV → Bool
  | .p _ => false
  | .h i => Nat.beq i n
  | .el i _ _ _ => Nat.beq i n
  | .agg cs => AV.namesL n cs
  | .tup cs => AV.namesL n cs
  | .clo _ cs => AV.namesL n cs
  | .junk => false
def AV.namesL (n : Nat) : List AV → Bool
  | [] => false
  | c :: cs => AV.names n c || AV.namesL n cs
end

section
variable {η η' : Nat → Value} {S S' : Nat → Prop} {w w' : World}
mutual
theorem ARel.mono (hw : Same S w w') (hS : ∀ k, k < w.heap.size → S' k → S k) : ∀ (x : AV) (u : Value), (∀ i, AV.names i x = true → η' i = η i) → ARel η S w x u → ARel η' S' w' x u
  | .p x, u, _, h => by simp only [ARel] at h ⊢; exact Rel.mono hw hS x u h
  | .h i, u, hη, h => by simp only [ARel] at h ⊢; rw [hη i (by simp [AV.names])]; exact h
  | .el i _ _ _, u, hη, h => by simp only [ARel] at h ⊢; rw [hη i (by simp [AV.names])]; exact h
  | .agg cs, u, hη, h => by
    simp only [ARel] at h ⊢
    obtain ⟨us, h1, h2⟩ := h
    exact ⟨us, h1, ARelL.mono hw hS cs us.toList (fun i hi => hη i (by simpa only [AV.names] using hi)) h2⟩
  | .tup cs, u, hη, h => by
    simp only [ARel] at h ⊢
    obtain ⟨us, h1, h2⟩ := h
    exact ⟨us, h1, ARelL.mono hw hS cs us.toList (fun i hi => hη i (by simpa only [AV.names] using hi)) h2⟩
  | .clo _ cs, u, hη, h => by
    simp only [ARel] at h ⊢
    obtain ⟨us, h1, h2⟩ := h
    exact ⟨us, h1, ARelL.mono hw hS cs us.toList (fun i hi => hη i (by simpa only [AV.names] using hi)) h2⟩
  | .junk, _, _, _ => by simp only [ARel]
theorem ARelL.mono (hw : Same S w w') (hS : ∀ k, k < w.heap.size → S' k → S k) : ∀ (cs : List AV) (us : List Value), (∀ i, AV.namesL i cs = true → η' i = η i) → ARelL η S w cs us → ARelL η' S' w' cs us
  | [], _, _, h => by simpa only [ARelL] using h
  | c :: cs, us, hη, h => by
    simp only [ARelL] at h ⊢
    obtain ⟨u, us', h1, h2, h3⟩ := h
    exact ⟨u, us', h1, ARel.mono hw hS c u (fun i hi => hη i (by simp [AV.namesL, hi])) h2, ARelL.mono hw hS cs us' (fun i hi => hη i (by simp [AV.namesL, hi])) h3⟩
end
end

/-- Something owned of a kind of its own. -/
structure Cust where
  R : (Nat → Prop) → World → Value → List Nat → Prop
  view : Option PV
  mono : ∀ {S S' : Nat → Prop} {w w' : World} {hd : Value} {F : List Nat}, Same S w w' → (∀ k, k < w.heap.size → S' k → S k) → (∀ k ∈ F, w'.heap[k]? = w.heap[k]?) → R S w hd F → R S' w' hd F
  shape : ∀ {S : Nat → Prop} {w : World} {hd : Value} {F : List Nat}, R S w hd F → (∃ a, hd = .pointer a) ∨ (∃ a n c, hd = .slice a n c)
  ok : ∀ {S : Nat → Prop} {w : World} {hd : Value} {F : List Nat} {x : PV}, view = some x → R S w hd F → Rel (fun _ => False) w x hd

/-- What is owned. -/
inductive Res where
  | box (ty : TypeId) (cs : List AV)
  | vec (ty : TypeId) (rs : Nat) (rows : List (List PV))
  | cust (C : Cust)

def Res.names (n : Nat) : Res → Bool
  | .box _ cs => AV.namesL n cs
  | .vec .. => false
  | .cust _ => false

def RRes (η : Nat → Value) (S : Nat → Prop) (w : World) (hd : Value) (F : List Nat) : Res → Prop
  | .box ty cs => ∃ b arr, hd = .pointer (some ⟨b, 0, none⟩) ∧ F = [b] ∧ w.heap[b]? = some (.cells arr ty (0, 0)) ∧ ARelL η S w cs arr.toList
  | .vec ty rs rows => ∃ xs, RelL S w rows.flatten xs ∧ (∀ r ∈ rows, r.length = rs) ∧ w.ownsRow 0 ty rs hd rows.length xs ∧ F = hd.ownBlock.toList
  | .cust C => C.R S w hd F

theorem RRes.mono {η η' : Nat → Value} {S S' : Nat → Prop} {w w' : World} {hd : Value} {F : List Nat} (hw : Same S w w') (hS : ∀ k, k < w.heap.size → S' k → S k)
    (hF : ∀ k ∈ F, w'.heap[k]? = w.heap[k]?) (r : Res) (hη : ∀ i, r.names i = true → η' i = η i) (h : RRes η S w hd F r) : RRes η' S' w' hd F r := by
  cases r with
  | cust C => exact C.mono hw hS hF h
  | box ty cs =>
    obtain ⟨b, arr, h1, h2, h3, h4⟩ := h
    exact ⟨b, arr, h1, h2, (hF b (by simp [h2])).trans h3, ARelL.mono hw hS cs arr.toList hη h4⟩
  | vec ty rs rows =>
    obtain ⟨xs, h1, h2, h3, h4⟩ := h
    refine ⟨xs, RelL.mono hw hS _ _ h1, h2, ⟨h3.1, ?_⟩, h4⟩
    rcases h3.2 with hn | ⟨g, cap, cur, rfl, hb, hgg, rest⟩
    · exact .inl hn
    · exact .inr ⟨g, cap, cur, rfl, hb, (hF g (by simp [h4, Value.ownBlock])).trans hgg, rest⟩

/-- The first entry of a number in a table. -/
def get {α : Type} : List (Nat × α) → Nat → Option α
  | [], _ => none
  | (j, x) :: l, i => match Nat.beq j i with
    | true => some x
    | false => get l i

theorem beq_false {j i : Nat} (h : ¬ j = i) : Nat.beq j i = false := by
  cases hb : Nat.beq j i with
  | true => exact absurd (Nat.eq_of_beq_eq_true hb) h
  | false => rfl

theorem get_cons {α : Type} (j : Nat) (x : α) (l : List (Nat × α)) (i : Nat) : get ((j, x) :: l) i = if j = i then some x else get l i := by
  by_cases h : j = i
  · subst h; simp [get]
  · have : Nat.beq j i = false := beq_false h
    simp [get, this, h]

structure St where
  tm : List (Nat × AV)
  hp : List (Nat × Res)

/-- What stays fixed through a function's walk. -/
structure Fr where
  w0 : World
  S0 : Nat → Prop
  nt : Nat
  Q : Exit → Act → World → Prop
  pin : List (Nat × Value) := []

def SOf (φ : Nat → List Nat) (hp : List (Nat × Res)) (k : Nat) : Prop := ∃ id r, get hp id = some r ∧ k ∈ φ id

/-- From the function's begin on. -/
structure Keep (S0 : Nat → Prop) (w0 w : World) : Prop where
  os : w.os = w0.os
  tape : w.tape = w0.tape
  output : w.output = w0.output
  size : w0.heap.size ≤ w.heap.size
  block : ∀ k, k < w0.heap.size → ¬ S0 k → w.heap[k]? = w0.heap[k]?

theorem Keep.refl (S0 : Nat → Prop) (w : World) : Keep S0 w w := ⟨rfl, rfl, rfl, Nat.le_refl _, fun _ _ _ => rfl⟩

theorem Keep.below {S0 : Nat → Prop} {w0 w w' : World} (h : Keep S0 w0 w) (hb : Below w.heap.size w w') : Keep S0 w0 w' :=
  ⟨hb.os.trans h.os, hb.tape.trans h.tape, hb.output.trans h.output, Nat.le_trans h.size hb.size,
    fun k hk hn => (hb.block k (Nat.lt_of_lt_of_le hk h.size)).trans (h.block k hk hn)⟩

structure RepE (fr : Fr) (η : Nat → Value) (φ : Nat → List Nat) (st : St) (a : Act) (w : World) : Prop where
  defers : a.defers = []
  size : a.tmps.size = fr.nt
  slots : ∀ i av, get st.tm i = some av → ∃ u, a.tmps[i]? = some u ∧ ARel η (SOf φ st.hp) w av u
  res : ∀ id r, get st.hp id = some r → RRes η (SOf φ st.hp) w (η id) (φ id) r
  disj : ∀ id id' r r' k, get st.hp id = some r → get st.hp id' = some r' → k ∈ φ id → k ∈ φ id' → id = id'
  low : ∀ id r k, get st.hp id = some r → k ∈ φ id → fr.w0.heap.size ≤ k ∨ fr.S0 k
  lt : ∀ id r k, get st.hp id = some r → k ∈ φ id → k < w.heap.size
  keep : Keep fr.S0 fr.w0 w
  pin : ∀ i v, get fr.pin i = some v → η i = v

def Rep (fr : Fr) (st : St) (a : Act) (w : World) : Prop := ∃ η φ, RepE fr η φ st a w

theorem Same.of_below {S : Nat → Prop} {w w' : World} (h : Below w.heap.size w w') : Same S w w' := ⟨h.size, fun k hk _ => h.block k hk⟩

theorem RepE.below {fr : Fr} {η : Nat → Value} {φ : Nat → List Nat} {st : St} {a : Act} {w w' : World} (h : RepE fr η φ st a w) (hb : Below w.heap.size w w') : RepE fr η φ st a w' := by
  refine ⟨h.defers, h.size, ?_, ?_, h.disj, h.low, fun id r k hg hk => Nat.lt_of_lt_of_le (h.lt id r k hg hk) hb.size, h.keep.below hb, h.pin⟩
  · intro i av hg
    obtain ⟨u, h1, h2⟩ := h.slots i av hg
    exact ⟨u, h1, ARel.mono (Same.of_below hb) (fun _ _ => id) av u (fun _ _ => rfl) h2⟩
  · intro id r hg
    exact RRes.mono (Same.of_below hb) (fun _ _ => fun x => x) (fun k hk => hb.block k (h.lt id r k hg hk)) r (fun _ _ => rfl) (h.res id r hg)

def St.put (st : St) (d : Nat) (av : AV) : St := { st with tm := (d, av) :: st.tm }

theorem RepE.put {fr : Fr} {η : Nat → Value} {φ : Nat → List Nat} {st : St} {a : Act} {w : World} (h : RepE fr η φ st a w) {d : Nat} (hd : Nat.blt d fr.nt = true) {av : AV} {u : Value}
    (hr : ARel η (SOf φ st.hp) w av u) : RepE fr η φ (st.put d av) (a.put (some d) u) w := by
  have hd' : d < a.tmps.size := by rw [h.size]; exact Nat.le_of_ble_eq_true hd
  refine ⟨h.defers, by simp [Act.put, h.size], ?_, h.res, h.disj, h.low, h.lt, h.keep, h.pin⟩
  intro i av' hg
  simp only [St.put, get_cons] at hg
  by_cases hi : d = i
  · subst hi
    rw [if_pos rfl] at hg
    obtain rfl := Option.some.inj hg
    exact ⟨u, by simp [Act.put, hd'], hr⟩
  · rw [if_neg hi] at hg
    obtain ⟨x, h1, h2⟩ := h.slots i av' hg
    exact ⟨x, by simpa [Act.put, Array.getElem?_setIfInBounds, hi] using h1, h2⟩

/-- Operands. -/
def St.ev (st : St) : Operand → Option AV
  | .tmp t => get st.tm t
  | .const x => some (.p (.v x))
  | .func f => some (.p (.clo f []))
  | .global _ => none

theorem RepE.ev {fr : Fr} {η : Nat → Value} {φ : Nat → List Nat} {st : St} {a : Act} {w : World} (h : RepE fr η φ st a w) {x : Operand} {av : AV} (hx : st.ev x = some av) :
    ARel η (SOf φ st.hp) w av (a.eval x) := by
  cases x with
  | tmp t =>
    obtain ⟨u, h1, h2⟩ := h.slots t av hx
    have : a.eval (.tmp t) = u := by simp [Act.eval, Array.getD_eq_getD_getElem?, h1]
    rw [this]; exact h2
  | const x => cases hx; simp [Act.eval, ARel, Rel]
  | func f => cases hx; simp [Act.eval, ARel, Rel, RelL]
  | global g => cases hx

/-- The stack of what is left to do. -/
inductive It where
  | code (c : Code)
  | mark (id : Nat)
  | inv (I : St → Prop)

def cont (P : Program) (fr : Fr) : List It → Exit → Act → World → Prop
  | [] => fr.Q
  | .code c :: k => Exit.then (c.wp P (cont P fr k)) (cont P fr k)
  | .mark id :: k => Exit.inBlock id (cont P fr k)
  | .inv I :: k => Exit.then (fun a w => ∃ st, I st ∧ Rep fr st a w) (cont P fr k)

def AC (P : Program) (fr : Fr) (k : List It) (st : St) : Prop := ∀ a w, Rep fr st a w → cont P fr k .normal a w

def AO (P : Program) (fr : Fr) (ops : Array Oper) (rest : List Oper) (k : List It) : Bool → St → Prop
  | false, st => ∀ a w, Rep fr st a w → wpList P ops (cont P fr k) rest a w
  | true, st => ∀ η φ a w, RepE fr η φ st a w → wpQuiet P ops (fun w' => Below w.heap.size w w') (fun a' => ∀ w', Below w.heap.size w w' → cont P fr k .normal a' w') rest a

/-- In every world that goes on from the one at hand the operation yields one value, which is what 'av' says. -/
def Yld (P : Program) (fr : Fr) (o : Oper) (st : St) (av : AV) : Prop :=
  ∀ η φ a w, RepE fr η φ st a w → ∃ u, (∀ w', Below w.heap.size w w' → o.quietAt P a (fun w'' => Below w.heap.size w w'') w' u) ∧ ARel η (SOf φ st.hp) w av u

section
variable {P : Program} {fr : Fr} {ops : Array Oper} {rest : List Oper} {k : List It} {q : Bool} {st : St}

theorem AO.nil (h : AC P fr k st) : AO P fr ops [] k q st := by
  cases q with
  | false => exact fun a w hr => h a w hr
  | true => exact fun η φ a w hr w' hw' => h a w' ⟨η, φ, hr.below hw'⟩

theorem wanted_none {o : Oper} (hg : o.guard = none) (y : Nat → Option Bool) : Region.wanted o y = true := by simp [Region.wanted, hg]

theorem AO.wanted {o : Oper} {av : AV} {d : Nat} (hy : Yld P fr o st av) (hd : o.dst = some d) (hlt : Nat.blt d fr.nt = true)
    (hw : ∀ η φ a w, RepE fr η φ st a w → Region.wanted o (yielded ops a.tmps) = true) (hk : AO P fr ops rest k q (st.put d av)) : AO P fr ops (o :: rest) k q st := by
  cases q with
  | false =>
    intro a w ⟨η, φ, hr⟩
    obtain ⟨u, h1, h2⟩ := hy η φ a w hr
    simp only [wpList, hw η φ a w hr, if_true]
    refine .inl (Oper.wp_of_quiet (C := fun w' => Below w.heap.size w w') (K := fun a' => a' = a.put o.dst u) (Below.refl _ _) ?_ ⟨u, h1, rfl⟩)
    rintro a' w' hw' rfl
    rw [hd]
    exact hk _ _ ⟨η, φ, (hr.put hlt h2).below hw'⟩
  | true =>
    intro η φ a w hr
    obtain ⟨u, h1, h2⟩ := hy η φ a w hr
    simp only [wpQuiet, hw η φ a w hr, if_true]
    exact ⟨u, h1, by rw [hd]; exact hk η φ _ w (hr.put hlt h2)⟩

theorem AO.yld {o : Oper} (av : AV) {d : Nat} (hy : Yld P fr o st av) (hd : o.dst = some d) (hg : o.guard = none) (hlt : Nat.blt d fr.nt = true)
    (hk : AO P fr ops rest k q (st.put d av)) : AO P fr ops (o :: rest) k q st :=
  AO.wanted hy hd hlt (fun _ _ _ _ _ => wanted_none hg _) hk

theorem yielded_of {η : Nat → Value} {φ : Nat → List Nat} {a : Act} {w : World} (hr : RepE fr η φ st a w) {j dj : Nat} {c : Bool} (hj : (ops[j]?).bind (·.dst) = some dj)
    (hc : get st.tm dj = some (.p (.v (.bool c)))) : yielded ops a.tmps j = some c := by
  obtain ⟨u, h1, h2⟩ := hr.slots dj _ hc
  simp only [ARel, Rel] at h2
  subst h2
  simp [yielded, hj, h1]

/-- A guarded operation that is carried out. -/
theorem AO.yldG {o : Oper} (av : AV) {d j dj : Nat} {c : Bool} (hy : Yld P fr o st av) (hd : o.dst = some d) (hg : o.guard = some (j, c)) (hj : (ops[j]?).bind (·.dst) = some dj)
    (hc : get st.tm dj = some (.p (.v (.bool c)))) (hlt : Nat.blt d fr.nt = true)
    (hk : AO P fr ops rest k q (st.put d av)) : AO P fr ops (o :: rest) k q st :=
  AO.wanted hy hd hlt (fun η φ a w hr => by simp [Region.wanted, hg, yielded_of hr hj hc]) hk

/-- A guarded operation that is left out. -/
theorem AO.skip {o : Oper} {d j dj : Nat} {c : Bool} (hd : o.dst = some d) (hg : o.guard = some (j, !c)) (hj : (ops[j]?).bind (·.dst) = some dj)
    (hc : get st.tm dj = some (.p (.v (.bool c)))) (hlt : Nat.blt d fr.nt = true)
    (hk : AO P fr ops rest k q (st.put d (.p (.v undef)))) : AO P fr ops (o :: rest) k q st := by
  have hw : ∀ η φ a w, RepE fr η φ st a w → Region.wanted o (yielded ops a.tmps) = false := fun η φ a w hr => by
    simp [Region.wanted, hg, yielded_of hr hj hc]
  cases q with
  | false =>
    intro a w ⟨η, φ, hr⟩
    simp only [wpList, hw η φ a w hr, Bool.false_eq_true, if_false]
    rw [hd]
    exact hk _ _ ⟨η, φ, hr.put hlt (by simp [ARel, Rel])⟩
  | true =>
    intro η φ a w hr
    simp only [wpQuiet, hw η φ a w hr, Bool.false_eq_true, if_false]
    rw [hd]
    exact hk η φ _ w (hr.put hlt (by simp [ARel, Rel]))

/-- An operation that is left out because its guard was. -/
theorem AO.skipU {o : Oper} {d j dj : Nat} {c : Bool} (hd : o.dst = some d) (hg : o.guard = some (j, c)) (hj : (ops[j]?).bind (·.dst) = some dj)
    (hc : get st.tm dj = some (.p (.v undef))) (hlt : Nat.blt d fr.nt = true)
    (hk : AO P fr ops rest k q (st.put d (.p (.v undef)))) : AO P fr ops (o :: rest) k q st := by
  have hw : ∀ η φ a w, RepE fr η φ st a w → Region.wanted o (yielded ops a.tmps) = false := fun η φ a w hr => by
    obtain ⟨u, h1, h2⟩ := hr.slots dj _ hc
    simp only [ARel, Rel] at h2
    subst h2
    have : yielded ops a.tmps j = none := by simp [yielded, hj, h1, undef]
    simp [Region.wanted, hg, this]
  cases q with
  | false =>
    intro a w ⟨η, φ, hr⟩
    simp only [wpList, hw η φ a w hr, Bool.false_eq_true, if_false]
    rw [hd]
    exact hk _ _ ⟨η, φ, hr.put hlt (by simp [ARel, Rel])⟩
  | true =>
    intro η φ a w hr
    simp only [wpQuiet, hw η φ a w hr, Bool.false_eq_true, if_false]
    rw [hd]
    exact hk η φ _ w (hr.put hlt (by simp [ARel, Rel]))

/-- A test within a region, on a slot's Bool: the two ways. -/
theorem AO.split {c : Bool} (ht : c = true → AO P fr ops rest k q st) (hf : c = false → AO P fr ops rest k q st) : AO P fr ops rest k q st := by
  cases c with
  | true => exact ht rfl
  | false => exact hf rfl

theorem AC.region {id : Nat} {l : List Oper} (h : AO P fr l.toArray l k false st) : AC P fr (.code (.region id l.toArray false) :: k) st :=
  fun a w hr => wp_region_lit (h a w hr)

theorem AC.draw {id : Nat} {l : List Oper} (hm : P.follows .mixedOrders = true) (hB : Region.lexB .any l.toArray = true) (h : AO P fr l.toArray l k true st) :
    AC P fr (.code (.region id l.toArray true) :: k) st := by
  intro a w ⟨η, φ, hr⟩
  exact wp_region_quiet (C := fun w' => Below w.heap.size w w') hm hB (Below.drew (Below.refl _ _)) (by simpa using h η φ a w hr)

theorem AC.seq {x y : Code} (h : AC P fr (.code x :: .code y :: k) st) : AC P fr (.code (.seq x y) :: k) st :=
  fun a w hr => wp_seq (h a w hr)
theorem AC.skip (h : AC P fr k st) : AC P fr (.code .skip :: k) st :=
  fun a w hr => wp_skip (h a w hr)
theorem AC.block {id : Nat} {c : Code} (h : AC P fr (.code c :: .mark id :: k) st) : AC P fr (.code (.block id c) :: k) st :=
  fun a w hr => wp_block (h a w hr)
theorem AC.mark {id : Nat} (h : AC P fr k st) : AC P fr (.mark id :: k) st :=
  fun a w hr => h a w hr

/-- Where 'exit id' goes. -/
def out (id : Nat) : List It → Option (List It)
  | [] => none
  | .mark j :: k => match Nat.beq j id with
    | true => some k
    | false => out id k
  | _ :: k => out id k

theorem out_cont {id : Nat} {a : Act} {w : World} : ∀ (k k' : List It), out id k = some k' → cont P fr k' .normal a w → cont P fr k (.exit id) a w
  | [], _, h, _ => by cases h
  | .mark j :: k, k', h, hc => by
    simp only [out] at h
    simp only [cont]
    by_cases hj : j = id
    · subst hj
      have : Nat.beq j j = true := by simp
      rw [this] at h
      obtain rfl := Option.some.inj h
      simpa [Exit.inBlock] using hc
    · have : Nat.beq j id = false := beq_false hj
      rw [this] at h
      simp only [Exit.inBlock]
      rw [if_neg (fun e => hj e.symm)]
      exact out_cont k k' h hc
  | .code c :: k, k', h, hc => out_cont k k' h hc
  | .inv I :: k, k', h, hc => out_cont k k' h hc

theorem AC.exit {id : Nat} {k' : List It} (ho : out id k = some k') (h : AC P fr k' st) : AC P fr (.code (.exit id) :: k) st :=
  fun a w hr => wp_exit (out_cont k k' ho (h a w hr))

theorem AC.cond {x : Operand} {t e : Code} (c : Bool) (hx : st.ev x = some (.p (.v (.bool c)))) (ht : c = true → AC P fr (.code t :: k) st) (hf : c = false → AC P fr (.code e :: k) st) :
    AC P fr (.code (.cond x t e) :: k) st := by
  intro a w hr
  obtain ⟨η, φ, hr'⟩ := hr
  have h := hr'.ev hx
  simp only [ARel, Rel] at h
  exact wp_cond_split h (fun hc => ht hc a w ⟨η, φ, hr'⟩) (fun hc => hf hc a w ⟨η, φ, hr'⟩)

end
end Go.V
