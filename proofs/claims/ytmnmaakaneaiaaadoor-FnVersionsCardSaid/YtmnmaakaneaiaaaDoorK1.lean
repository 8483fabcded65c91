/- A small calculus of verification conditions over the kit's Code.wp: values as pure data, what a call owns, and how both stand to a world. -/
import Derived.WalkKit
import Derived.Deep.Quiet
import Derived.Deep.LoopGhost
import Derived.Laws.StructEq

namespace Go.V
open Go Go.RowKit

/-- Plain data that a value stands for; what it points to is only read. -/
inductive PV where
  | v (x : Value)
  | ptr (cs : List PV)
  | sl (rs : Nat) (rows : List (List PV))
  | agg (cs : List PV)
  | tup (cs : List PV)
  | clo (f : FuncId) (caps : List PV)

mutual
def Rel (S : Nat → Prop) (w : World) : PV → Value → Prop
  | .v x, u => u = x
  | .ptr cs, u => ∃ b o, u = .pointer (some ⟨b, o, none⟩) ∧ ¬ S b ∧ b < w.heap.size ∧ RelAt S w b o cs
  | .sl rs rows, u => ∃ a cap, u = .slice a rows.length cap ∧ rows.length ≤ cap ∧
      (rows = [] ∨ ∃ b o, a = some ⟨b, o, none⟩ ∧ ¬ S b ∧ b < w.heap.size ∧ RelRows S w b rs o rows)
  | .agg cs, u => ∃ us, u = .agg us ∧ RelL S w cs us.toList
  | .tup cs, u => ∃ us, u = .tuple us ∧ RelL S w cs us.toList
  | .clo f caps, u => ∃ us, u = .func (.func f) #[] us ∧ RelL S w caps us.toList
def RelAt (S : Nat → Prop) (w : World) (b : Nat) : Nat → List PV → Prop
  | _, [] => True
  | o, c :: cs => (∃ u, w.cell? ⟨b, o, none⟩ = some u ∧ Rel S w c u) ∧ RelAt S w b (o + 1) cs
def RelRows (S : Nat → Prop) (w : World) (b rs : Nat) : Nat → List (List PV) → Prop
  | _, [] => True
  | o, r :: rows => r.length = rs ∧ RelAt S w b o r ∧ RelRows S w b rs (o + rs) rows
def RelL (S : Nat → Prop) (w : World) : List PV → List Value → Prop
  | [], us => us = []
  | c :: cs, us => ∃ u us', us = u :: us' ∧ Rel S w c u ∧ RelL S w cs us'
end

/-- All blocks but those in S are as they were. -/
structure Same (S : Nat → Prop) (w w' : World) : Prop where
  size : w.heap.size ≤ w'.heap.size
  block : ∀ k, k < w.heap.size → ¬ S k → w'.heap[k]? = w.heap[k]?

section
variable {S S' : Nat → Prop} {w w' : World}

mutual
theorem Rel.mono (hw : Same S w w') (hS : ∀ k, k < w.heap.size → S' k → S k) : ∀ (x : PV) (u : Value), Rel S w x u → Rel S' w' x u
  | .v _, _, h => by simpa only [Rel] using h
  | .ptr cs, u, h => by
    simp only [Rel] at h ⊢
    obtain ⟨b, o, h1, h2, h3, h4⟩ := h
    exact ⟨b, o, h1, fun k => h2 (hS b h3 k), Nat.lt_of_lt_of_le h3 hw.size, RelAt.mono hw hS (hw.block b h3 h2) o cs h4⟩
  | .sl rs rows, u, h => by
    simp only [Rel] at h ⊢
    obtain ⟨a, cap, h1, h2, h3⟩ := h
    refine ⟨a, cap, h1, h2, ?_⟩
    rcases h3 with h3 | ⟨b, o, e, n, l, r⟩
    · exact .inl h3
    · exact .inr ⟨b, o, e, fun k => n (hS b l k), Nat.lt_of_lt_of_le l hw.size, RelRows.mono hw hS (hw.block b l n) o rows r⟩
  | .agg cs, u, h => by
    simp only [Rel] at h ⊢
    obtain ⟨us, h1, h2⟩ := h
    exact ⟨us, h1, RelL.mono hw hS cs us.toList h2⟩
  | .tup cs, u, h => by
    simp only [Rel] at h ⊢
    obtain ⟨us, h1, h2⟩ := h
    exact ⟨us, h1, RelL.mono hw hS cs us.toList h2⟩
  | .clo _ cs, u, h => by
    simp only [Rel] at h ⊢
    obtain ⟨us, h1, h2⟩ := h
    exact ⟨us, h1, RelL.mono hw hS cs us.toList h2⟩
theorem RelAt.mono (hw : Same S w w') (hS : ∀ k, k < w.heap.size → S' k → S k) {b : Nat} (hb : w'.heap[b]? = w.heap[b]?) :
    ∀ (o : Nat) (cs : List PV), RelAt S w b o cs → RelAt S' w' b o cs
  | _, [], _ => by simp only [RelAt]
  | o, c :: cs, h => by
    simp only [RelAt] at h ⊢
    obtain ⟨⟨u, h1, h2⟩, h3⟩ := h
    refine ⟨⟨u, ?_, Rel.mono hw hS c u h2⟩, RelAt.mono hw hS hb (o + 1) cs h3⟩
    rw [World.cell?_of_block (w := w) (by exact hb)]; exact h1
theorem RelRows.mono (hw : Same S w w') (hS : ∀ k, k < w.heap.size → S' k → S k) {b rs : Nat} (hb : w'.heap[b]? = w.heap[b]?) :
    ∀ (o : Nat) (rows : List (List PV)), RelRows S w b rs o rows → RelRows S' w' b rs o rows
  | _, [], _ => by simp only [RelRows]
  | o, r :: rows, h => by
    simp only [RelRows] at h ⊢
    exact ⟨h.1, RelAt.mono hw hS hb o r h.2.1, RelRows.mono hw hS hb (o + rs) rows h.2.2⟩
theorem RelL.mono (hw : Same S w w') (hS : ∀ k, k < w.heap.size → S' k → S k) : ∀ (cs : List PV) (us : List Value), RelL S w cs us → RelL S' w' cs us
  | [], _, h => by simpa only [RelL] using h
  | c :: cs, us, h => by
    simp only [RelL] at h ⊢
    obtain ⟨u, us', h1, h2, h3⟩ := h
    exact ⟨u, us', h1, Rel.mono hw hS c u h2, RelL.mono hw hS cs us' h3⟩
end
end

/-- A slot's content: plain data; the handle of something owned; an address within it. -/
inductive AV where
  | p (x : PV)
  | h (id : Nat)
  | el (id rs row off : Nat)
  | agg (cs : List AV)
  | tup (cs : List AV)
  | clo (f : FuncId) (caps : List AV)
  | junk

def blk : Value → Option Nat
  | .pointer (some a) => some a.block
  | .slice (some a) _ _ => some a.block
  | _ => none

mutual
def ARel (η : Nat → Value) (S : Nat → Prop) (w : World) : AV → Value → Prop
  | .p x, u => Rel S w x u
  | .h id, u => u = η id
  | .el id rs row off, u => ∃ b, blk (η id) = some b ∧ u = .pointer (some ⟨b, row * rs + off, none⟩)
  | .agg cs, u => ∃ us, u = .agg us ∧ ARelL η S w cs us.toList
  | .tup cs, u => ∃ us, u = .tuple us ∧ ARelL η S w cs us.toList
  | .clo f caps, u => ∃ us, u = .func (.func f) #[] us ∧ ARelL η S w caps us.toList
  | .junk, _ => True
def ARelL (η : Nat → Value) (S : Nat → Prop) (w : World) : List AV → List Value → Prop
  | [], us => us = []
  | c :: cs, us => ∃ u us', us = u :: us' ∧ ARel η S w c u ∧ ARelL η S w cs us'
end

mutual
def AV.names (n : Nat) : AV → Bool
  | .p _ => false
  | .h i => Nat.beq i n
  | .el i _ _ _ => Nat.beq i n
  | .agg cs => AV.namesL n cs
  | .tup cs => AV.namesL n cs
  | .clo _ cs => AV.namesL n cs
  | .junk => false
def AV.namesL (n : Nat) : List AV → Bool
  | [] => false
  | c :: cs => AV.names n c || AV.namesL n cs
end

section
variable {η η' : Nat → Value} {S S' : Nat → Prop} {w w' : World}
mutual
theorem ARel.mono (hw : Same S w w') (hS : ∀ k, k < w.heap.size → S' k → S k) : ∀ (x : AV) (u : Value), (∀ i, AV.names i x = true → η' i = η i) → ARel η S w x u → ARel η' S' w' x u
  | .p x, u, _, h => by simp only [ARel] at h ⊢; exact Rel.mono hw hS x u h
  | .h i, u, hη, h => by simp only [ARel] at h ⊢; rw [hη i (by simp [AV.names])]; exact h
  | .el i _ _ _, u, hη, h => by simp only [ARel] at h ⊢; rw [hη i (by simp [AV.names])]; exact h
  | .agg cs, u, hη, h => by
    simp only [ARel] at h ⊢
    obtain ⟨us, h1, h2⟩ := h
    exact ⟨us, h1, ARelL.mono hw hS cs us.toList (fun i hi => hη i (by simpa only [AV.names] using hi)) h2⟩
  | .tup cs, u, hη, h => by
    simp only [ARel] at h ⊢
    obtain ⟨us, h1, h2⟩ := h
    exact ⟨us, h1, ARelL.mono hw hS cs us.toList (fun i hi => hη i (by simpa only [AV.names] using hi)) h2⟩
  | .clo _ cs, u, hη, h => by
    simp only [ARel] at h ⊢
    obtain ⟨us, h1, h2⟩ := h
    exact ⟨us, h1, ARelL.mono hw hS cs us.toList (fun i hi => hη i (by simpa only [AV.names] using hi)) h2⟩
  | .junk, _, _, _ => by simp only [ARel]
theorem ARelL.mono (hw : Same S w w') (hS : ∀ k, k < w.heap.size → S' k → S k) : ∀ (cs : List AV) (us : List Value), (∀ i, AV.namesL i cs = true → η' i = η i) → ARelL η S w cs us → ARelL η' S' w' cs us
  | [], _, _, h => by simpa only [ARelL] using h
  | c :: cs, us, hη, h => by
    simp only [ARelL] at h ⊢
    obtain ⟨u, us', h1, h2, h3⟩ := h
    exact ⟨u, us', h1, ARel.mono hw hS c u (fun i hi => hη i (by simp [AV.namesL, hi])) h2, ARelL.mono hw hS cs us' (fun i hi => hη i (by simp [AV.namesL, hi])) h3⟩
end
end

/-- Something owned of a kind of its own. -/
structure Cust where
  R : (Nat → Prop) → World → Value → List Nat → Prop
  view : Option PV
  mono : ∀ {S S' : Nat → Prop} {w w' : World} {hd : Value} {F : List Nat}, Same S w w' → (∀ k, k < w.heap.size → S' k → S k) → (∀ k ∈ F, w'.heap[k]? = w.heap[k]?) → R S w hd F → R S' w' hd F
  shape : ∀ {S : Nat → Prop} {w : World} {hd : Value} {F : List Nat}, R S w hd F → (∃ a, hd = .pointer a) ∨ (∃ a n c, hd = .slice a n c)
  ok : ∀ {S : Nat → Prop} {w : World} {hd : Value} {F : List Nat} {x : PV}, view = some x → R S w hd F → Rel (fun _ => False) w x hd

/-- What is owned. -/
inductive Res where
  | box (ty : TypeId) (cs : List AV)
  | vec (ty : TypeId) (rs : Nat) (rows : List (List PV))
  | cust (C : Cust)

def Res.names (n : Nat) : Res → Bool
  | .box _ cs => AV.namesL n cs
  | .vec .. => false
  | .cust _ => false

def RRes (η : Nat → Value) (S : Nat → Prop) (w : World) (hd : Value) (F : List Nat) : Res → Prop
  | .box ty cs => ∃ b arr, hd = .pointer (some ⟨b, 0, none⟩) ∧ F = [b] ∧ w.heap[b]? = some (.cells arr ty (0, 0)) ∧ ARelL η S w cs arr.toList
  | .vec ty rs rows => ∃ xs, RelL S w rows.flatten xs ∧ (∀ r ∈ rows, r.length = rs) ∧ w.ownsRow 0 ty rs hd rows.length xs ∧ F = hd.ownBlock.toList
  | .cust C => C.R S w hd F

theorem RRes.mono {η η' : Nat → Value} {S S' : Nat → Prop} {w w' : World} {hd : Value} {F : List Nat} (hw : Same S w w') (hS : ∀ k, k < w.heap.size → S' k → S k)
    (hF : ∀ k ∈ F, w'.heap[k]? = w.heap[k]?) (r : Res) (hη : ∀ i, r.names i = true → η' i = η i) (h : RRes η S w hd F r) : RRes η' S' w' hd F r := by
  cases r with
  | cust C => exact C.mono hw hS hF h
  | box ty cs =>
    obtain ⟨b, arr, h1, h2, h3, h4⟩ := h
    exact ⟨b, arr, h1, h2, (hF b (by simp [h2])).trans h3, ARelL.mono hw hS cs arr.toList hη h4⟩
  | vec ty rs rows =>
    obtain ⟨xs, h1, h2, h3, h4⟩ := h
    refine ⟨xs, RelL.mono hw hS _ _ h1, h2, ⟨h3.1, ?_⟩, h4⟩
    rcases h3.2 with hn | ⟨g, cap, cur, rfl, hb, hgg, rest⟩
    · exact .inl hn
    · exact .inr ⟨g, cap, cur, rfl, hb, (hF g (by simp [h4, Value.ownBlock])).trans hgg, rest⟩

/-- The first entry of a number in a table. -/
def get {α : Type} : List (Nat × α) → Nat → Option α
  | [], _ => none
  | (j, x) :: l, i => match Nat.beq j i with
    | true => some x
    | false => get l i

theorem beq_false {j i : Nat} (h : ¬ j = i) : Nat.beq j i = false := by
  cases hb : Nat.beq j i with
  | true => exact absurd (Nat.eq_of_beq_eq_true hb) h
  | false => rfl

theorem get_cons {α : Type} (j : Nat) (x : α) (l : List (Nat × α)) (i : Nat) : get ((j, x) :: l) i = if j = i then some x else get l i := by
  by_cases h : j = i
  · subst h; simp [get]
  · have : Nat.beq j i = false := beq_false h
    simp [get, this, h]

structure St where
  tm : List (Nat × AV)
  hp : List (Nat × Res)

/-- What stays fixed through a function's walk. -/
structure Fr where
  w0 : World
  S0 : Nat → Prop
  nt : Nat
  Q : Exit → Act → World → Prop
  pin : List (Nat × Value) := []

def SOf (φ : Nat → List Nat) (hp : List (Nat × Res)) (k : Nat) : Prop := ∃ id r, get hp id = some r ∧ k ∈ φ id

/-- From the function's begin on. -/
structure Keep (S0 : Nat → Prop) (w0 w : World) : Prop where
  os : w.os = w0.os
  tape : w.tape = w0.tape
  output : w.output = w0.output
  size : w0.heap.size ≤ w.heap.size
  block : ∀ k, k < w0.heap.size → ¬ S0 k → w.heap[k]? = w0.heap[k]?

theorem Keep.refl (S0 : Nat → Prop) (w : World) : Keep S0 w w := ⟨rfl, rfl, rfl, Nat.le_refl _, fun _ _ _ => rfl⟩

theorem Keep.below {S0 : Nat → Prop} {w0 w w' : World} (h : Keep S0 w0 w) (hb : Below w.heap.size w w') : Keep S0 w0 w' :=
  ⟨hb.os.trans h.os, hb.tape.trans h.tape, hb.output.trans h.output, Nat.le_trans h.size hb.size,
    fun k hk hn => (hb.block k (Nat.lt_of_lt_of_le hk h.size)).trans (h.block k hk hn)⟩

structure RepE (fr : Fr) (η : Nat → Value) (φ : Nat → List Nat) (st : St) (a : Act) (w : World) : Prop where
  defers : a.defers = []
  size : a.tmps.size = fr.nt
  slots : ∀ i av, get st.tm i = some av → ∃ u, a.tmps[i]? = some u ∧ ARel η (SOf φ st.hp) w av u
  res : ∀ id r, get st.hp id = some r → RRes η (SOf φ st.hp) w (η id) (φ id) r
  disj : ∀ id id' r r' k, get st.hp id = some r → get st.hp id' = some r' → k ∈ φ id → k ∈ φ id' → id = id'
  low : ∀ id r k, get st.hp id = some r → k ∈ φ id → fr.w0.heap.size ≤ k ∨ fr.S0 k
  lt : ∀ id r k, get st.hp id = some r → k ∈ φ id → k < w.heap.size
  keep : Keep fr.S0 fr.w0 w
  pin : ∀ i v, get fr.pin i = some v → η i = v

def Rep (fr : Fr) (st : St) (a : Act) (w : World) : Prop := ∃ η φ, RepE fr η φ st a w

theorem Same.of_below {S : Nat → Prop} {w w' : World} (h : Below w.heap.size w w') : Same S w w' := ⟨h.size, fun k hk _ => h.block k hk⟩

theorem RepE.below {fr : Fr} {η : Nat → Value} {φ : Nat → List Nat} {st : St} {a : Act} {w w' : World} (h : RepE fr η φ st a w) (hb : Below w.heap.size w w') : RepE fr η φ st a w' := by
  refine ⟨h.defers, h.size, ?_, ?_, h.disj, h.low, fun id r k hg hk => Nat.lt_of_lt_of_le (h.lt id r k hg hk) hb.size, h.keep.below hb, h.pin⟩
  · intro i av hg
    obtain ⟨u, h1, h2⟩ := h.slots i av hg
    exact ⟨u, h1, ARel.mono (Same.of_below hb) (fun _ _ => id) av u (fun _ _ => rfl) h2⟩
  · intro id r hg
    exact RRes.mono (Same.of_below hb) (fun _ _ => fun x => x) (fun k hk => hb.block k (h.lt id r k hg hk)) r (fun _ _ => rfl) (h.res id r hg)

def St.put (st : St) (d : Nat) (av : AV) : St := { st with tm := (d, av) :: st.tm }

theorem RepE.put {fr : Fr} {η : Nat → Value} {φ : Nat → List Nat} {st : St} {a : Act} {w : World} (h : RepE fr η φ st a w) {d : Nat} (hd : Nat.blt d fr.nt = true) {av : AV} {u : Value}
    (hr : ARel η (SOf φ st.hp) w av u) : RepE fr η φ (st.put d av) (a.put (some d) u) w := by
  have hd' : d < a.tmps.size := by rw [h.size]; exact Nat.le_of_ble_eq_true hd
  refine ⟨h.defers, by simp [Act.put, h.size], ?_, h.res, h.disj, h.low, h.lt, h.keep, h.pin⟩
  intro i av' hg
  simp only [St.put, get_cons] at hg
  by_cases hi : d = i
  · subst hi
    rw [if_pos rfl] at hg
    obtain rfl := Option.some.inj hg
    exact ⟨u, by simp [Act.put, hd'], hr⟩
  · rw [if_neg hi] at hg
    obtain ⟨x, h1, h2⟩ := h.slots i av' hg
    exact ⟨x, by simpa [Act.put, Array.getElem?_setIfInBounds, hi] using h1, h2⟩

/-- Operands. -/
def St.ev (st : St) : Operand → Option AV
  | .tmp t => get st.tm t
  | .const x => some (.p (.v x))
  | .func f => some (.p (.clo f []))
  | .global _ => none

theorem RepE.ev {fr : Fr} {η : Nat → Value} {φ : Nat → List Nat} {st : St} {a : Act} {w : World} (h : RepE fr η φ st a w) {x : Operand} {av : AV} (hx : st.ev x = some av) :
    ARel η (SOf φ st.hp) w av (a.eval x) := by
  cases x with
  | tmp t =>
    obtain ⟨u, h1, h2⟩ := h.slots t av hx
    have : a.eval (.tmp t) = u := by simp [Act.eval, Array.getD_eq_getD_getElem?, h1]
    rw [this]; exact h2
  | const x => cases hx; simp [Act.eval, ARel, Rel]
  | func f => cases hx; simp [Act.eval, ARel, Rel, RelL]
  | global g => cases hx

/-- The stack of what is left to do. -/
inductive It where
  | code (c : Code)
  | mark (id : Nat)
  | inv (I : St → Prop)

def cont (P : Program) (fr : Fr) : List It → Exit → Act → World → Prop
  | [] => fr.Q
  | .code c :: k => Exit.then (c.wp P (cont P fr k)) (cont P fr k)
  | .mark id :: k => Exit.inBlock id (cont P fr k)
  | .inv I :: k => Exit.then (fun a w => ∃ st, I st ∧ Rep fr st a w) (cont P fr k)

def AC (P : Program) (fr : Fr) (k : List It) (st : St) : Prop := ∀ a w, Rep fr st a w → cont P fr k .normal a w

def AO (P : Program) (fr : Fr) (ops : Array Oper) (rest : List Oper) (k : List It) : Bool → St → Prop
  | false, st => ∀ a w, Rep fr st a w → wpList P ops (cont P fr k) rest a w
  | true, st => ∀ η φ a w, RepE fr η φ st a w → wpQuiet P ops (fun w' => Below w.heap.size w w') (fun a' => ∀ w', Below w.heap.size w w' → cont P fr k .normal a' w') rest a

/-- In every world that goes on from the one at hand the operation yields one value, which is what 'av' says. -/
def Yld (P : Program) (fr : Fr) (o : Oper) (st : St) (av : AV) : Prop :=
  ∀ η φ a w, RepE fr η φ st a w → ∃ u, (∀ w', Below w.heap.size w w' → o.quietAt P a (fun w'' => Below w.heap.size w w'') w' u) ∧ ARel η (SOf φ st.hp) w av u

section
variable {P : Program} {fr : Fr} {ops : Array Oper} {rest : List Oper} {k : List It} {q : Bool} {st : St}

theorem AO.nil (h : AC P fr k st) : AO P fr ops [] k q st := by
  cases q with
  | false => exact fun a w hr => h a w hr
  | true => exact fun η φ a w hr w' hw' => h a w' ⟨η, φ, hr.below hw'⟩

theorem wanted_none {o : Oper} (hg : o.guard = none) (y : Nat → Option Bool) : Region.wanted o y = true := by simp [Region.wanted, hg]

theorem AO.wanted {o : Oper} {av : AV} {d : Nat} (hy : Yld P fr o st av) (hd : o.dst = some d) (hlt : Nat.blt d fr.nt = true)
    (hw : ∀ η φ a w, RepE fr η φ st a w → Region.wanted o (yielded ops a.tmps) = true) (hk : AO P fr ops rest k q (st.put d av)) : AO P fr ops (o :: rest) k q st := by
  cases q with
  | false =>
    intro a w ⟨η, φ, hr⟩
    obtain ⟨u, h1, h2⟩ := hy η φ a w hr
    simp only [wpList, hw η φ a w hr, if_true]
    refine .inl (Oper.wp_of_quiet (C := fun w' => Below w.heap.size w w') (K := fun a' => a' = a.put o.dst u) (Below.refl _ _) ?_ ⟨u, h1, rfl⟩)
    rintro a' w' hw' rfl
    rw [hd]
    exact hk _ _ ⟨η, φ, (hr.put hlt h2).below hw'⟩
  | true =>
    intro η φ a w hr
    obtain ⟨u, h1, h2⟩ := hy η φ a w hr
    simp only [wpQuiet, hw η φ a w hr, if_true]
    exact ⟨u, h1, by rw [hd]; exact hk η φ _ w (hr.put hlt h2)⟩

theorem AO.yld {o : Oper} (av : AV) {d : Nat} (hy : Yld P fr o st av) (hd : o.dst = some d) (hg : o.guard = none) (hlt : Nat.blt d fr.nt = true)
    (hk : AO P fr ops rest k q (st.put d av)) : AO P fr ops (o :: rest) k q st :=
  AO.wanted hy hd hlt (fun _ _ _ _ _ => wanted_none hg _) hk

theorem yielded_of {η : Nat → Value} {φ : Nat → List Nat} {a : Act} {w : World} (hr : RepE fr η φ st a w) {j dj : Nat} {c : Bool} (hj : (ops[j]?).bind (·.dst) = some dj)
    (hc : get st.tm dj = some (.p (.v (.bool c)))) : yielded ops a.tmps j = some c := by
  obtain ⟨u, h1, h2⟩ := hr.slots dj _ hc
  simp only [ARel, Rel] at h2
  subst h2
  simp [yielded, hj, h1]

/-- A guarded operation that is carried out. -/
theorem AO.yldG {o : Oper} (av : AV) {d j dj : Nat} {c : Bool} (hy : Yld P fr o st av) (hd : o.dst = some d) (hg : o.guard = some (j, c)) (hj : (ops[j]?).bind (·.dst) = some dj)
    (hc : get st.tm dj = some (.p (.v (.bool c)))) (hlt : Nat.blt d fr.nt = true)
    (hk : AO P fr ops rest k q (st.put d av)) : AO P fr ops (o :: rest) k q st :=
  AO.wanted hy hd hlt (fun η φ a w hr => by simp [Region.wanted, hg, yielded_of hr hj hc]) hk

/-- A guarded operation that is left out. -/
theorem AO.skip {o : Oper} {d j dj : Nat} {c : Bool} (hd : o.dst = some d) (hg : o.guard = some (j, !c)) (hj : (ops[j]?).bind (·.dst) = some dj)
    (hc : get st.tm dj = some (.p (.v (.bool c)))) (hlt : Nat.blt d fr.nt = true)
    (hk : AO P fr ops rest k q (st.put d (.p (.v undef)))) : AO P fr ops (o :: rest) k q st := by
  have hw : ∀ η φ a w, RepE fr η φ st a w → Region.wanted o (yielded ops a.tmps) = false := fun η φ a w hr => by
    simp [Region.wanted, hg, yielded_of hr hj hc]
  cases q with
  | false =>
    intro a w ⟨η, φ, hr⟩
    simp only [wpList, hw η φ a w hr, Bool.false_eq_true, if_false]
    rw [hd]
    exact hk _ _ ⟨η, φ, hr.put hlt (by simp [ARel, Rel])⟩
  | true =>
    intro η φ a w hr
    simp only [wpQuiet, hw η φ a w hr, Bool.false_eq_true, if_false]
    rw [hd]
    exact hk η φ _ w (hr.put hlt (by simp [ARel, Rel]))

/-- An operation that is left out because its guard was. -/
theorem AO.skipU {o : Oper} {d j dj : Nat} {c : Bool} (hd : o.dst = some d) (hg : o.guard = some (j, c)) (hj : (ops[j]?).bind (·.dst) = some dj)
    (hc : get st.tm dj = some (.p (.v undef))) (hlt : Nat.blt d fr.nt = true)
    (hk : AO P fr ops rest k q (st.put d (.p (.v undef)))) : AO P fr ops (o :: rest) k q st := by
  have hw : ∀ η φ a w, RepE fr η φ st a w → Region.wanted o (yielded ops a.tmps) = false := fun η φ a w hr => by
    obtain ⟨u, h1, h2⟩ := hr.slots dj _ hc
    simp only [ARel, Rel] at h2
    subst h2
    have : yielded ops a.tmps j = none := by simp [yielded, hj, h1, undef]
    simp [Region.wanted, hg, this]
  cases q with
  | false =>
    intro a w ⟨η, φ, hr⟩
    simp only [wpList, hw η φ a w hr, Bool.false_eq_true, if_false]
    rw [hd]
    exact hk _ _ ⟨η, φ, hr.put hlt (by simp [ARel, Rel])⟩
  | true =>
    intro η φ a w hr
    simp only [wpQuiet, hw η φ a w hr, Bool.false_eq_true, if_false]
    rw [hd]
    exact hk η φ _ w (hr.put hlt (by simp [ARel, Rel]))

/-- A test within a region, on a slot's Bool: the two ways. -/
theorem AO.split {c : Bool} (ht : c = true → AO P fr ops rest k q st) (hf : c = false → AO P fr ops rest k q st) : AO P fr ops rest k q st := by
  cases c with
  | true => exact ht rfl
  | false => exact hf rfl

theorem AC.region {id : Nat} {l : List Oper} (h : AO P fr l.toArray l k false st) : AC P fr (.code (.region id l.toArray false) :: k) st :=
  fun a w hr => wp_region_lit (h a w hr)

theorem AC.draw {id : Nat} {l : List Oper} (hm : P.follows .mixedOrders = true) (hB : Region.lexB .any l.toArray = true) (h : AO P fr l.toArray l k true st) :
    AC P fr (.code (.region id l.toArray true) :: k) st := by
  intro a w ⟨η, φ, hr⟩
  exact wp_region_quiet (C := fun w' => Below w.heap.size w w') hm hB (Below.drew (Below.refl _ _)) (by simpa using h η φ a w hr)

theorem AC.seq {x y : Code} (h : AC P fr (.code x :: .code y :: k) st) : AC P fr (.code (.seq x y) :: k) st :=
  fun a w hr => wp_seq (h a w hr)
theorem AC.skip (h : AC P fr k st) : AC P fr (.code .skip :: k) st :=
  fun a w hr => wp_skip (h a w hr)
theorem AC.block {id : Nat} {c : Code} (h : AC P fr (.code c :: .mark id :: k) st) : AC P fr (.code (.block id c) :: k) st :=
  fun a w hr => wp_block (h a w hr)
theorem AC.mark {id : Nat} (h : AC P fr k st) : AC P fr (.mark id :: k) st :=
  fun a w hr => h a w hr

/-- Where 'exit id' goes. -/
def out (id : Nat) : List It → Option (List It)
  | [] => none
  | .mark j :: k => match Nat.beq j id with
    | true => some k
    | false => out id k
  | _ :: k => out id k

theorem out_cont {id : Nat} {a : Act} {w : World} : ∀ (k k' : List It), out id k = some k' → cont P fr k' .normal a w → cont P fr k (.exit id) a w
  | [], _, h, _ => by cases h
  | .mark j :: k, k', h, hc => by
    simp only [out] at h
    simp only [cont]
    by_cases hj : j = id
    · subst hj
      have : Nat.beq j j = true := by simp
      rw [this] at h
      obtain rfl := Option.some.inj h
      simpa [Exit.inBlock] using hc
    · have : Nat.beq j id = false := beq_false hj
      rw [this] at h
      simp only [Exit.inBlock]
      rw [if_neg (fun e => hj e.symm)]
      exact out_cont k k' h hc
  | .code c :: k, k', h, hc => out_cont k k' h hc
  | .inv I :: k, k', h, hc => out_cont k k' h hc

theorem AC.exit {id : Nat} {k' : List It} (ho : out id k = some k') (h : AC P fr k' st) : AC P fr (.code (.exit id) :: k) st :=
  fun a w hr => wp_exit (out_cont k k' ho (h a w hr))

theorem AC.cond {x : Operand} {t e : Code} (c : Bool) (hx : st.ev x = some (.p (.v (.bool c)))) (ht : c = true → AC P fr (.code t :: k) st) (hf : c = false → AC P fr (.code e :: k) st) :
    AC P fr (.code (.cond x t e) :: k) st := by
  intro a w hr
  obtain ⟨η, φ, hr'⟩ := hr
  have h := hr'.ev hx
  simp only [ARel, Rel] at h
  exact wp_cond_split h (fun hc => ht hc a w ⟨η, φ, hr'⟩) (fun hc => hf hc a w ⟨η, φ, hr'⟩)

end
end Go.V
/- The calculus' rules for operations that make no memory. -/
namespace Go.V
open Go Go.RowKit

/-- The outcome of an operation on two integers of one kind. -/
def iop (op : BinOp) (k : IntKind) (a b : Int) : Option Value :=
  match op with
  | .add => some (.int k (k.wrap (a + b)))
  | .sub => some (.int k (k.wrap (a - b)))
  | .mul => some (.int k (k.wrap (a * b)))
  | .eql => some (.bool (a == b))
  | .neq => some (.bool (a != b))
  | .lss => some (.bool (decide (a < b)))
  | .leq => some (.bool (decide (a ≤ b)))
  | .gtr => some (.bool (decide (a > b)))
  | .geq => some (.bool (decide (a ≥ b)))
  | _ => none

section
variable {P : Program} {fr : Fr} {st : St}

/-- An operation that yields one value, whatever the world, as long as it goes on from the one at hand. -/
theorem Yld.of_run {o : Oper} {av : AV}
    (h : ∀ η φ a w, RepE fr η φ st a w → ∃ u, (∀ w', Below w.heap.size w w' → (execOp a.eval o).run P w' = .ok (.value u) w') ∧ ARel η (SOf φ st.hp) w av u) : Yld P fr o st av := by
  intro η φ a w hr
  obtain ⟨u, h1, h2⟩ := h η φ a w hr
  exact ⟨u, fun w' hw' => by unfold Oper.quietAt; rw [h1 w' hw']; exact ⟨rfl, rfl⟩, h2⟩

variable {d : Option Tmp} {t : TypeId} {pos : String} {aft : Array Edge} {g : Option (Nat × Bool)}

theorem Yld.move {x : Operand} {av : AV} (hx : st.ev x = some av) : Yld P fr ⟨d, .move x, t, pos, aft, g⟩ st av :=
  Yld.of_run fun _ _ a _ hr => ⟨a.eval x, fun _ _ => rfl, hr.ev hx⟩
theorem Yld.assign {x : Operand} {av : AV} (hx : st.ev x = some av) : Yld P fr ⟨d, .assign x, t, pos, aft, g⟩ st av :=
  Yld.of_run fun _ _ a _ hr => ⟨a.eval x, fun _ _ => rfl, hr.ev hx⟩
theorem Yld.pickT {c x y : Operand} {av : AV} (hc : st.ev c = some (.p (.v (.bool true)))) (hx : st.ev x = some av) : Yld P fr ⟨d, .pick c x y, t, pos, aft, g⟩ st av :=
  Yld.of_run fun _ _ a _ hr => ⟨a.eval x, fun _ _ => by
    have h := hr.ev hc
    simp only [ARel, Rel] at h
    simp [execOp, h, asBool], hr.ev hx⟩
theorem Yld.pickF {c x y : Operand} {av : AV} (hc : st.ev c = some (.p (.v (.bool false)))) (hy : st.ev y = some av) : Yld P fr ⟨d, .pick c x y, t, pos, aft, g⟩ st av :=
  Yld.of_run fun _ _ a _ hr => ⟨a.eval y, fun _ _ => by
    have h := hr.ev hc
    simp only [ARel, Rel] at h
    simp [execOp, h, asBool], hr.ev hy⟩

theorem run_iop {op : BinOp} {k : IntKind} {a b : Int} {u : Value} (h : iop op k a b = some u) (ty : TypeId) (x y : Operand) (w : World) :
    (do eqGuard op ty x y (.int k a) (.int k b); binOp op ty (.int k a) (.int k b) : Sem Value).run P w = .ok u w := by
  cases op <;> simp only [iop, Option.some.injEq, reduceCtorEq] at h <;> subst h <;>
    simp [eqGuard, binOp, Op.intArith, Op.intCmp]

theorem Yld.int {op : BinOp} {ty ty2 : TypeId} {x y : Operand} {k : IntKind} {a b : Int} {u : Value} (hx : st.ev x = some (.p (.v (.int k a)))) (hy : st.ev y = some (.p (.v (.int k b))))
    (hop : iop op k a b = some u) : Yld P fr ⟨d, .binOp op ty x y ty2, t, pos, aft, g⟩ st (.p (.v u)) :=
  Yld.of_run fun _ _ A _ hr => ⟨u, fun w' _ => by
    have h1 := hr.ev hx
    have h2 := hr.ev hy
    simp only [ARel, Rel] at h1 h2
    have := run_iop (P := P) hop ty x y w'
    simp only [execOp, h1, h2, Sem.run_bind, Sem.run_pure] at this ⊢
    rw [this]; rfl, by simp [ARel, Rel]⟩

theorem Yld.quo {ty ty2 : TypeId} {x y : Operand} {k : IntKind} {a b : Int} (hx : st.ev x = some (.p (.v (.int k a)))) (hy : st.ev y = some (.p (.v (.int k b))))
    (hb : b ≠ 0) : Yld P fr ⟨d, .binOp .quo ty x y ty2, t, pos, aft, g⟩ st (.p (.v (.int k (k.wrap (a.tdiv b))))) :=
  Yld.of_run fun _ _ A _ hr => ⟨.int k (k.wrap (a.tdiv b)), fun w' _ => by
    have h1 := hr.ev hx
    have h2 := hr.ev hy
    simp only [ARel, Rel] at h1 h2
    simp [execOp, h1, h2, eqGuard, binOp, Op.intDiv, hb], by simp [ARel, Rel]⟩

theorem Yld.rem {ty ty2 : TypeId} {x y : Operand} {k : IntKind} {a b : Int} (hx : st.ev x = some (.p (.v (.int k a)))) (hy : st.ev y = some (.p (.v (.int k b))))
    (hb : b ≠ 0) : Yld P fr ⟨d, .binOp .rem ty x y ty2, t, pos, aft, g⟩ st (.p (.v (.int k (a.tmod b)))) :=
  Yld.of_run fun _ _ A _ hr => ⟨.int k (a.tmod b), fun w' _ => by
    have h1 := hr.ev hx
    have h2 := hr.ev hy
    simp only [ARel, Rel] at h1 h2
    simp [execOp, h1, h2, eqGuard, binOp, Op.intDiv, hb], by simp [ARel, Rel]⟩

theorem Yld.beq {ty ty2 : TypeId} {x y : Operand} {a b : Bool} (ht : P.underlying ty = some .bool) (hx : st.ev x = some (.p (.v (.bool a)))) (hy : st.ev y = some (.p (.v (.bool b)))) :
    Yld P fr ⟨d, .binOp .eql ty x y ty2, t, pos, aft, g⟩ st (.p (.v (.bool (a == b)))) :=
  Yld.of_run fun _ _ A _ hr => ⟨.bool (a == b), fun w' _ => by
    have h1 := hr.ev hx
    have h2 := hr.ev hy
    simp only [ARel, Rel] at h1 h2
    have := run_eql_bool (P := P) w' ty a b ht
    simp only [execOp, h1, h2, eqGuard]
    simp [this], by simp [ARel, Rel]⟩
theorem Yld.bne {ty ty2 : TypeId} {x y : Operand} {a b : Bool} (ht : P.underlying ty = some .bool) (hx : st.ev x = some (.p (.v (.bool a)))) (hy : st.ev y = some (.p (.v (.bool b)))) :
    Yld P fr ⟨d, .binOp .neq ty x y ty2, t, pos, aft, g⟩ st (.p (.v (.bool (a != b)))) :=
  Yld.of_run fun _ _ A _ hr => ⟨.bool (a != b), fun w' _ => by
    have h1 := hr.ev hx
    have h2 := hr.ev hy
    simp only [ARel, Rel] at h1 h2
    have := run_neq_bool (P := P) w' ty a b ht
    simp only [execOp, h1, h2, eqGuard]
    simp [this]
    cases a <;> cases b <;> rfl, by simp [ARel, Rel]⟩

/-- A string of bytes. -/
def str (l : List UInt8) : Value := .string ⟨l.toArray⟩

/-- Comparisons of two strings. -/
def sop (op : BinOp) (a b : List UInt8) : Option Value :=
  match op with
  | .eql => some (.bool (a == b))
  | .neq => some (.bool (!(a == b)))
  | .lss => some (.bool (Op.bytesLess a b))
  | .leq => some (.bool (Op.bytesLess a b || a == b))
  | .gtr => some (.bool (!(Op.bytesLess a b || a == b)))
  | .geq => some (.bool (!Op.bytesLess a b))
  | _ => none

theorem Yld.cmpStr {op : BinOp} {ty ty2 : TypeId} {x y : Operand} {a b : List UInt8} {u : Value} (hx : st.ev x = some (.p (.v (str a)))) (hy : st.ev y = some (.p (.v (str b))))
    (hop : sop op a b = some u) : Yld P fr ⟨d, .binOp op ty x y ty2, t, pos, aft, g⟩ st (.p (.v u)) :=
  Yld.of_run fun _ _ A _ hr => ⟨u, fun w' _ => by
    have h1 := hr.ev hx
    have h2 := hr.ev hy
    simp only [ARel, Rel, str] at h1 h2
    simp only [execOp, h1, h2]
    cases op <;> simp only [sop, Option.some.injEq, reduceCtorEq] at hop <;> subst hop <;> simp [eqGuard, binOp, Op.stringOp], by simp [ARel, Rel]⟩

theorem mk_append (a b : List UInt8) : (ByteArray.mk a.toArray) ++ (ByteArray.mk b.toArray) = ByteArray.mk (a ++ b).toArray := by
  apply ByteArray.ext; simp

theorem Yld.cat {ty ty2 : TypeId} {x y : Operand} {a b : List UInt8} (hx : st.ev x = some (.p (.v (str a)))) (hy : st.ev y = some (.p (.v (str b))))
    (hl : a.length + b.length < 9223372036854775808) : Yld P fr ⟨d, .binOp .add ty x y ty2, t, pos, aft, g⟩ st (.p (.v (str (a ++ b)))) :=
  Yld.of_run fun _ _ A _ hr => ⟨str (a ++ b), fun w' _ => by
    have h1 := hr.ev hx
    have h2 := hr.ev hy
    simp only [ARel, Rel, str] at h1 h2
    have hs : ¬ (((ByteArray.mk a.toArray).size + (ByteArray.mk b.toArray).size : Nat) : Int) > IntKind.i64.max := by
      simp only [ByteArray.size, List.size_toArray, IntKind.max, IntKind.signed, IntKind.bits]
      simp; omega
    simp only [execOp, h1, h2, eqGuard, binOp, Op.stringOp]
    simp only [Sem.run_bind, if_neg hs]
    simp [mk_append, str], by simp [ARel, Rel]⟩

theorem Yld.not {ty : TypeId} {x : Operand} {a : Bool} (hx : st.ev x = some (.p (.v (.bool a)))) : Yld P fr ⟨d, .unOp .not ty x, t, pos, aft, g⟩ st (.p (.v (.bool (!a)))) :=
  Yld.of_run fun _ _ A _ hr => ⟨.bool (!a), fun w' _ => by
    have h1 := hr.ev hx
    simp only [ARel, Rel] at h1
    simp [execOp, h1, Op.unary], by simp [ARel, Rel]⟩
theorem Yld.neg {ty : TypeId} {x : Operand} {k : IntKind} {a : Int} (hx : st.ev x = some (.p (.v (.int k a)))) : Yld P fr ⟨d, .unOp .neg ty x, t, pos, aft, g⟩ st (.p (.v (.int k (k.wrap (-a))))) :=
  Yld.of_run fun _ _ A _ hr => ⟨.int k (k.wrap (-a)), fun w' _ => by
    have h1 := hr.ev hx
    simp only [ARel, Rel] at h1
    simp [execOp, h1, Op.unary, Op.intArith], by simp [ARel, Rel]⟩

theorem Yld.convInt {src dst : TypeId} {x : Operand} {k k' : IntKind} {a : Int} {D : TypeDesc} (hs : P.underlying src = some D) (hd : P.underlying dst = some (.int k))
    (hx : st.ev x = some (.p (.v (.int k' a)))) : Yld P fr ⟨d, .convert src dst x, t, pos, aft, g⟩ st (.p (.v (.int k (k.wrap a)))) :=
  Yld.of_run fun _ _ A _ hr => ⟨.int k (k.wrap a), fun w' _ => by
    have h1 := hr.ev hx
    simp only [ARel, Rel] at h1
    simp [execOp, h1, Go.convert, run_underlying hs, run_underlying hd, Conv.intToInt], by simp [ARel, Rel]⟩

/-- The parts of a tuple. -/
def AV.parts : AV → Option (List AV)
  | .tup l => some l
  | .p (.tup l) => some (l.map .p)
  | _ => none

theorem relL_getElem {S : Nat → Prop} {w : World} : ∀ (cs : List PV) (us : List Value) (i : Nat) (c : PV), RelL S w cs us → cs[i]? = some c → ∃ u, us[i]? = some u ∧ Rel S w c u
  | [], _, _, _, _, h => by simp at h
  | c :: cs, us, i, c', h, hc => by
    simp only [RelL] at h
    obtain ⟨u, us', rfl, h2, h3⟩ := h
    cases i with
    | zero => simp at hc; subst hc; exact ⟨u, by simp, h2⟩
    | succ i => simp at hc; obtain ⟨u', h4, h5⟩ := relL_getElem cs us' i c' h3 hc; exact ⟨u', by simpa using h4, h5⟩
theorem aRelL_getElem {η : Nat → Value} {S : Nat → Prop} {w : World} : ∀ (cs : List AV) (us : List Value) (i : Nat) (c : AV), ARelL η S w cs us → cs[i]? = some c → ∃ u, us[i]? = some u ∧ ARel η S w c u
  | [], _, _, _, _, h => by simp at h
  | c :: cs, us, i, c', h, hc => by
    simp only [ARelL] at h
    obtain ⟨u, us', rfl, h2, h3⟩ := h
    cases i with
    | zero => simp at hc; subst hc; exact ⟨u, by simp, h2⟩
    | succ i => simp at hc; obtain ⟨u', h4, h5⟩ := aRelL_getElem cs us' i c' h3 hc; exact ⟨u', by simpa using h4, h5⟩

theorem AV.parts_rel {av : AV} {l : List AV} (hp : av.parts = some l) {η : Nat → Value} {S : Nat → Prop} {w : World} {u : Value} (h : ARel η S w av u) :
    ∃ us, u = .tuple us ∧ ARelL η S w l us.toList := by
  have conv : ∀ (l : List PV) (us : List Value), RelL S w l us → ARelL η S w (l.map .p) us := by
    intro l
    induction l with
    | nil => intro us h; simpa [RelL, ARelL] using h
    | cons c l ih =>
      intro us h
      simp only [RelL] at h
      obtain ⟨u, us', rfl, h2, h3⟩ := h
      exact ⟨u, us', rfl, by simpa [ARel] using h2, ih us' h3⟩
  cases av with
  | tup l' => simp only [AV.parts, Option.some.injEq] at hp; subst hp; simpa only [ARel] using h
  | p x =>
    cases x with
    | tup l' =>
      simp only [AV.parts, Option.some.injEq] at hp; subst hp
      simp only [ARel, Rel] at h
      obtain ⟨us, h1, h2⟩ := h
      exact ⟨us, h1, conv l' us.toList h2⟩
    | _ => cases hp
  | _ => cases hp

theorem Yld.extract {x : Operand} {i : Nat} {av : AV} {l : List AV} {c : AV} (hx : st.ev x = some av) (hp : av.parts = some l) (hc : l[i]? = some c) :
    Yld P fr ⟨d, .extract x i, t, pos, aft, g⟩ st c :=
  Yld.of_run fun _ _ A w hr => by
    obtain ⟨us, h1, h2⟩ := AV.parts_rel hp (hr.ev hx)
    obtain ⟨u, h3, h4⟩ := aRelL_getElem l us.toList i c h2 hc
    refine ⟨u, fun w' _ => ?_, h4⟩
    have h3' : us[i]? = some u := by simpa using h3
    simp [execOp, h1, Instr.extract, h3']

end
end Go.V
/- The calculus' rules for operations that read memory. -/
namespace Go.V
open Go Go.RowKit

section
variable {P : Program} {fr : Fr} {st : St}
variable {d : Option Tmp} {t : TypeId} {pos : String} {aft : Array Edge} {g : Option (Nat × Bool)}

theorem add_plain (b o n : Nat) : (⟨b, o, none⟩ : Addr).add n = ⟨b, o + n, none⟩ := by
  unfold Addr.add; split
  · next h => subst h; rfl
  · rfl

/-! What a value that is an address points to. -/

theorem relAt_getElem {S : Nat → Prop} {w : World} {b : Nat} : ∀ (o : Nat) (cs : List PV) (i : Nat) (c : PV), RelAt S w b o cs → cs[i]? = some c → ∃ u, w.cell? ⟨b, o + i, none⟩ = some u ∧ Rel S w c u
  | _, [], _, _, _, h => by simp at h
  | o, c :: cs, i, c', h, hc => by
    simp only [RelAt] at h
    cases i with
    | zero => simp at hc; subst hc; simpa using h.1
    | succ i =>
      simp at hc
      obtain ⟨u, h1, h2⟩ := relAt_getElem (o + 1) cs i c' h.2 hc
      exact ⟨u, by rw [show o + (i + 1) = o + 1 + i by omega]; exact h1, h2⟩

theorem relAt_drop {S : Nat → Prop} {w : World} {b : Nat} : ∀ (n o : Nat) (cs : List PV), RelAt S w b o cs → RelAt S w b (o + n) (cs.drop n)
  | 0, o, cs, h => by simpa using h
  | n + 1, o, [], _ => by simp [RelAt]
  | n + 1, o, c :: cs, h => by
    simp only [RelAt] at h
    have := relAt_drop n (o + 1) cs h.2
    rw [show o + (n + 1) = o + 1 + n by omega]
    simpa using this

theorem relRows_getElem {S : Nat → Prop} {w : World} {b rs : Nat} : ∀ (o : Nat) (rows : List (List PV)) (i : Nat) (r : List PV), RelRows S w b rs o rows → rows[i]? = some r → r.length = rs ∧ RelAt S w b (o + i * rs) r
  | _, [], _, _, _, h => by simp at h
  | o, r :: rows, i, r', h, hr => by
    simp only [RelRows] at h
    cases i with
    | zero => simp at hr; subst hr; exact ⟨h.1, by simpa using h.2.1⟩
    | succ i =>
      simp at hr
      have := relRows_getElem (o + rs) rows i r' h.2.2 hr
      rw [show o + (i + 1) * rs = o + rs + i * rs by rw [Nat.add_mul]; omega]
      exact this

theorem relRows_drop {S : Nat → Prop} {w : World} {b rs : Nat} : ∀ (n o : Nat) (rows : List (List PV)), RelRows S w b rs o rows → RelRows S w b rs (o + n * rs) (rows.drop n)
  | 0, o, rows, h => by simpa using h
  | n + 1, o, [], _ => by simp [RelRows]
  | n + 1, o, r :: rows, h => by
    simp only [RelRows] at h
    have := relRows_drop n (o + rs) rows h.2.2
    rw [show o + (n + 1) * rs = o + rs + n * rs by rw [Nat.add_mul]; omega]
    simpa using this

theorem relRows_take {S : Nat → Prop} {w : World} {b rs : Nat} : ∀ (n o : Nat) (rows : List (List PV)), RelRows S w b rs o rows → RelRows S w b rs o (rows.take n)
  | 0, o, rows, _ => by simp [RelRows]
  | n + 1, o, [], _ => by simp [RelRows]
  | n + 1, o, r :: rows, h => by
    simp only [RelRows] at h
    simp only [List.take_succ_cons, RelRows]
    exact ⟨h.1, h.2.1, relRows_take n (o + rs) rows h.2.2⟩

/-- The cells from an address on. -/
def ARelAt (η : Nat → Value) (S : Nat → Prop) (w : World) (b : Nat) : Nat → List AV → Prop
  | _, [] => True
  | o, c :: cs => (∃ u, w.cell? ⟨b, o, none⟩ = some u ∧ ARel η S w c u) ∧ ARelAt η S w b (o + 1) cs

theorem aRelAt_of_relAt {η : Nat → Value} {S : Nat → Prop} {w : World} {b : Nat} : ∀ (o : Nat) (cs : List PV), RelAt S w b o cs → ARelAt η S w b o (cs.map .p)
  | _, [], _ => by simp [ARelAt]
  | o, c :: cs, h => by
    simp only [RelAt] at h
    simp only [List.map_cons, ARelAt, ARel]
    exact ⟨h.1, aRelAt_of_relAt (o + 1) cs h.2⟩

theorem aRelAt_of_list {η : Nat → Value} {S : Nat → Prop} {w : World} {b : Nat} (arr : Array Value) (ty : TypeId) (hb : w.heap[b]? = some (.cells arr ty (0, 0))) :
    ∀ (cs : List AV) (o : Nat) (us : List Value), arr.toList.drop o = us → ARelL η S w cs us → ARelAt η S w b o cs
  | [], _, _, _, _ => by simp [ARelAt]
  | c :: cs, o, us, hd, h => by
    simp only [ARelL] at h
    obtain ⟨u, us', rfl, h2, h3⟩ := h
    have h0 : arr.toList[o]? = some u := by
      have := congrArg (fun l : List Value => l[0]?) hd
      simpa [List.getElem?_drop] using this
    refine ⟨⟨u, ?_, h2⟩, aRelAt_of_list arr ty hb cs (o + 1) us' ?_ h3⟩
    · rw [cell_of_row w b o arr ty (0, 0) hb]; simpa using h0
    · have := congrArg (List.drop 1) hd
      simpa [List.drop_drop, Nat.add_comm] using this

theorem aRelAt_drop {η : Nat → Value} {S : Nat → Prop} {w : World} {b : Nat} : ∀ (n o : Nat) (cs : List AV), ARelAt η S w b o cs → ARelAt η S w b (o + n) (cs.drop n)
  | 0, o, cs, h => by simpa using h
  | n + 1, o, [], _ => by simp [ARelAt]
  | n + 1, o, c :: cs, h => by
    simp only [ARelAt] at h
    have := aRelAt_drop n (o + 1) cs h.2
    rw [show o + (n + 1) = o + 1 + n by omega]
    simpa using this

theorem aRelAt_take {η : Nat → Value} {S : Nat → Prop} {w : World} {b : Nat} : ∀ (n o : Nat) (cs : List AV), ARelAt η S w b o cs → ARelAt η S w b o (cs.take n)
  | 0, o, cs, _ => by simp [ARelAt]
  | n + 1, o, [], _ => by simp [ARelAt]
  | n + 1, o, c :: cs, h => by
    simp only [ARelAt] at h
    simp only [List.take_succ_cons, ARelAt]
    exact ⟨h.1, aRelAt_take n (o + 1) cs h.2⟩

/-- What lies behind an address: the cells from there on (of one row). -/
def St.behind (st : St) : AV → Option (List AV)
  | .p (.ptr cs) => some (cs.map .p)
  | .h id => match get st.hp id with
    | some (.box _ cs) => some cs
    | _ => none
  | .el id rs row off => match get st.hp id with
    | some (.box _ cs) => match row with
      | 0 => some (cs.drop off)
      | _ + 1 => none
    | some (.vec _ rs' rows) => match Nat.beq rs' rs with
      | true => match rows[row]? with
        | some r => some ((r.drop off).map .p)
        | none => none
      | false => none
    | _ => none
  | _ => none

theorem relL_flatten {S : Nat → Prop} {w : World} {rs : Nat} : ∀ (rows : List (List PV)) (xs : List Value), RelL S w rows.flatten xs → (∀ r ∈ rows, r.length = rs) →
    ∀ i r, rows[i]? = some r → RelL S w r ((xs.drop (i * rs)).take rs)
  | [], _, _, _, i, r, hr => by simp at hr
  | r0 :: rows, xs, h, hl, i, r, hr => by
    have split : ∀ (l1 l2 : List PV) (us : List Value), RelL S w (l1 ++ l2) us → RelL S w l1 (us.take l1.length) ∧ RelL S w l2 (us.drop l1.length) := by
      intro l1
      induction l1 with
      | nil => intro l2 us h; simpa [RelL] using h
      | cons c l1 ih =>
        intro l2 us h
        simp only [List.cons_append, RelL] at h
        obtain ⟨u, us', rfl, h2, h3⟩ := h
        have := ih l2 us' h3
        simp only [List.length_cons, List.take_succ_cons, List.drop_succ_cons, RelL]
        exact ⟨⟨u, _, rfl, h2, this.1⟩, this.2⟩
    rw [List.flatten_cons] at h
    obtain ⟨h1, h2⟩ := split r0 rows.flatten xs h
    have hr0 : r0.length = rs := hl r0 (by simp)
    rw [hr0] at h1 h2
    cases i with
    | zero => simp at hr; subst hr; simpa using h1
    | succ i =>
      simp at hr
      have := relL_flatten rows (xs.drop rs) h2 (fun r hr => hl r (by simp [hr])) i r hr
      rw [List.drop_drop] at this
      rw [show (i + 1) * rs = rs + i * rs by rw [Nat.add_mul]; omega]
      exact this

theorem relAt_of_relL {S : Nat → Prop} {w : World} {b : Nat} : ∀ (cs : List PV) (o : Nat) (us : List Value), (∀ j u, us[j]? = some u → w.cell? ⟨b, o + j, none⟩ = some u) → RelL S w cs us → RelAt S w b o cs
  | [], _, _, _, _ => by simp [RelAt]
  | c :: cs, o, us, hu, h => by
    simp only [RelL] at h
    obtain ⟨u, us', rfl, h2, h3⟩ := h
    refine ⟨⟨u, by simpa using hu 0 u (by simp), h2⟩, relAt_of_relL cs (o + 1) us' (fun j u hj => ?_) h3⟩
    have := hu (j + 1) u (by simpa using hj)
    rw [show o + 1 + j = o + (j + 1) by omega]; exact this

/-- A row of an own vector, at its place. -/
theorem RRes.row {η : Nat → Value} {S : Nat → Prop} {w : World} {hd : Value} {F : List Nat} {ty : TypeId} {rs : Nat} {rows : List (List PV)} (h : RRes η S w hd F (.vec ty rs rows))
    {i : Nat} {r : List PV} (hr : rows[i]? = some r) {b : Nat} (hb : blk hd = some b) : RelAt S w b (i * rs) r := by
  obtain ⟨xs, h1, h2, h3, h4⟩ := h
  have hrel := relL_flatten rows xs h1 h2 i r hr
  have hil : i < rows.length := (List.getElem?_eq_some_iff.1 hr).1
  refine relAt_of_relL r (i * rs) _ (fun j u hj => ?_) hrel
  have hown : hd.ownBlock = some b := by
    rcases h3.2 with ⟨rfl, hn⟩ | ⟨g, cap, cur, rfl, _⟩
    · omega
    · simpa [Value.ownBlock, blk] using hb
  rw [List.getElem?_take] at hj
  split at hj
  · rw [List.getElem?_drop] at hj
    have := h3.cells hown (i * rs + j) u hj
    rwa [add_plain, Nat.zero_add] at this
  · cases hj

theorem behind_rel {st : St} {av : AV} {cs : List AV} (hb : st.behind av = some cs) {η : Nat → Value} {φ : Nat → List Nat} {a : Act} {w : World} (hr : RepE fr η φ st a w) {u : Value}
    (h : ARel η (SOf φ st.hp) w av u) : ∃ b o, u = .pointer (some ⟨b, o, none⟩) ∧ b < w.heap.size ∧ ARelAt η (SOf φ st.hp) w b o cs := by
  cases av with
  | p x =>
    cases x with
    | ptr cs' =>
      simp only [St.behind, Option.some.injEq] at hb; subst hb
      simp only [ARel, Rel] at h
      obtain ⟨b, o, h1, _, h3, h4⟩ := h
      exact ⟨b, o, h1, h3, aRelAt_of_relAt o cs' h4⟩
    | _ => cases hb
  | h id =>
    simp only [St.behind] at hb
    cases hg : get st.hp id with
    | none => rw [hg] at hb; cases hb
    | some r =>
      rw [hg] at hb
      cases r with
      | box ty cs' =>
        simp only [Option.some.injEq] at hb; subst hb
        obtain ⟨b, arr, h1, h2, h3, h4⟩ := hr.res id _ hg
        simp only [ARel] at h
        exact ⟨b, 0, h.trans h1, hr.lt id _ b hg (by simp [h2]), aRelAt_of_list arr ty h3 cs' 0 arr.toList (by simp) h4⟩
      | cust C => cases hb
      | vec ty rs rows => cases hb
  | el id rs row off =>
    simp only [St.behind] at hb
    simp only [ARel] at h
    obtain ⟨b, hbk, rfl⟩ := h
    cases hg : get st.hp id with
    | none => rw [hg] at hb; cases hb
    | some r =>
      rw [hg] at hb
      cases r with
      | box ty cs' =>
        cases row with
        | zero =>
          simp only [Option.some.injEq] at hb; subst hb
          obtain ⟨b', arr, h1, h2, h3, h4⟩ := hr.res id _ hg
          rw [h1] at hbk
          simp only [blk, Option.some.injEq] at hbk; subst hbk
          refine ⟨b', 0 * rs + off, rfl, hr.lt id _ b' hg (by simp [h2]), ?_⟩
          have := aRelAt_drop off 0 cs' (aRelAt_of_list arr ty h3 cs' 0 arr.toList (by simp) h4)
          simpa using this
        | succ n => cases hb
      | cust C => cases hb
      | vec ty rs' rows =>
        simp only at hb
        cases hbe : Nat.beq rs' rs with
        | false => rw [hbe] at hb; cases hb
        | true =>
          rw [hbe] at hb
          obtain rfl := Nat.eq_of_beq_eq_true hbe
          cases hrow : rows[row]? with
          | none => simp only [hrow] at hb; cases hb
          | some r =>
            simp only [hrow, Option.some.injEq] at hb; subst hb
            have hR := hr.res id _ hg
            refine ⟨b, row * rs' + off, rfl, ?_, aRelAt_of_relAt _ _ (relAt_drop off _ r (hR.row hrow hbk))⟩
            obtain ⟨xs, h1, h2, h3, h4⟩ := hR
            refine hr.lt id _ b hg ?_
            rw [h4]
            rcases h3.2 with ⟨e, hn⟩ | ⟨g', cap, cur, e, _⟩
            · rw [e] at hbk; simp [blk] at hbk
            · rw [e] at hbk ⊢; simpa [blk, Value.ownBlock, eq_comm] using hbk
  | _ => cases hb

theorem aRelAt_getElem {η : Nat → Value} {S : Nat → Prop} {w : World} {b : Nat} : ∀ (o : Nat) (cs : List AV) (i : Nat) (c : AV), ARelAt η S w b o cs → cs[i]? = some c → ∃ u, w.cell? ⟨b, o + i, none⟩ = some u ∧ ARel η S w c u
  | _, [], _, _, _, h => by simp at h
  | o, c :: cs, i, c', h, hc => by
    simp only [ARelAt] at h
    cases i with
    | zero => simp at hc; subst hc; simpa using h.1
    | succ i =>
      simp at hc
      obtain ⟨u, h1, h2⟩ := aRelAt_getElem (o + 1) cs i c' h.2 hc
      exact ⟨u, by rw [show o + (i + 1) = o + 1 + i by omega]; exact h1, h2⟩

theorem aRelAt_list {η : Nat → Value} {S : Nat → Prop} {w : World} {b : Nat} : ∀ (o : Nat) (cs : List AV), ARelAt η S w b o cs →
    ∃ us : List Value, us.length = cs.length ∧ (∀ j u, us[j]? = some u → w.cell? ⟨b, o + j, none⟩ = some u) ∧ ARelL η S w cs us
  | _, [], _ => ⟨[], rfl, by simp, by simp [ARelL]⟩
  | o, c :: cs, h => by
    simp only [ARelAt] at h
    obtain ⟨⟨u, h1, h2⟩, h3⟩ := h
    obtain ⟨us, e, h4, h5⟩ := aRelAt_list (o + 1) cs h3
    refine ⟨u :: us, by simp [e], fun j v hj => ?_, by simp only [ARelL]; exact ⟨u, us, rfl, h2, h5⟩⟩
    cases j with
    | zero => simp at hj; subst hj; simpa using h1
    | succ j => simp at hj; have := h4 j v hj; rwa [show o + (j + 1) = o + 1 + j by omega]

theorem below_cell {w w' : World} (hb : Below w.heap.size w w') {b o : Nat} (hlt : b < w.heap.size) : w'.cell? ⟨b, o, none⟩ = w.cell? ⟨b, o, none⟩ := hb.cell (p := ⟨b, o, none⟩) hlt

/-- Loading one cell. -/
theorem Yld.load {ty : TypeId} {x : Operand} {av c : AV} {cs : List AV} (hagg : ∀ w, (isAgg ty).run P w = .ok false w) (hx : st.ev x = some av) (hb : st.behind av = some (c :: cs)) :
    Yld P fr ⟨d, .load ty x, t, pos, aft, g⟩ st c :=
  Yld.of_run fun _ _ A w hr => by
    obtain ⟨b, o, h1, h2, h3⟩ := behind_rel hb hr (hr.ev hx)
    obtain ⟨u, h4, h5⟩ := h3.1
    refine ⟨u, fun w' hw' => ?_, h5⟩
    have h4' := (below_cell hw' (o := o) h2).trans h4
    simp [execOp, h1, Instr.loadAt, Instr.sureAddr, loadVar, hagg, h4']

/-- Loading a struct. -/
theorem Yld.loadAgg {ty : TypeId} {x : Operand} {av : AV} {cs cs' : List AV} {n : Nat} (hagg : ∀ w, (isAgg ty).run P w = .ok true w) (hsz : ∀ w, (sizeOf ty).run P w = .ok n w)
    (hx : st.ev x = some av) (hb : st.behind av = some cs) (hc : cs.take n = cs') (hn : Nat.beq cs'.length n = true) :
    Yld P fr ⟨d, .load ty x, t, pos, aft, g⟩ st (.agg cs') :=
  Yld.of_run fun _ _ A w hr => by
    obtain ⟨b, o, h1, h2, h3⟩ := behind_rel hb hr (hr.ev hx)
    obtain ⟨us, e, h4, h5⟩ := aRelAt_list o cs' (hc ▸ aRelAt_take n o cs h3)
    refine ⟨.agg us.toArray, fun w' hw' => ?_, by simp only [ARel]; exact ⟨us.toArray, rfl, by simpa using h5⟩⟩
    have hl : us.length = n := e.trans (Nat.eq_of_beq_eq_true hn)
    have := run_loadCells_list (P := P) w' ⟨b, o, none⟩ us (fun j v hj => by rw [add_plain, below_cell hw' h2]; exact h4 j v hj)
    rw [hl] at this
    simp [execOp, h1, Instr.loadAt, Instr.sureAddr, loadVar, hagg, hsz, this]

theorem Yld.nilCheck {x : Operand} {av : AV} {cs : List AV} (hx : st.ev x = some av) (hb : st.behind av = some cs) :
    Yld P fr ⟨d, .nilCheck x, t, pos, aft, g⟩ st av :=
  Yld.of_run fun _ _ A w hr => by
    obtain ⟨b, o, h1, h2, h3⟩ := behind_rel hb hr (hr.ev hx)
    refine ⟨A.eval x, fun w' hw' => ?_, hr.ev hx⟩
    simp [execOp, h1]

/-- The address of a field. -/
def AV.field (off : Nat) : AV → Option AV
  | .p (.ptr cs) => some (.p (.ptr (cs.drop off)))
  | .h id => some (.el id 0 0 off)
  | .el id rs row o => some (.el id rs row (o + off))
  | _ => none

theorem Yld.fieldAddr {s : TypeId} {x : Operand} {i : Nat} {av av' : AV} {cs : List AV} {fs : Array Field} {f : Field} {off n : Nat} (hs : P.underlying s = some (.struct fs)) (hf : fs[i]? = some f)
    (ho : f.offset = off) (hsz : ∀ w, (sizeOf f.type).run P w = .ok (n + 1) w) (hx : st.ev x = some av) (hb : st.behind av = some cs) (hav : av.field off = some av') :
    Yld P fr ⟨d, .fieldAddr s x i, t, pos, aft, g⟩ st av' :=
  Yld.of_run fun η φ A w hr => by
    have hrel := hr.ev hx
    obtain ⟨b, o, h1, h2, h3⟩ := behind_rel hb hr hrel
    refine ⟨.pointer (some ⟨b, o + off, none⟩), fun w' hw' => ?_, ?_⟩
    · simp [execOp, h1, Instr.fieldAt, run_underlying hs, hf, Instr.sureAddr, fieldPlace, hsz, ho, add_plain]
    · cases av with
      | p y =>
        cases y with
        | ptr cs' =>
          simp only [AV.field, Option.some.injEq] at hav; subst hav
          simp only [ARel, Rel] at hrel ⊢
          obtain ⟨b', o', e1, e2, e3, e4⟩ := hrel
          rw [e1] at h1
          simp only [Value.pointer.injEq, Option.some.injEq, Addr.mk.injEq, and_true] at h1
          obtain ⟨rfl, rfl⟩ := h1
          exact ⟨b', o' + off, rfl, e2, e3, relAt_drop off o' cs' e4⟩
        | _ => cases hav
      | h id =>
        simp only [AV.field, Option.some.injEq] at hav; subst hav
        simp only [ARel] at hrel ⊢
        simp only [St.behind] at hb
        cases hg : get st.hp id with
        | none => rw [hg] at hb; cases hb
        | some r =>
          rw [hg] at hb
          cases r with
          | box ty cs' =>
            obtain ⟨b', arr, e1, _⟩ := hr.res id _ hg
            rw [hrel, e1] at h1
            simp only [Value.pointer.injEq, Option.some.injEq, Addr.mk.injEq, and_true] at h1
            obtain ⟨rfl, rfl⟩ := h1
            exact ⟨b', by rw [e1]; rfl, by simp⟩
          | cust C => cases hb
          | vec ty rs rows => cases hb
      | el id rs row o' =>
        simp only [AV.field, Option.some.injEq] at hav; subst hav
        simp only [ARel] at hrel ⊢
        obtain ⟨b', e1, e2⟩ := hrel
        rw [e2] at h1
        simp only [Value.pointer.injEq, Option.some.injEq, Addr.mk.injEq, and_true] at h1
        obtain ⟨rfl, rfl⟩ := h1
        exact ⟨b', e1, by rw [Nat.add_assoc]⟩
      | _ => cases hav

/-- Go's slices: how many elements; the address of one. -/
def St.rows (st : St) : AV → Option (Nat × Nat)
  | .p (.sl rs rows) => some (rs, rows.length)
  | .h id => match get st.hp id with
    | some (.vec _ rs rows) => some (rs, rows.length)
    | _ => none
  | _ => none

def St.at (st : St) (i : Nat) : AV → Option AV
  | .p (.sl _ rows) => match rows[i]? with
    | some r => some (.p (.ptr r))
    | none => none
  | .h id => match get st.hp id with
    | some (.vec _ rs _) => some (.el id rs i 0)
    | _ => none
  | _ => none

theorem rows_rel {av : AV} {rs n : Nat} (hb : st.rows av = some (rs, n)) {η : Nat → Value} {φ : Nat → List Nat} {a : Act} {w : World} (hr : RepE fr η φ st a w) {u : Value}
    (h : ARel η (SOf φ st.hp) w av u) : ∃ x cap, u = .slice x n cap := by
  cases av with
  | p x =>
    cases x with
    | sl rs' rows =>
      simp only [St.rows, Option.some.injEq, Prod.mk.injEq] at hb
      obtain ⟨rfl, rfl⟩ := hb
      simp only [ARel, Rel] at h
      obtain ⟨a, cap, h1, _⟩ := h
      exact ⟨a, cap, h1⟩
    | _ => cases hb
  | h id =>
    simp only [St.rows] at hb
    cases hg : get st.hp id with
    | none => rw [hg] at hb; cases hb
    | some r =>
      rw [hg] at hb
      cases r with
      | cust C => cases hb
      | box ty cs' => cases hb
      | vec ty rs' rows =>
        simp only [Option.some.injEq, Prod.mk.injEq] at hb
        obtain ⟨rfl, rfl⟩ := hb
        obtain ⟨xs, h1, h2, h3, h4⟩ := hr.res id _ hg
        simp only [ARel] at h
        rcases h3.2 with ⟨e, hn⟩ | ⟨g', cap, cur, e, _⟩
        · exact ⟨none, 0, by rw [h, e, hn]⟩
        · exact ⟨_, cap, by rw [h, e]⟩
  | _ => cases hb

theorem Yld.len {ty : TypeId} {x : Operand} {av : AV} {rs n : Nat} {e : TypeId} (hs : P.underlying ty = some (.slice e)) (hx : st.ev x = some av) (hb : st.rows av = some (rs, n)) :
    Yld P fr ⟨d, .call { callee := .builtin .len, args := #[x], argTypes := #[ty] }, t, pos, aft, g⟩ st (.p (.v (.int .i64 n))) :=
  Yld.of_run fun _ _ A w hr => by
    obtain ⟨y, cap, h1⟩ := rows_rel hb hr (hr.ev hx)
    exact ⟨.int .i64 n, fun w' hw' => by simp [execOp, resolve, invoke, builtin, h1, Builtin.len_, run_underlying hs, goInt], by simp [ARel, Rel]⟩

theorem Yld.lenStr {ty : TypeId} {x : Operand} {l : List UInt8} (hs : P.underlying ty = some .string) (hx : st.ev x = some (.p (.v (str l)))) :
    Yld P fr ⟨d, .call { callee := .builtin .len, args := #[x], argTypes := #[ty] }, t, pos, aft, g⟩ st (.p (.v (.int .i64 l.length))) :=
  Yld.of_run fun _ _ A w hr => by
    have h1 := hr.ev hx
    simp only [ARel, Rel, str] at h1
    exact ⟨.int .i64 l.length, fun w' hw' => by
      have := run_len_string (P := P) w' ty t ⟨l.toArray⟩ hs
      simp only [ByteArray.size, List.size_toArray] at this
      simp [execOp, resolve, invoke, builtin, h1, this, goInt], by simp [ARel, Rel]⟩

theorem Yld.indexStr {ty : TypeId} {x i : Operand} {l : List UInt8} {k : IntKind} {n : Int} {c : UInt8} (hs : P.underlying ty = some .string) (hx : st.ev x = some (.p (.v (str l)))) (hi : st.ev i = some (.p (.v (.int k n))))
    (h0 : 0 ≤ n) (hc : l[n.toNat]? = some c) :
    Yld P fr ⟨d, .index ty x i, t, pos, aft, g⟩ st (.p (.v (.int .u8 c.toNat))) :=
  Yld.of_run fun _ _ A w hr => by
    have h1 := hr.ev hx
    have h2 := hr.ev hi
    simp only [ARel, Rel, str] at h1 h2
    refine ⟨.int .u8 c.toNat, fun w' hw' => ?_, by simp [ARel, Rel]⟩
    obtain ⟨hlt, e⟩ := List.getElem?_eq_some_iff.1 hc
    have hr2 := run_index_string (P := P) w' ty ⟨l.toArray⟩ k n hs
    rw [dif_pos ⟨h0, by simp only [ByteArray.size, List.size_toArray]; omega⟩] at hr2
    simp only [execOp, h1, h2, Sem.run_bind, hr2]
    simp [ByteArray.getElem_eq_getElem_data, e]

theorem Yld.indexAddr {ty : TypeId} {x i : Operand} {av av' : AV} {rs n : Nat} {e : TypeId} {k : IntKind} {j : Int} (hs : P.underlying ty = some (.slice e)) (hsz : ∀ w, (sizeOf e).run P w = .ok rs w)
    (hx : st.ev x = some av) (hi : st.ev i = some (.p (.v (.int k j)))) (hb : st.rows av = some (rs, n)) (h0 : 0 ≤ j) (h1 : j < n) (hat : st.at j.toNat av = some av') :
    Yld P fr ⟨d, .indexAddr ty x i, t, pos, aft, g⟩ st av' :=
  Yld.of_run fun η φ A w hr => by
    have hrel := hr.ev hx
    have hj := hr.ev hi
    simp only [ARel, Rel] at hj
    have key : ∃ b o cap, A.eval x = .slice (some ⟨b, o, none⟩) n cap ∧ ARel η (SOf φ st.hp) w av' (.pointer (some ⟨b, o + j.toNat * rs, none⟩)) := by
      cases av with
      | p y =>
        cases y with
        | sl rs' rows =>
          simp only [St.rows, Option.some.injEq, Prod.mk.injEq] at hb
          obtain ⟨rfl, rfl⟩ := hb
          simp only [ARel, Rel] at hrel
          obtain ⟨a, cap, e1, e2, e3⟩ := hrel
          simp only [St.at] at hat
          cases hrow : rows[j.toNat]? with
          | none => rw [hrow] at hat; cases hat
          | some r =>
            rw [hrow] at hat
            simp only [Option.some.injEq] at hat; subst hat
            rcases e3 with e3 | ⟨b, o, rfl, e4, e5, e6⟩
            · subst e3; simp at hrow
            · exact ⟨b, o, cap, e1, by simp only [ARel, Rel]; exact ⟨b, o + j.toNat * rs', rfl, e4, e5, (relRows_getElem o rows _ r e6 hrow).2⟩⟩
        | _ => cases hb
      | h id =>
        simp only [St.rows] at hb
        simp only [St.at] at hat
        cases hg : get st.hp id with
        | none => rw [hg] at hb; cases hb
        | some r =>
          rw [hg] at hb hat
          cases r with
          | cust C => cases hb
          | box ty cs' => cases hb
          | vec ty rs' rows =>
            simp only [Option.some.injEq, Prod.mk.injEq] at hb
            obtain ⟨rfl, rfl⟩ := hb
            simp only [Option.some.injEq] at hat; subst hat
            obtain ⟨xs, e1, e2, e3, e4⟩ := hr.res id _ hg
            simp only [ARel] at hrel ⊢
            rcases e3.2 with ⟨ev, hn⟩ | ⟨g', cap, cur, ev, _⟩
            · omega
            · exact ⟨g', 0, cap, by rw [hrel, ev], g', by rw [ev]; rfl, by simp⟩
      | _ => cases hb
    obtain ⟨b, o, cap, e1, e2⟩ := key
    refine ⟨_, fun w' hw' => ?_, e2⟩
    simp [execOp, e1, hj, Instr.indexAt, asIntOf, run_underlying hs, h0, h1, hsz, add_plain]

end
end Go.V
/- The calculus' rules for operations that make or change memory. -/
namespace Go.V
open Go Go.RowKit

def freshT (id : Nat) : List (Nat × AV) → Bool
  | [] => true
  | (_, a) :: l => match a.names id with
    | true => false
    | false => freshT id l
def freshH (id : Nat) : List (Nat × Res) → Bool
  | [] => true
  | (j, r) :: l => match Nat.beq j id with
    | true => false
    | false => match r.names id with
      | true => false
      | false => freshH id l
def St.fresh (st : St) (id : Nat) : Bool := match freshT id st.tm with
  | true => freshH id st.hp
  | false => false

theorem freshT_spec {id : Nat} : ∀ {l : List (Nat × AV)}, freshT id l = true → ∀ i av, get l i = some av → av.names id = false
  | [], _, _, _, h => by cases h
  | (j, a) :: l, hf, i, av, h => by
    simp only [freshT] at hf
    cases hn : a.names id with
    | true => rw [hn] at hf; cases hf
    | false =>
      rw [hn] at hf
      rw [get_cons] at h
      split at h
      · obtain rfl := Option.some.inj h; exact hn
      · exact freshT_spec hf i av h
theorem freshH_spec {id : Nat} : ∀ {l : List (Nat × Res)}, freshH id l = true → get l id = none ∧ ∀ i r, get l i = some r → r.names id = false
  | [], _ => ⟨rfl, fun _ _ h => by cases h⟩
  | (j, a) :: l, hf => by
    simp only [freshH] at hf
    cases hj : Nat.beq j id with
    | true => rw [hj] at hf; cases hf
    | false =>
      rw [hj] at hf
      cases hn : a.names id with
      | true => rw [hn] at hf; cases hf
      | false =>
        rw [hn] at hf
        have ih := freshH_spec (l := l) hf
        refine ⟨by simp only [get, hj]; exact ih.1, fun i r h => ?_⟩
        rw [get_cons] at h
        split at h
        · obtain rfl := Option.some.inj h; exact hn
        · exact ih.2 i r h

def upd {α : Type} (f : Nat → α) (id : Nat) (x : α) (j : Nat) : α := if j = id then x else f j
theorem upd_self {α : Type} (f : Nat → α) (id : Nat) (x : α) : upd f id x id = x := by simp [upd]
theorem upd_ne {α : Type} (f : Nat → α) {id j : Nat} (x : α) (h : j ≠ id) : upd f id x j = f j := by simp [upd, h]

section
variable {P : Program} {fr : Fr} {st : St}

theorem ne_of_names {id i : Nat} {b : Bool} (h : b = false) (hi : b = true) : i ≠ id := by rw [h] at hi; cases hi

/-- Something new is owned, in blocks that were not there before. -/
theorem RepE.add {η : Nat → Value} {φ : Nat → List Nat} {a : Act} {w w' : World} (hr : RepE fr η φ st a w) (hb : Below w.heap.size w w') (id : Nat) (hf : st.fresh id = true) (r : Res) (hd : Value) (F : List Nat)
    (hF : ∀ k ∈ F, w.heap.size ≤ k ∧ k < w'.heap.size) (hres : RRes (upd η id hd) (SOf (upd φ id F) ((id, r) :: st.hp)) w' hd F r) (hpin : get fr.pin id = none := by rfl) :
    RepE fr (upd η id hd) (upd φ id F) ⟨st.tm, (id, r) :: st.hp⟩ a w' := by
  have hft : freshT id st.tm = true := by unfold St.fresh at hf; split at hf <;> simp_all
  have hfh : freshH id st.hp = true := by unfold St.fresh at hf; rw [hft] at hf; exact hf
  have hfT := freshT_spec hft
  obtain ⟨hno, hfH⟩ := freshH_spec hfh
  have hSame : Same (SOf φ st.hp) w w' := Same.of_below hb
  have hS : ∀ k, k < w.heap.size → SOf (upd φ id F) ((id, r) :: st.hp) k → SOf φ st.hp k := by
    rintro k hk ⟨i, r', hg, hm⟩
    rw [get_cons] at hg
    split at hg
    · next e => subst e; rw [upd_self] at hm; have := (hF k hm).1; omega
    · next e => rw [upd_ne _ _ (fun h => e h.symm)] at hm; exact ⟨i, r', hg, hm⟩
  have hne : ∀ i r', get st.hp i = some r' → i ≠ id := fun i r' h e => by subst e; rw [hno] at h; cases h
  refine ⟨hr.defers, hr.size, ?_, ?_, ?_, ?_, ?_, hr.keep.below hb, fun i v hi => by rw [upd_ne _ _ (fun e => by subst e; rw [hpin] at hi; cases hi)]; exact hr.pin i v hi⟩
  · intro i av hg
    obtain ⟨u, h1, h2⟩ := hr.slots i av hg
    exact ⟨u, h1, ARel.mono hSame hS av u (fun j hj => upd_ne _ _ (fun e => by subst e; rw [hfT i av hg] at hj; cases hj)) h2⟩
  · intro i r' hg
    simp only [get_cons] at hg
    split at hg
    · next e => subst e; obtain rfl := Option.some.inj hg; rw [upd_self, upd_self]; exact hres
    · next e =>
      rw [upd_ne _ _ (fun h => e h.symm), upd_ne _ _ (fun h => e h.symm)]
      exact RRes.mono hSame hS (fun k hk => hb.block k (hr.lt i r' k hg hk)) r' (fun j hj => upd_ne _ _ (fun e => by subst e; rw [hfH i r' hg] at hj; cases hj)) (hr.res i r' hg)
  · intro i j r1 r2 k h1 h2 h3 h4
    simp only [get_cons] at h1 h2
    split at h1
    · next e =>
      subst e
      rw [upd_self] at h3
      split at h2
      · next e2 => exact e2
      · next e2 =>
        rw [upd_ne _ _ (fun h => e2 h.symm)] at h4
        have := hr.lt j r2 k h2 h4
        have := (hF k h3).1
        omega
    · next e =>
      rw [upd_ne _ _ (fun h => e h.symm)] at h3
      split at h2
      · next e2 =>
        subst e2
        rw [upd_self] at h4
        have := hr.lt i r1 k h1 h3
        have := (hF k h4).1
        omega
      · next e2 =>
        rw [upd_ne _ _ (fun h => e2 h.symm)] at h4
        exact hr.disj i j r1 r2 k h1 h2 h3 h4
  · intro i r' k hg hk
    simp only [get_cons] at hg
    split at hg
    · next e => subst e; rw [upd_self] at hk; exact .inl (Nat.le_trans hr.keep.size (hF k hk).1)
    · next e => rw [upd_ne _ _ (fun h => e h.symm)] at hk; exact hr.low i r' k hg hk
  · intro i r' k hg hk
    simp only [get_cons] at hg
    split at hg
    · next e => subst e; rw [upd_self] at hk; exact (hF k hk).2
    · next e => rw [upd_ne _ _ (fun h => e h.symm)] at hk; exact Nat.lt_of_lt_of_le (hr.lt i r' k hg hk) hb.size

/-- In one operation: a value that is the handle of something new. -/
theorem RepE.addPut {η : Nat → Value} {φ : Nat → List Nat} {a : Act} {w w' : World} (hr : RepE fr η φ st a w) (hb : Below w.heap.size w w') (id : Nat) (hf : st.fresh id = true) (r : Res) (hd : Value) (F : List Nat)
    (hF : ∀ k ∈ F, w.heap.size ≤ k ∧ k < w'.heap.size) (hres : RRes (upd η id hd) (SOf (upd φ id F) ((id, r) :: st.hp)) w' hd F r) {d : Nat} (hlt : Nat.blt d fr.nt = true) (hpin : get fr.pin id = none := by rfl) :
    RepE fr (upd η id hd) (upd φ id F) ⟨(d, .h id) :: st.tm, (id, r) :: st.hp⟩ (a.put (some d) hd) w' :=
  (hr.add hb id hf r hd F hF hres hpin).put hlt (av := .h id) (by simp only [ARel]; rw [upd_self])

variable {ops : Array Oper} {rest : List Oper} {k : List It}

/-- A rule for an operation of a region without a draw. -/
theorem AO.of_run {o : Oper} {d : Nat} (hd : o.dst = some d) (hg : o.guard = none) {st' : St}
    (h : ∀ a w, Rep fr st a w → ∃ u w', (execOp a.eval o).run P w = .ok (.value u) w' ∧ Rep fr st' (a.put (some d) u) w')
    (hk : AO P fr ops rest k false st') : AO P fr ops (o :: rest) k false st := by
  intro a w hr
  obtain ⟨u, w', h1, h2⟩ := h a w hr
  simp only [wpList, wanted_none hg, if_true]
  refine .inl ?_
  unfold Oper.wp
  rw [h1]
  simp only [Oper.upon, hd]
  exact hk _ _ h2

theorem AO.of_runG {o : Oper} {d j dj : Nat} {c : Bool} (hd : o.dst = some d) (hg : o.guard = some (j, c)) (hj : (ops[j]?).bind (·.dst) = some dj)
    (hc : get st.tm dj = some (.p (.v (.bool c)))) {st' : St}
    (h : ∀ a w, Rep fr st a w → ∃ u w', (execOp a.eval o).run P w = .ok (.value u) w' ∧ Rep fr st' (a.put (some d) u) w')
    (hk : AO P fr ops rest k false st') : AO P fr ops (o :: rest) k false st := by
  intro a w hr
  obtain ⟨u, w', h1, h2⟩ := h a w hr
  obtain ⟨η, φ, hr'⟩ := hr
  have hw : Region.wanted o (yielded ops a.tmps) = true := by simp [Region.wanted, hg, yielded_of hr' hj hc]
  simp only [wpList, hw, if_true]
  refine .inl ?_
  unfold Oper.wp
  rw [h1]
  simp only [Oper.upon, hd]
  exact hk _ _ h2

/-- An operation without a result (a store). -/
theorem AO.of_run0 {o : Oper} (hd : o.dst = none) (hg : o.guard = none) {st' : St}
    (h : ∀ a w, Rep fr st a w → ∃ w', (execOp a.eval o).run P w = .ok .skip w' ∧ Rep fr st' a w')
    (hk : AO P fr ops rest k false st') : AO P fr ops (o :: rest) k false st := by
  intro a w hr
  obtain ⟨w', h1, h2⟩ := h a w hr
  simp only [wpList, wanted_none hg, if_true]
  refine .inl ?_
  unfold Oper.wp
  rw [h1]
  simp only [Oper.upon, hd, Act.put]
  exact hk _ _ h2

theorem relL_map {η : Nat → Value} {S : Nat → Prop} {w : World} : ∀ (l : List PV) (us : List Value), RelL S w l us → ARelL η S w (l.map .p) us
  | [], us, h => by simpa [RelL, ARelL] using h
  | c :: l, us, h => by
    simp only [RelL] at h
    obtain ⟨u, us', rfl, h2, h3⟩ := h
    simp only [List.map_cons, ARelL]
    exact ⟨u, us', rfl, by simpa [ARel] using h2, relL_map l us' h3⟩

theorem hd_shape {hd : Value} {F : List Nat} {η : Nat → Value} {S : Nat → Prop} {w : World} {r : Res} (h : RRes η S w hd F r) : (∃ a, hd = .pointer a) ∨ (∃ a n c, hd = .slice a n c) := by
  cases r with
  | cust C => exact C.shape h
  | box ty cs => obtain ⟨b, arr, rfl, _⟩ := h; exact .inl ⟨_, rfl⟩
  | vec ty rs rows =>
    obtain ⟨xs, _, _, h3, _⟩ := h
    rcases h3.2 with ⟨rfl, _⟩ | ⟨g, cap, cur, rfl, _⟩
    · exact .inr ⟨_, _, _, rfl⟩
    · exact .inr ⟨_, _, _, rfl⟩

/-- Values that are laid in one cell. -/
def AV.one : AV → Bool
  | .p (.v (.agg _)) => false
  | .p (.v (.tuple _)) => false
  | .p (.tup _) => false
  | .p (.agg _) => false
  | .agg _ => false
  | .tup _ => false
  | .junk => false
  | .h _ => false
  | _ => true

theorem one_spec {η : Nat → Value} {S : Nat → Prop} {w : World} {av : AV} {u : Value} (h : ARel η S w av u) (ho : av.one = true) : u.cells = #[u] ∧ u.oneCell' = true := by
  cases av with
  | p x =>
    cases x with
    | v y => simp only [ARel, Rel] at h; subst h; cases u <;> first | exact ⟨rfl, rfl⟩ | (simp [AV.one] at ho)
    | ptr cs => simp only [ARel, Rel] at h; obtain ⟨b, o, rfl, _⟩ := h; exact ⟨rfl, rfl⟩
    | sl rs rows => simp only [ARel, Rel] at h; obtain ⟨a, cap, rfl, _⟩ := h; exact ⟨rfl, rfl⟩
    | agg cs => simp [AV.one] at ho
    | tup cs => simp [AV.one] at ho
    | clo f cs => simp only [ARel, Rel] at h; obtain ⟨us, rfl, _⟩ := h; exact ⟨rfl, rfl⟩
  | h id => simp [AV.one] at ho
  | el id rs row off => simp only [ARel] at h; obtain ⟨b, _, rfl⟩ := h; exact ⟨rfl, rfl⟩
  | agg cs => simp [AV.one] at ho
  | tup cs => simp [AV.one] at ho
  | clo f cs => simp only [ARel] at h; obtain ⟨us, rfl, _⟩ := h; exact ⟨rfl, rfl⟩
  | junk => simp [AV.one] at ho

/-- The cells that a state's slot content takes. -/
def St.cellsOf (st : St) : AV → Option (List AV)
  | .agg cs => some cs
  | .p (.agg cs) => some (cs.map .p)
  | .h id => match get st.hp id with
    | some _ => some [.h id]
    | none => none
  | av => match av.one with
    | true => some [av]
    | false => none

theorem cellsOf_rel {av : AV} {cs : List AV} (hc : st.cellsOf av = some cs) {η : Nat → Value} {φ : Nat → List Nat} {a : Act} {w : World} (hr : RepE fr η φ st a w) {u : Value}
    (h : ARel η (SOf φ st.hp) w av u) : ARelL η (SOf φ st.hp) w cs u.cells.toList := by
  have one : ∀ av : AV, ARel η (SOf φ st.hp) w av u → u.cells = #[u] → ARelL η (SOf φ st.hp) w [av] u.cells.toList := fun av h e => by
    rw [e]; simp only [ARelL]; exact ⟨u, [], rfl, h, rfl⟩
  cases av with
  | p x =>
    cases x with
    | agg l =>
      simp only [St.cellsOf, Option.some.injEq] at hc; subst hc
      simp only [ARel, Rel] at h
      obtain ⟨us, rfl, h2⟩ := h
      exact relL_map l us.toList h2
    | v y =>
      simp only [St.cellsOf] at hc
      cases ho : (AV.p (.v y)).one with
      | false => rw [ho] at hc; cases hc
      | true => rw [ho] at hc; obtain rfl := Option.some.inj hc; exact one _ h (one_spec h ho).1
    | ptr l => simp only [St.cellsOf, AV.one, Option.some.injEq] at hc; subst hc; exact one _ h (one_spec h rfl).1
    | sl rs l => simp only [St.cellsOf, AV.one, Option.some.injEq] at hc; subst hc; exact one _ h (one_spec h rfl).1
    | tup l => simp [St.cellsOf, AV.one] at hc
    | clo f l => simp only [St.cellsOf, AV.one, Option.some.injEq] at hc; subst hc; exact one _ h (one_spec h rfl).1
  | h id =>
    simp only [St.cellsOf] at hc
    cases hg : get st.hp id with
    | none => rw [hg] at hc; cases hc
    | some r =>
      rw [hg] at hc
      obtain rfl := Option.some.inj hc
      refine one _ h ?_
      simp only [ARel] at h
      rcases hd_shape (hr.res id r hg) with ⟨a, e⟩ | ⟨a, n, c, e⟩ <;> rw [h, e] <;> rfl
  | el id rs row off => simp only [St.cellsOf, AV.one, Option.some.injEq] at hc; subst hc; exact one _ h (one_spec h rfl).1
  | agg l =>
    simp only [St.cellsOf, Option.some.injEq] at hc; subst hc
    simp only [ARel] at h
    obtain ⟨us, rfl, h2⟩ := h
    exact h2
  | tup l => simp [St.cellsOf, AV.one] at hc
  | clo f l => simp only [St.cellsOf, AV.one, Option.some.injEq] at hc; subst hc; exact one _ h (one_spec h rfl).1
  | junk => simp [St.cellsOf, AV.one] at hc

theorem cellsOf_names {av : AV} {cs : List AV} (hc : st.cellsOf av = some cs) (id : Nat) (hn : av.names id = false) : AV.namesL id cs = false := by
  have mp : ∀ l : List PV, AV.namesL id (l.map .p) = false := by
    intro l; induction l with
    | nil => rfl
    | cons c l ih => simp [AV.namesL, AV.names, ih]
  have one : ∀ av : AV, av.names id = false → AV.namesL id [av] = false := fun av h => by simp [AV.namesL, h]
  cases av with
  | p x =>
    cases x with
    | agg l => simp only [St.cellsOf, Option.some.injEq] at hc; subst hc; exact mp l
    | v y =>
      simp only [St.cellsOf] at hc
      cases ho : (AV.p (.v y)).one with
      | false => rw [ho] at hc; cases hc
      | true => rw [ho] at hc; obtain rfl := Option.some.inj hc; exact one _ hn
    | ptr l => simp only [St.cellsOf, AV.one, Option.some.injEq] at hc; subst hc; exact one _ hn
    | sl rs l => simp only [St.cellsOf, AV.one, Option.some.injEq] at hc; subst hc; exact one _ hn
    | tup l => simp [St.cellsOf, AV.one] at hc
    | clo f l => simp only [St.cellsOf, AV.one, Option.some.injEq] at hc; subst hc; exact one _ hn
  | h i =>
    simp only [St.cellsOf] at hc
    cases hg : get st.hp i with
    | none => rw [hg] at hc; cases hc
    | some r => rw [hg] at hc; obtain rfl := Option.some.inj hc; exact one _ hn
  | el i rs row off => simp only [St.cellsOf, AV.one, Option.some.injEq] at hc; subst hc; exact one _ hn
  | agg l => simp only [St.cellsOf, Option.some.injEq] at hc; subst hc; simpa only [AV.names] using hn
  | tup l => simp [St.cellsOf, AV.one] at hc
  | clo f l => simp only [St.cellsOf, AV.one, Option.some.injEq] at hc; subst hc; exact one _ hn
  | junk => simp [St.cellsOf, AV.one] at hc

variable {d : Nat} {t : TypeId} {pos : String} {aft : Array Edge}

/-- A new block of one's own, made by laying values. -/
theorem RepE.box {η : Nat → Value} {φ : Nat → List Nat} {a : Act} {w : World} (hr : RepE fr η φ st a w) (id : Nat) (hf : st.fresh id = true) (ty : TypeId) (cs : List AV) (arr : Array Value)
    (hcs : AV.namesL id cs = false) (hrel : ARelL η (SOf φ st.hp) w cs arr.toList) {d : Nat} (hlt : Nat.blt d fr.nt = true) (hpin : get fr.pin id = none := by rfl) :
    Rep fr ⟨(d, .h id) :: st.tm, (id, .box ty cs) :: st.hp⟩ (a.put (some d) (.pointer (some ⟨w.heap.size, 0, none⟩))) (w.alloc (.cells arr ty)) := by
  have hb : Below w.heap.size w (w.alloc (.cells arr ty)) := (Below.refl _ _).alloc (Nat.le_refl _) _
  have hft : freshT id st.tm = true := by unfold St.fresh at hf; split at hf <;> simp_all
  have hfh : freshH id st.hp = true := by unfold St.fresh at hf; rw [hft] at hf; exact hf
  refine ⟨_, _, hr.addPut hb id hf (.box ty cs) (.pointer (some ⟨w.heap.size, 0, none⟩)) [w.heap.size] (by simp) ⟨w.heap.size, arr, rfl, rfl, heap_alloc_new w _, ?_⟩ hlt hpin⟩
  refine ARelL.mono (Same.of_below hb) ?_ cs arr.toList (fun i hi => upd_ne _ _ (fun e => by subst e; rw [hcs] at hi; cases hi)) hrel
  rintro k hk ⟨i, r', hg, hm⟩
  rw [get_cons] at hg
  split at hg
  · next e => subst e; rw [upd_self] at hm; simp at hm; omega
  · next e => rw [upd_ne _ _ (fun h => e h.symm)] at hm; exact ⟨i, r', hg, hm⟩

theorem AO.box {ty : TypeId} {x : Operand} (id : Nat) {av : AV} {cs : List AV} (hx : st.ev x = some av) (hc : st.cellsOf av = some cs) (hf : st.fresh id = true) (hcs : AV.namesL id cs = false) (hlt : Nat.blt d fr.nt = true)
    (hk : AO P fr ops rest k false ⟨(d, .h id) :: st.tm, (id, .box ty cs) :: st.hp⟩) (hpin : get fr.pin id = none := by rfl) : AO P fr ops (⟨some d, .box ty x, t, pos, aft, none⟩ :: rest) k false st :=
  AO.of_run rfl rfl (fun a w ⟨η, φ, hr⟩ => ⟨_, _, by simp [execOp, Instr.box, newVar, newRow], hr.box id hf ty cs (a.eval x).cells hcs (cellsOf_rel hc hr (hr.ev hx)) hlt hpin⟩) hk

/-- The plain data of a cell of a zero value. -/
def zpv : Value → PV
  | .slice none 0 0 => .sl 0 []
  | x => .v x
theorem zpv_rel (S : Nat → Prop) (w : World) (x : Value) : Rel S w (zpv x) x := by
  unfold zpv; split
  · simp only [Rel]; exact ⟨none, 0, rfl, Nat.le_refl _, .inl trivial⟩
  · simp only [Rel]
theorem zpvs_rel (S : Nat → Prop) (w : World) : ∀ l : List Value, RelL S w (l.map zpv) l
  | [] => rfl
  | x :: l => by simp only [List.map_cons, RelL]; exact ⟨x, l, rfl, zpv_rel S w x, zpvs_rel S w l⟩

theorem namesL_map (id : Nat) : ∀ l : List PV, AV.namesL id (l.map .p) = false
  | [] => rfl
  | c :: l => by simp [AV.namesL, AV.names, namesL_map id l]

theorem AO.alloc {ty : TypeId} (id : Nat) {z : Value} {cs : List PV} (hz : ∀ w, (zeroValue ty).run P w = .ok z w) (hc : z.cells.toList.map zpv = cs) (hf : st.fresh id = true) (hlt : Nat.blt d fr.nt = true)
    (hk : AO P fr ops rest k false ⟨(d, .h id) :: st.tm, (id, .box ty (cs.map .p)) :: st.hp⟩) (hpin : get fr.pin id = none := by rfl) : AO P fr ops (⟨some d, .alloc ty, t, pos, aft, none⟩ :: rest) k false st :=
  AO.of_run rfl rfl (fun a w ⟨η, φ, hr⟩ => ⟨_, _, by simp [execOp, Instr.alloc, hz, newVar, newRow], hr.box id hf ty (cs.map .p) z.cells
    (namesL_map id cs) (relL_map cs _ (hc ▸ zpvs_rel _ _ _)) hlt hpin⟩) hk

end
end Go.V
/- The calculus' rules for stores, make, append, literals. -/
namespace Go.V
open Go Go.RowKit

/-- Some values in the place of those from 'off' on. -/
def spl {α : Type} (l : List α) (off : Nat) (vs : List α) : List α := l.take off ++ (vs ++ l.drop (off + vs.length))

theorem spl_length {α : Type} (l : List α) (off : Nat) (vs : List α) (h : off + vs.length ≤ l.length) : (spl l off vs).length = l.length := by
  simp [spl]; omega

def setR (id : Nat) (r' : Res) : List (Nat × Res) → List (Nat × Res)
  | [] => []
  | (j, r) :: l => match Nat.beq j id with
    | true => (j, r') :: l
    | false => (j, r) :: setR id r' l
theorem get_setR (id : Nat) (r' : Res) : ∀ (l : List (Nat × Res)) (r : Res), get l id = some r → ∀ j, get (setR id r' l) j = if j = id then some r' else get l j
  | [], _, h, _ => by cases h
  | (i, r0) :: l, r, h, j => by
    simp only [setR]
    rw [get_cons] at h
    by_cases hi : i = id
    · subst hi
      have : Nat.beq i i = true := by simp
      simp only [this, get_cons]
      by_cases hj : j = i
      · subst hj; simp
      · rw [if_neg (fun e => hj e.symm), if_neg hj, if_neg (fun e => hj e.symm)]
    · rw [if_neg hi] at h
      simp only [beq_false hi, get_cons]
      by_cases hj : i = j
      · subst hj; simp [hi]
      · rw [if_neg hj, if_neg hj]; exact get_setR id r' l r h j

section
variable {P : Program} {fr : Fr} {st : St}

/-- What is owned under a name turns; its handle may turn, if nothing names it. -/
theorem RepE.change {η : Nat → Value} {φ : Nat → List Nat} {a : Act} {w w' : World} (hr : RepE fr η φ st a w) (id : Nat) {r0 : Res} (hg0 : get st.hp id = some r0) (r : Res) (hd : Value) (F : List Nat)
    (hos : w'.os = w.os) (htape : w'.tape = w.tape) (hout : w'.output = w.output) (hsize : w.heap.size ≤ w'.heap.size)
    (hblk : ∀ k, k < w.heap.size → k ∉ φ id → w'.heap[k]? = w.heap[k]?)
    (hF : ∀ k ∈ F, (k ∈ φ id ∨ w.heap.size ≤ k) ∧ k < w'.heap.size)
    (hn : hd = η id ∨ (freshT id st.tm = true ∧ (∀ j r, j ≠ id → get st.hp j = some r → r.names id = false) ∧ get fr.pin id = none))
    (hres : RRes (upd η id hd) (SOf (upd φ id F) (setR id r st.hp)) w' hd F r) :
    RepE fr (upd η id hd) (upd φ id F) ⟨st.tm, setR id r st.hp⟩ a w' := by
  have hgs := get_setR id r st.hp r0 hg0
  have hSame : Same (SOf φ st.hp) w w' := ⟨hsize, fun k hk hs => hblk k hk (fun h => hs ⟨id, r0, hg0, h⟩)⟩
  have hS : ∀ k, k < w.heap.size → SOf (upd φ id F) (setR id r st.hp) k → SOf φ st.hp k := by
    rintro k hk ⟨i, r', hg, hm⟩
    rw [hgs] at hg
    by_cases e : i = id
    · subst e; rw [upd_self] at hm
      rcases (hF k hm).1 with h | h
      · exact ⟨i, r0, hg0, h⟩
      · omega
    · rw [if_neg e] at hg; rw [upd_ne _ _ e] at hm; exact ⟨i, r', hg, hm⟩
  refine ⟨hr.defers, hr.size, ?_, ?_, ?_, ?_, ?_, ?_, fun i v hi => ?_⟩
  rotate_right
  · by_cases e : i = id
    · subst e; rw [upd_self]
      rcases hn with hn | ⟨_, _, hn⟩
      · rw [hn]; exact hr.pin i v hi
      · rw [hn] at hi; cases hi
    · rw [upd_ne _ _ e]; exact hr.pin i v hi
  · intro i av hg
    obtain ⟨u, h1, h2⟩ := hr.slots i av hg
    refine ⟨u, h1, ARel.mono hSame hS av u (fun j hj => ?_) h2⟩
    by_cases e : j = id
    · subst e
      rw [upd_self]
      rcases hn with hn | ⟨hn, _⟩
      · exact hn
      · rw [freshT_spec hn i av hg] at hj; cases hj
    · exact upd_ne _ _ e
  · intro i r' hg
    simp only [hgs] at hg
    by_cases e : i = id
    · subst e
      rw [if_pos rfl] at hg
      obtain rfl := Option.some.inj hg
      rw [upd_self, upd_self]; exact hres
    · rw [if_neg e] at hg
      rw [upd_ne _ _ e, upd_ne _ _ e]
      refine RRes.mono hSame hS (fun k hk => hblk k (hr.lt i r' k hg hk) (fun h => e (hr.disj i id r' r0 k hg hg0 hk h))) r' (fun j hj => ?_) (hr.res i r' hg)
      by_cases e2 : j = id
      · subst e2
        rw [upd_self]
        rcases hn with hn | ⟨_, hn, _⟩
        · exact hn
        · rw [hn i r' e hg] at hj; cases hj
      · exact upd_ne _ _ e2
  · intro i j r1 r2 k h1 h2 h3 h4
    simp only [hgs] at h1 h2
    by_cases e : i = id
    · by_cases e2 : j = id
      · rw [e, e2]
      · exfalso
        subst e
        rw [upd_self] at h3
        rw [upd_ne _ _ e2] at h4
        rw [if_neg e2] at h2
        rcases (hF k h3).1 with h | h
        · exact e2 (hr.disj j i r2 r0 k h2 hg0 h4 h)
        · have := hr.lt j r2 k h2 h4; omega
    · rw [upd_ne _ _ e] at h3
      rw [if_neg e] at h1
      by_cases e2 : j = id
      · exfalso
        subst e2
        rw [upd_self] at h4
        rcases (hF k h4).1 with h | h
        · exact e (hr.disj i j r1 r0 k h1 hg0 h3 h)
        · have := hr.lt i r1 k h1 h3; omega
      · rw [upd_ne _ _ e2] at h4
        rw [if_neg e2] at h2
        exact hr.disj i j r1 r2 k h1 h2 h3 h4
  · intro i r' k hg hk
    simp only [hgs] at hg
    by_cases e : i = id
    · subst e
      rw [upd_self] at hk
      rcases (hF k hk).1 with h | h
      · exact hr.low i r0 k hg0 h
      · exact .inl (Nat.le_trans hr.keep.size h)
    · rw [if_neg e] at hg; rw [upd_ne _ _ e] at hk; exact hr.low i r' k hg hk
  · intro i r' k hg hk
    simp only [hgs] at hg
    by_cases e : i = id
    · subst e; rw [upd_self] at hk; exact (hF k hk).2
    · rw [if_neg e] at hg; rw [upd_ne _ _ e] at hk; exact Nat.lt_of_lt_of_le (hr.lt i r' k hg hk) hsize
  · refine ⟨hos.trans hr.keep.os, htape.trans hr.keep.tape, hout.trans hr.keep.output, Nat.le_trans hr.keep.size hsize, fun k hk hs => ?_⟩
    refine (hblk k (Nat.lt_of_lt_of_le hk hr.keep.size) (fun h => ?_)).trans (hr.keep.block k hk hs)
    rcases hr.low id r0 k hg0 h with h | h
    · omega
    · exact hs h

/-! Forgetting a name. -/
def AV.drop (id : Nat) (a : AV) : AV := match a.names id with
  | true => .junk
  | false => a
def dropT (id : Nat) : List (Nat × AV) → List (Nat × AV)
  | [] => []
  | (i, a) :: l => (i, a.drop id) :: dropT id l
def dropL (id : Nat) : List AV → List AV
  | [] => []
  | a :: l => a.drop id :: dropL id l
def dropH (id : Nat) : List (Nat × Res) → List (Nat × Res)
  | [] => []
  | (j, .box ty cs) :: l => (j, .box ty (dropL id cs)) :: dropH id l
  | (j, .vec ty rs rows) :: l => (j, .vec ty rs rows) :: dropH id l
  | (j, .cust C) :: l => (j, .cust C) :: dropH id l

theorem AV.drop_names (id : Nat) (a : AV) : (a.drop id).names id = false := by
  unfold AV.drop; split
  · rfl
  · next h => exact h
theorem freshT_drop (id : Nat) : ∀ l, freshT id (dropT id l) = true
  | [] => rfl
  | (i, a) :: l => by simp only [dropT, freshT, AV.drop_names]; exact freshT_drop id l
theorem dropL_names (id : Nat) : ∀ l, AV.namesL id (dropL id l) = false
  | [] => rfl
  | a :: l => by simp [dropL, AV.namesL, AV.drop_names, dropL_names id l]
theorem get_dropT (id : Nat) : ∀ l i, get (dropT id l) i = (get l i).map (AV.drop id)
  | [], _ => rfl
  | (j, a) :: l, i => by
    simp only [dropT, get_cons, get_dropT id l i]
    split <;> rfl
def Res.drop (id : Nat) : Res → Res
  | .box ty cs => .box ty (dropL id cs)
  | .vec ty rs rows => .vec ty rs rows
  | .cust C => .cust C
theorem get_dropH (id : Nat) : ∀ l i, get (dropH id l) i = (get l i).map (Res.drop id)
  | [], _ => rfl
  | (j, .box ty cs) :: l, i => by
    simp only [dropH, get_cons, get_dropH id l i]
    split <;> rfl
  | (j, .vec ty rs rows) :: l, i => by
    simp only [dropH, get_cons, get_dropH id l i]
    split <;> rfl
  | (j, .cust C) :: l, i => by
    simp only [dropH, get_cons, get_dropH id l i]
    split <;> rfl
theorem Res.drop_names (id : Nat) (r : Res) : (r.drop id).names id = false := by
  cases r with
  | box ty cs => exact dropL_names id cs
  | vec => rfl
  | cust => rfl

theorem aRel_drop {η : Nat → Value} {S : Nat → Prop} {w : World} (id : Nat) {a : AV} {u : Value} (h : ARel η S w a u) : ARel η S w (a.drop id) u := by
  unfold AV.drop; split
  · simp only [ARel]
  · exact h
theorem aRelL_drop {η : Nat → Value} {S : Nat → Prop} {w : World} (id : Nat) : ∀ (l : List AV) (us : List Value), ARelL η S w l us → ARelL η S w (dropL id l) us
  | [], us, h => h
  | a :: l, us, h => by
    simp only [ARelL, dropL] at h ⊢
    obtain ⟨u, us', h1, h2, h3⟩ := h
    exact ⟨u, us', h1, aRel_drop id h2, aRelL_drop id l us' h3⟩

theorem SOf_dropH (φ : Nat → List Nat) (id : Nat) (hp : List (Nat × Res)) : SOf φ (dropH id hp) = SOf φ hp := by
  funext k
  apply propext
  simp only [SOf, get_dropH]
  constructor
  · rintro ⟨i, r, h1, h2⟩
    obtain ⟨r0, h3, _⟩ := Option.map_eq_some_iff.1 h1
    exact ⟨i, r0, h3, h2⟩
  · rintro ⟨i, r, h1, h2⟩
    exact ⟨i, r.drop id, by rw [h1]; rfl, h2⟩

theorem RepE.drop {η : Nat → Value} {φ : Nat → List Nat} {a : Act} {w : World} (hr : RepE fr η φ st a w) (id : Nat) : RepE fr η φ ⟨dropT id st.tm, dropH id st.hp⟩ a w := by
  have hS := SOf_dropH φ id st.hp
  refine ⟨hr.defers, hr.size, ?_, ?_, ?_, ?_, ?_, hr.keep, hr.pin⟩
  · intro i av hg
    simp only [get_dropT] at hg
    obtain ⟨a0, h1, rfl⟩ := Option.map_eq_some_iff.1 hg
    obtain ⟨u, h2, h3⟩ := hr.slots i a0 h1
    exact ⟨u, h2, by simp only [hS]; exact aRel_drop id h3⟩
  · intro i r hg
    simp only [get_dropH] at hg
    obtain ⟨r0, h1, rfl⟩ := Option.map_eq_some_iff.1 hg
    have h := hr.res i r0 h1
    simp only [hS]
    cases r0 with
    | box ty cs =>
      obtain ⟨b, arr, h1, h2, h3, h4⟩ := h
      exact ⟨b, arr, h1, h2, h3, aRelL_drop id cs _ h4⟩
    | cust C => exact h
    | vec ty rs rows => exact h
  · intro i j r1 r2 k h1 h2 h3 h4
    simp only [get_dropH] at h1 h2
    obtain ⟨_, h1, _⟩ := Option.map_eq_some_iff.1 h1
    obtain ⟨_, h2, _⟩ := Option.map_eq_some_iff.1 h2
    exact hr.disj i j _ _ k h1 h2 h3 h4
  · intro i r k hg hk
    simp only [get_dropH] at hg
    obtain ⟨_, h1, _⟩ := Option.map_eq_some_iff.1 hg
    exact hr.low i _ k h1 hk
  · intro i r k hg hk
    simp only [get_dropH] at hg
    obtain ⟨_, h1, _⟩ := Option.map_eq_some_iff.1 hg
    exact hr.lt i _ k h1 hk

/-! Lists. -/
theorem spl_take {α : Type} (l : List α) (off : Nat) (vs : List α) (m : Nat) (h : off + vs.length ≤ m) (hm : m ≤ l.length) : (spl l off vs).take m = spl (l.take m) off vs := by
  unfold spl
  rw [List.take_append, List.length_take, Nat.min_eq_left (by omega), List.take_take, Nat.min_eq_right (by omega), List.take_take, Nat.min_eq_left (by omega)]
  congr 1
  rw [List.take_append, List.take_of_length_le (by omega), List.drop_take]
  congr 2
  omega

theorem flatten_length {α : Type} {rs : Nat} : ∀ (rows : List (List α)), (∀ r ∈ rows, r.length = rs) → rows.flatten.length = rows.length * rs
  | [], _ => by simp
  | r :: rows, h => by
    simp only [List.flatten_cons, List.length_append, List.length_cons, h r (by simp), flatten_length rows (fun r hr => h r (by simp [hr])), Nat.add_mul]
    omega

theorem flatten_set {α : Type} {rs : Nat} : ∀ (rows : List (List α)) (i : Nat) (r : List α) (off : Nat) (vs : List α), (∀ r ∈ rows, r.length = rs) → rows[i]? = some r → off + vs.length ≤ rs →
    (rows.set i (spl r off vs)).flatten = spl rows.flatten (i * rs + off) vs
  | [], _, _, _, _, _, h, _ => by simp at h
  | r0 :: rows, 0, r, off, vs, hl, h, ho => by
    simp at h; subst h
    have hr : r0.length = rs := hl r0 (by simp)
    simp only [List.set_cons_zero, List.flatten_cons, Nat.zero_mul, Nat.zero_add]
    unfold spl
    rw [List.take_append_of_le_length (by omega), List.drop_append_of_le_length (by omega)]
    simp
  | r0 :: rows, i + 1, r, off, vs, hl, h, ho => by
    have hr : r0.length = rs := hl r0 (by simp)
    simp at h
    have ih := flatten_set rows i r off vs (fun r hr => hl r (by simp [hr])) h ho
    simp only [List.set_cons_succ, List.flatten_cons, ih]
    unfold spl
    rw [show (i + 1) * rs + off = r0.length + (i * rs + off) by rw [hr, Nat.add_mul]; omega, List.take_length_add_append,
      show r0.length + (i * rs + off) + vs.length = r0.length + (i * rs + off + vs.length) by omega, List.drop_length_add_append]
    simp

theorem relL_take {S : Nat → Prop} {w : World} : ∀ (n : Nat) (l : List PV) (us : List Value), RelL S w l us → RelL S w (l.take n) (us.take n)
  | 0, l, us, _ => by simp [RelL]
  | n + 1, [], us, h => by simp only [RelL] at h; subst h; simp [RelL]
  | n + 1, c :: l, us, h => by
    simp only [RelL] at h
    obtain ⟨u, us', rfl, h2, h3⟩ := h
    simp only [List.take_succ_cons, RelL]
    exact ⟨u, _, rfl, h2, relL_take n l us' h3⟩
theorem relL_drop {S : Nat → Prop} {w : World} : ∀ (n : Nat) (l : List PV) (us : List Value), RelL S w l us → RelL S w (l.drop n) (us.drop n)
  | 0, l, us, h => by simpa using h
  | n + 1, [], us, h => by simp only [RelL] at h; subst h; simp [RelL]
  | n + 1, c :: l, us, h => by
    simp only [RelL] at h
    obtain ⟨u, us', rfl, h2, h3⟩ := h
    simp only [List.drop_succ_cons]
    exact relL_drop n l us' h3
theorem relL_append {S : Nat → Prop} {w : World} : ∀ (l l' : List PV) (us us' : List Value), RelL S w l us → RelL S w l' us' → RelL S w (l ++ l') (us ++ us')
  | [], l', us, us', h, h' => by simp only [RelL] at h; subst h; simpa using h'
  | c :: l, l', us, us', h, h' => by
    simp only [RelL] at h
    obtain ⟨u, us1, rfl, h2, h3⟩ := h
    simp only [List.cons_append, RelL]
    exact ⟨u, _, rfl, h2, relL_append l l' us1 us' h3 h'⟩
theorem relL_length {S : Nat → Prop} {w : World} : ∀ (l : List PV) (us : List Value), RelL S w l us → us.length = l.length
  | [], us, h => by simp only [RelL] at h; subst h; rfl
  | c :: l, us, h => by
    simp only [RelL] at h
    obtain ⟨u, us1, rfl, _, h3⟩ := h
    simp [relL_length l us1 h3]
theorem aRelL_length {η : Nat → Value} {S : Nat → Prop} {w : World} : ∀ (l : List AV) (us : List Value), ARelL η S w l us → us.length = l.length
  | [], us, h => by simp only [ARelL] at h; subst h; rfl
  | c :: l, us, h => by
    simp only [ARelL] at h
    obtain ⟨u, us1, rfl, _, h3⟩ := h
    simp [aRelL_length l us1 h3]
theorem aRelL_take {η : Nat → Value} {S : Nat → Prop} {w : World} : ∀ (n : Nat) (l : List AV) (us : List Value), ARelL η S w l us → ARelL η S w (l.take n) (us.take n)
  | 0, l, us, _ => by simp [ARelL]
  | n + 1, [], us, h => by simp only [ARelL] at h; subst h; simp [ARelL]
  | n + 1, c :: l, us, h => by
    simp only [ARelL] at h
    obtain ⟨u, us', rfl, h2, h3⟩ := h
    simp only [List.take_succ_cons, ARelL]
    exact ⟨u, _, rfl, h2, aRelL_take n l us' h3⟩
theorem aRelL_drop' {η : Nat → Value} {S : Nat → Prop} {w : World} : ∀ (n : Nat) (l : List AV) (us : List Value), ARelL η S w l us → ARelL η S w (l.drop n) (us.drop n)
  | 0, l, us, h => by simpa using h
  | n + 1, [], us, h => by simp only [ARelL] at h; subst h; simp [ARelL]
  | n + 1, c :: l, us, h => by
    simp only [ARelL] at h
    obtain ⟨u, us', rfl, h2, h3⟩ := h
    simp only [List.drop_succ_cons]
    exact aRelL_drop' n l us' h3
theorem aRelL_append {η : Nat → Value} {S : Nat → Prop} {w : World} : ∀ (l l' : List AV) (us us' : List Value), ARelL η S w l us → ARelL η S w l' us' → ARelL η S w (l ++ l') (us ++ us')
  | [], l', us, us', h, h' => by simp only [ARelL] at h; subst h; simpa using h'
  | c :: l, l', us, us', h, h' => by
    simp only [ARelL] at h
    obtain ⟨u, us1, rfl, h2, h3⟩ := h
    simp only [List.cons_append, ARelL]
    exact ⟨u, _, rfl, h2, aRelL_append l l' us1 us' h3 h'⟩
theorem relL_spl {S : Nat → Prop} {w : World} {l vs : List PV} {us ws : List Value} (off : Nat) (h : RelL S w l us) (h' : RelL S w vs ws) : RelL S w (spl l off vs) (spl us off ws) := by
  unfold spl
  rw [relL_length vs ws h']
  exact relL_append _ _ _ _ (relL_take off l us h) (relL_append _ _ _ _ h' (relL_drop _ l us h))
theorem aRelL_spl {η : Nat → Value} {S : Nat → Prop} {w : World} {l vs : List AV} {us ws : List Value} (off : Nat) (h : ARelL η S w l us) (h' : ARelL η S w vs ws) : ARelL η S w (spl l off vs) (spl us off ws) := by
  unfold spl
  rw [aRelL_length vs ws h']
  exact aRelL_append _ _ _ _ (aRelL_take off l us h) (aRelL_append _ _ _ _ h' (aRelL_drop' _ l us h))

/-- Each fits one cell. -/
def St.ones (st : St) : List AV → Bool
  | [] => true
  | .h id :: l => match get st.hp id with
    | some _ => st.ones l
    | none => false
  | c :: l => match c.one with
    | true => st.ones l
    | false => false

theorem ones_spec {η : Nat → Value} {φ : Nat → List Nat} {a : Act} {w : World} (hr : RepE fr η φ st a w) : ∀ (l : List AV) (us : List Value), st.ones l = true → ARelL η (SOf φ st.hp) w l us → ∀ u ∈ us, u.oneCell' = true
  | [], us, _, h, u, hu => by simp only [ARelL] at h; subst h; cases hu
  | c :: l, us, ho, h, u, hu => by
    simp only [ARelL] at h
    obtain ⟨u0, us', rfl, h2, h3⟩ := h
    have key : u0.oneCell' = true ∧ st.ones l = true := by
      cases c with
      | h id =>
        simp only [St.ones] at ho
        cases hg : get st.hp id with
        | none => rw [hg] at ho; cases ho
        | some r =>
          rw [hg] at ho
          simp only [ARel] at h2
          refine ⟨?_, ho⟩
          rcases hd_shape (hr.res id r hg) with ⟨a, e⟩ | ⟨a, n, c, e⟩ <;> rw [h2, e] <;> rfl
      | _ =>
        simp only [St.ones] at ho
        split at ho
        · next e => exact ⟨(one_spec h2 e).2, ho⟩
        · cases ho
    rcases List.mem_cons.1 hu with rfl | hu
    · exact key.1
    · exact ones_spec hr l us' key.2 h3 u hu

/-- Plain data alone. -/
def pvs : List AV → Option (List PV)
  | [] => some []
  | .p x :: l => match pvs l with
    | some r => some (x :: r)
    | none => none
  | _ :: _ => none
theorem pvs_rel {η : Nat → Value} {S : Nat → Prop} {w : World} : ∀ (l : List AV) (xs : List PV) (us : List Value), pvs l = some xs → ARelL η S w l us → RelL S w xs us
  | [], xs, us, h, hr => by simp only [pvs, Option.some.injEq] at h; subst h; simpa [ARelL, RelL] using hr
  | .p x :: l, xs, us, h, hr => by
    simp only [pvs] at h
    cases hl : pvs l with
    | none => rw [hl] at h; cases h
    | some r =>
      rw [hl] at h
      simp only [Option.some.injEq] at h; subst h
      simp only [ARelL, ARel] at hr
      obtain ⟨u, us', rfl, h2, h3⟩ := hr
      simp only [RelL]
      exact ⟨u, us', rfl, h2, pvs_rel l r us' hl h3⟩
theorem pvs_length : ∀ (l : List AV) (xs : List PV), pvs l = some xs → xs.length = l.length
  | [], xs, h => by simp only [pvs, Option.some.injEq] at h; subst h; rfl
  | .p x :: l, xs, h => by
    simp only [pvs] at h
    cases hl : pvs l with
    | none => rw [hl] at h; cases h
    | some r => rw [hl] at h; simp only [Option.some.injEq] at h; subst h; simp [pvs_length l r hl]
  | .h _ :: _, _, h => by cases h
  | .el .. :: _, _, h => by cases h
  | .agg _ :: _, _, h => by cases h
  | .tup _ :: _, _, h => by cases h
  | .clo .. :: _, _, h => by cases h
  | .junk :: _, _, h => by cases h

/-- A store: which name, and what is owned under it then. -/
def St.store (st : St) (vs : List AV) : AV → Option (Nat × Res)
  | .h id => match get st.hp id with
    | some (.box ty cs) => match Nat.ble vs.length cs.length with
      | true => some (id, .box ty (spl cs 0 vs))
      | false => none
    | _ => none
  | .el id rs row off => match get st.hp id with
    | some (.box ty cs) => match row with
      | 0 => match Nat.ble (off + vs.length) cs.length with
        | true => some (id, .box ty (spl cs off vs))
        | false => none
      | _ + 1 => none
    | some (.vec ty rs' rows) => match Nat.beq rs' rs with
      | true => match rows[row]? with
        | some r => match pvs vs with
          | some xs => match Nat.ble (off + vs.length) rs' with
            | true => some (id, .vec ty rs' (rows.set row (spl r off xs)))
            | false => none
          | none => none
        | none => none
      | false => none
    | _ => none
  | _ => none

theorem upd_same {α : Type} (f : Nat → α) (id : Nat) : upd f id (f id) = f := by
  funext j; unfold upd; split
  · next e => rw [e]
  · rfl

theorem SOf_setR (φ : Nat → List Nat) (id : Nat) (r r0 : Res) (hp : List (Nat × Res)) (hg : get hp id = some r0) : SOf φ (setR id r hp) = SOf φ hp := by
  funext k
  apply propext
  simp only [SOf, get_setR id r hp r0 hg]
  constructor
  · rintro ⟨i, r1, h1, h2⟩
    split at h1
    · next e => subst e; exact ⟨i, r0, hg, h2⟩
    · exact ⟨i, r1, h1, h2⟩
  · rintro ⟨i, r1, h1, h2⟩
    by_cases e : i = id
    · exact ⟨i, r, by rw [if_pos e], h2⟩
    · exact ⟨i, r1, by rw [if_neg e]; exact h1, h2⟩

theorem run_storeVar {ty : TypeId} {n : Nat} (hsz : ∀ w, (sizeOf ty).run P w = .ok n w) (w : World) (b o : Nat) (e : TypeId) (cur : Array Value) (v : Value) (hg : w.heap[b]? = some (.cells cur e (0, 0)))
    (hn : v.cells.size = n) (hl : o + n ≤ cur.size) (h1 : ∀ u ∈ v.cells.toList, u.oneCell' = true) :
    (storeVar ty ⟨b, o, none⟩ v).run P w = .ok () (w.setRow b (spl cur.toList o v.cells.toList).toArray) := by
  have := run_storeCells_at P b o e v.cells.toList 0 cur w hg (by simpa [hn] using hl) h1
  simp only [storeVar, Sem.run_bind, hsz, Result.andThen_ok, hn]
  simp only [Nat.add_zero, List.append_assoc] at this
  simpa [spl] using this

theorem RepE.store {η : Nat → Value} {φ : Nat → List Nat} {a : Act} {w : World} (hr : RepE fr η φ st a w) {av : AV} {vs : List AV} {id : Nat} {r' : Res} (hs : st.store vs av = some (id, r')) {u v : Value}
    (h : ARel η (SOf φ st.hp) w av u) (hv : ARelL η (SOf φ st.hp) w vs v.cells.toList) {ty : TypeId} {n : Nat} (hsz : ∀ w, (sizeOf ty).run P w = .ok n w) (hn : vs.length = n) (ho : st.ones vs = true) :
    ∃ w', (Instr.storeAt ty u v).run P w = .ok () w' ∧ RepE fr η φ ⟨st.tm, setR id r' st.hp⟩ a w' := by
  have hvn : v.cells.size = n := by have := aRelL_length vs _ hv; simpa [hn] using this
  have h1 := ones_spec hr vs _ ho hv
  -- a block of one's own
  have main : ∀ (b o : Nat) (e : TypeId) (cur : Array Value) (r0 : Res), get st.hp id = some r0 → φ id = [b] → w.heap[b]? = some (.cells cur e (0, 0)) → u = .pointer (some ⟨b, o, none⟩) → o + n ≤ cur.size →
      (∀ w', Same (SOf φ st.hp) w w' → w'.heap[b]? = some (.cells (spl cur.toList o v.cells.toList).toArray e (0, 0)) → RRes η (SOf φ st.hp) w' (η id) [b] r') →
      ∃ w', (Instr.storeAt ty u v).run P w = .ok () w' ∧ RepE fr η φ ⟨st.tm, setR id r' st.hp⟩ a w' := by
    intro b o e cur r0 hg hφ hb hu hl hres
    subst hu
    refine ⟨w.setRow b (spl cur.toList o v.cells.toList).toArray, ?_, ?_⟩
    · simp [Instr.storeAt, Instr.sureAddr, run_storeVar hsz w b o e cur v hb hvn hl h1]
    · have hblk : ∀ k, k < w.heap.size → k ∉ φ id → (w.setRow b (spl cur.toList o v.cells.toList).toArray).heap[k]? = w.heap[k]? := fun k _ hk =>
        setRow_other w b k _ (fun e => hk (by rw [hφ]; simp [e]))
      have := hr.change id hg r' (η id) (φ id) (setRow_os _ _ _) (setRow_tape _ _ _) (setRow_output _ _ _) (by simp) hblk
        (fun k hk => ⟨.inl hk, by simpa using hr.lt id r0 k hg hk⟩) (.inl rfl) (by
          rw [upd_same, upd_same, SOf_setR φ id r' r0 st.hp hg, hφ]
          exact hres _ ⟨by simp, fun k hk hs => hblk k hk (fun h => hs ⟨id, r0, hg, h⟩)⟩ (setRow_heap w b cur _ e (0, 0) hb))
      rwa [upd_same, upd_same] at this
  have box : ∀ (b o : Nat) (e : TypeId) (cs : List AV), get st.hp id = some (.box e cs) → r' = .box e (spl cs o vs) → o + vs.length ≤ cs.length → blk (η id) = some b → u = .pointer (some ⟨b, o, none⟩) →
      ∃ w', (Instr.storeAt ty u v).run P w = .ok () w' ∧ RepE fr η φ ⟨st.tm, setR id r' st.hp⟩ a w' := by
    intro b o e cs hg hr' hl hbk hu
    obtain ⟨b', arr, e1, e2, e3, e4⟩ := hr.res id _ hg
    rw [e1] at hbk
    simp only [blk, Option.some.injEq] at hbk; subst hbk
    have hal : arr.size = cs.length := by have := aRelL_length cs _ e4; simpa using this
    refine main b' o e arr _ hg e2 e3 hu (by omega) (fun w' hS hb' => ?_)
    subst hr'
    refine ⟨b', _, e1, rfl, hb', ?_⟩
    simp only
    exact ARelL.mono hS (fun _ _ h => h) _ _ (fun _ _ => rfl) (aRelL_spl o e4 hv)
  cases av with
  | h id' =>
    simp only [St.store] at hs
    cases hg : get st.hp id' with
    | none => rw [hg] at hs; cases hs
    | some r0 =>
      rw [hg] at hs
      cases r0 with
      | cust => cases hs
      | vec => cases hs
      | box e cs =>
        simp only at hs
        cases hb : Nat.ble vs.length cs.length with
        | false => rw [hb] at hs; cases hs
        | true =>
          rw [hb] at hs
          simp only [Option.some.injEq, Prod.mk.injEq] at hs
          obtain ⟨rfl, rfl⟩ := hs
          obtain ⟨b', arr, e1, _⟩ := hr.res id' _ hg
          simp only [ARel] at h
          exact box b' 0 e cs hg rfl (by have := Nat.le_of_ble_eq_true hb; omega) (by rw [e1]; rfl) (h.trans e1)
  | el id' rs row off =>
    simp only [St.store] at hs
    simp only [ARel] at h
    obtain ⟨b, hbk, hu⟩ := h
    cases hg : get st.hp id' with
    | none => rw [hg] at hs; cases hs
    | some r0 =>
      rw [hg] at hs
      cases r0 with
      | box e cs =>
        cases row with
        | succ m => cases hs
        | zero =>
          simp only at hs
          cases hb : Nat.ble (off + vs.length) cs.length with
          | false => rw [hb] at hs; cases hs
          | true =>
            rw [hb] at hs
            simp only [Option.some.injEq, Prod.mk.injEq] at hs
            obtain ⟨rfl, rfl⟩ := hs
            exact box b off e cs hg rfl (Nat.le_of_ble_eq_true hb) hbk (by simpa using hu)
      | cust => cases hs
      | vec e rs' rows =>
        simp only at hs
        cases hbe : Nat.beq rs' rs with
        | false => rw [hbe] at hs; cases hs
        | true =>
          rw [hbe] at hs
          obtain rfl := Nat.eq_of_beq_eq_true hbe
          cases hrow : rows[row]? with
          | none => simp only [hrow] at hs; cases hs
          | some r =>
            simp only [hrow] at hs
            cases hp : pvs vs with
            | none => rw [hp] at hs; cases hs
            | some xs =>
              rw [hp] at hs
              simp only at hs
              cases hb : Nat.ble (off + vs.length) rs' with
              | false => rw [hb] at hs; cases hs
              | true =>
                rw [hb] at hs
                simp only [Option.some.injEq, Prod.mk.injEq] at hs
                obtain ⟨rfl, rfl⟩ := hs
                have hle := Nat.le_of_ble_eq_true hb
                have hrl := hr.res id' _ hg
                obtain ⟨ys, f1, f2, f3, f4⟩ := hrl
                have hlen : row < rows.length := (List.getElem?_eq_some_iff.1 hrow).1
                rcases f3.2 with ⟨e0, hn0⟩ | ⟨gb, cap, cur, e0, _, hgb, hnc, hcm, hcs, htk⟩
                · omega
                · have hgb' : gb = b := by rw [e0] at hbk; simpa [blk] using hbk
                  subst hgb'
                  have hφ : φ id' = [gb] := by rw [f4, e0]; rfl
                  have hrows : (row + 1) * rs' ≤ rows.length * rs' := Nat.mul_le_mul_right _ hlen
                  have hcap : rows.length * rs' ≤ cap * rs' := Nat.mul_le_mul_right _ hnc
                  have hin : row * rs' + off + vs.length ≤ rows.length * rs' := by rw [Nat.add_mul] at hrows; omega
                  refine main gb (row * rs' + off) e cur _ hg hφ hgb hu (by omega) (fun w' hS hb' => ?_)
                  have hxl : xs.length = vs.length := pvs_length vs xs hp
                  refine ⟨spl ys (row * rs' + off) v.cells.toList, ?_, ?_, ⟨?_, .inr ⟨gb, cap, _, ?_, Nat.zero_le _, hb', ?_, hcm, ?_, ?_⟩⟩, ?_⟩
                  · rw [flatten_set rows row r off xs f2 hrow (by omega)]
                    exact relL_spl _ (RelL.mono hS (fun _ _ h => h) _ _ f1) (RelL.mono hS (fun _ _ h => h) _ _ (pvs_rel vs xs _ hp hv))
                  · intro q hq
                    rcases List.mem_or_eq_of_mem_set hq with hq | rfl
                    · exact f2 q hq
                    · have hrr := f2 r (List.mem_of_getElem? hrow)
                      rw [spl_length _ _ _ (by omega)]; exact hrr
                  · have := f3.1
                    simp only [List.length_set]
                    rw [spl_length _ _ _ (by simp [hvn]; omega)]; exact this
                  · simpa using e0
                  · simpa using hnc
                  · have : (spl cur.toList (row * rs' + off) v.cells.toList).length = cur.toList.length := spl_length _ _ _ (by simp [hvn]; omega)
                    simpa [hcs] using this
                  · simp only [List.length_set]
                    rw [spl_take _ _ _ _ (by simp [hvn]; omega) (by simp [hcs]; omega), htk]
                  · rw [e0]; rfl
  | _ => cases hs

end
end Go.V
/- The calculus' rules: stores, make, append, literals, slices (as operations). -/
namespace Go.V
open Go Go.RowKit

section
variable {P : Program} {fr : Fr} {st : St} {ops : Array Oper} {rest : List Oper} {k : List It}
variable {d : Nat} {t : TypeId} {pos : String} {aft : Array Edge}

theorem AO.store {ty : TypeId} {x y : Operand} {av vv : AV} {vs : List AV} {n id : Nat} {r' : Res} (hsz : ∀ w, (sizeOf ty).run P w = .ok n w) (hx : st.ev x = some av) (hy : st.ev y = some vv)
    (hc : st.cellsOf vv = some vs) (hn : Nat.beq vs.length n = true) (ho : st.ones vs = true) (hs : st.store vs av = some (id, r'))
    (hk : AO P fr ops rest k false ⟨st.tm, setR id r' st.hp⟩) : AO P fr ops (⟨none, .store ty x y, t, pos, aft, none⟩ :: rest) k false st :=
  AO.of_run0 rfl rfl (fun a w ⟨η, φ, hr⟩ => by
    obtain ⟨w', h1, h2⟩ := hr.store hs (hr.ev hx) (cellsOf_rel hc hr (hr.ev hy)) hsz (Nat.eq_of_beq_eq_true hn) ho
    exact ⟨w', by simp [execOp, h1], η, φ, h2⟩) hk

/-- A type's zero, its cells and its bytes, all together. -/
def TyIs (P : Program) (e : TypeId) (z : Value) (size bytes : Nat) : Prop := (P.info? e).map (fun i => (i.zero, i.size, i.bytes)) = some (some z, size, bytes)

theorem mod_list {z : Array Value} (hz : 0 < z.size) : ∀ n, (madeCells z (n * z.size)).toList = (List.replicate n z.toList).flatten := by
  intro n
  apply List.ext_getElem?
  intro i
  have hl : ∀ r ∈ List.replicate n z.toList, r.length = z.size := fun r hr => by rw [List.eq_of_mem_replicate hr]; simp
  have hflat : ∀ (n i : Nat), i < n * z.size → (List.replicate n z.toList).flatten[i]? = z.toList[i % z.size]? := by
    intro n
    induction n with
    | zero => intro i hi; simp at hi
    | succ n ih =>
      intro i hi
      rw [List.replicate_succ, List.flatten_cons]
      by_cases h : i < z.size
      · rw [List.getElem?_append_left (by simpa using h), Nat.mod_eq_of_lt h]
      · rw [List.getElem?_append_right (by simpa using h)]
        simp only [Array.length_toList]
        rw [ih (i - z.size) (by rw [Nat.add_mul] at hi; omega)]
        congr 1
        rw [Nat.mod_eq_sub_mod (by omega : i ≥ z.size)]
  by_cases h : i < n * z.size
  · rw [hflat n i h]
    have hm : i % z.size < z.size := Nat.mod_lt _ hz
    simp [madeCells, h, hm]
  · rw [List.getElem?_eq_none (by simpa [madeCells] using h), List.getElem?_eq_none (by rw [flatten_length _ hl]; simpa using h)]

theorem relL_replicate {S : Nat → Prop} {w : World} {l : List PV} {us : List Value} (h : RelL S w l us) : ∀ n, RelL S w (List.replicate n l).flatten (List.replicate n us).flatten
  | 0 => by simp [RelL]
  | n + 1 => by
    rw [List.replicate_succ, List.replicate_succ, List.flatten_cons, List.flatten_cons]
    exact relL_append _ _ _ _ h (relL_replicate h n)

theorem take_flatten_replicate {α : Type} (z : List α) : ∀ (l c : Nat), l ≤ c → (List.replicate c z).flatten.take (l * z.length) = (List.replicate l z).flatten
  | 0, c, _ => by simp
  | l + 1, 0, h => by omega
  | l + 1, c + 1, h => by
    rw [List.replicate_succ, List.replicate_succ, List.flatten_cons, List.flatten_cons, Nat.add_mul, Nat.one_mul, Nat.add_comm, List.take_length_add_append, take_flatten_replicate z l c (by omega)]

theorem AO.make {ty e : TypeId} {l c : Operand} {n m : Nat} {kl kc : IntKind} (id : Nat) {z : Value} {rs bytes : Nat} {row : List PV} (hs : P.underlying ty = some (.slice e)) (hi : TyIs P e z rs bytes) (hz : z.cells.toList.map zpv = row)
    (hrow : Nat.beq row.length rs = true) (hrs : Nat.blt 0 rs = true) (hl : st.ev l = some (.p (.v (.int kl n)))) (hc : st.ev c = some (.p (.v (.int kc m)))) (hle : n ≤ m) (hb : bytes * m ≤ 281474976710656) (hm : m ≤ 4611686018427387904)
    (hf : st.fresh id = true) (hlt : Nat.blt d fr.nt = true)
    (hk : AO P fr ops rest k false ⟨(d, .h id) :: st.tm, (id, .vec e rs (List.replicate n row)) :: st.hp⟩) (hpin : get fr.pin id = none := by rfl) : AO P fr ops (⟨some d, .makeSlice ty l c, t, pos, aft, none⟩ :: rest) k false st :=
  AO.of_run rfl rfl (fun a w ⟨η, φ, hr⟩ => by
    obtain ⟨i, h1, h2, h3, h4⟩ := info_parts hi
    have e1 := hr.ev hl
    have e2 := hr.ev hc
    simp only [ARel, Rel] at e1 e2
    have hbI : (i.bytes : Int) * (m : Int) ≤ 281474976710656 := by
      rw [h4]
      have : ((bytes * m : Nat) : Int) ≤ 281474976710656 := by omega
      rwa [Int.natCast_mul] at this
    have hrun := run_make (P := P) w ty e i z hs h1 h2 kl kc n m (by omega) (by omega) hbI (by omega)
    simp only [Int.toNat_natCast] at hrun
    have hzs : z.cells.size = rs := by
      have := congrArg List.length hz
      simp only [List.length_map, Array.length_toList] at this
      rw [this]; exact Nat.eq_of_beq_eq_true hrow
    have hrs0 : 0 < rs := Nat.le_of_ble_eq_true hrs
    refine ⟨_, _, by simp only [execOp, e1, e2, Sem.run_bind, hrun]; rfl, _, _, hr.addPut ((Below.refl _ _).alloc (Nat.le_refl _) _) id hf (.vec e rs (List.replicate n row)) _ [w.heap.size] (by simp)
      ⟨(List.replicate n z.cells.toList).flatten, ?_, ?_, ⟨?_, .inr ⟨w.heap.size, m, _, ?_, Nat.zero_le _, heap_alloc_new w _, ?_, ?_, ?_, ?_⟩⟩, ?_⟩ hlt hpin⟩
    · exact relL_replicate (hz ▸ zpvs_rel _ _ _) n
    · intro r hr'; rw [List.eq_of_mem_replicate hr']; exact Nat.eq_of_beq_eq_true hrow
    · rw [flatten_length (rs := rs) _ (fun r hr' => by rw [List.eq_of_mem_replicate hr']; simpa using hzs)]; simp
    · simp
    · simpa using hle
    · simp only [maxLen]; omega
    · rw [h3]; simp [size_madeCells]
    · rw [h3]
      simp only [List.length_replicate]
      rw [← hzs, mod_list (by rw [hzs]; exact hrs0), show z.cells.size = z.cells.toList.length by simp, take_flatten_replicate _ _ _ hle]
    · rfl) hk

/-- What is appended: rows that are read. -/
def St.rowsOf (st : St) : AV → Option (Nat × List (List PV))
  | .p (.sl rs rows) => some (rs, rows)
  | .h id => match get st.hp id with
    | some (.vec _ rs rows) => some (rs, rows)
    | _ => none
  | _ => none

theorem relRows_list {S : Nat → Prop} {w : World} {b rs : Nat} : ∀ (o : Nat) (rows : List (List PV)), RelRows S w b rs o rows →
    (∀ r ∈ rows, r.length = rs) ∧ ∃ us : List Value, us.length = rows.length * rs ∧ (∀ j u, us[j]? = some u → w.cell? ⟨b, o + j, none⟩ = some u) ∧ RelL S w rows.flatten us
  | _, [], _ => ⟨by simp, [], by simp, by simp, by simp [RelL]⟩
  | o, r :: rows, h => by
    simp only [RelRows] at h
    obtain ⟨h1, h2, h3⟩ := h
    obtain ⟨g1, us, g2, g3, g4⟩ := relRows_list (o + rs) rows h3
    have hone : ∀ (o : Nat) (cs : List PV), RelAt S w b o cs → ∃ us : List Value, us.length = cs.length ∧ (∀ j u, us[j]? = some u → w.cell? ⟨b, o + j, none⟩ = some u) ∧ RelL S w cs us := by
      intro o cs
      induction cs generalizing o with
      | nil => intro _; exact ⟨[], rfl, by simp, by simp [RelL]⟩
      | cons c cs ih =>
        intro h
        simp only [RelAt] at h
        obtain ⟨⟨u, f1, f2⟩, f3⟩ := h
        obtain ⟨us, e, f4, f5⟩ := ih (o + 1) f3
        refine ⟨u :: us, by simp [e], fun j v hj => ?_, by simp only [RelL]; exact ⟨u, us, rfl, f2, f5⟩⟩
        cases j with
        | zero => simp at hj; subst hj; simpa using f1
        | succ j => simp at hj; have := f4 j v hj; rwa [show o + (j + 1) = o + 1 + j by omega]
    obtain ⟨vs, f1, f2, f3⟩ := hone o r h2
    refine ⟨?_, vs ++ us, by simp [f1, g2, h1, Nat.add_mul]; omega, fun j u hj => ?_, ?_⟩
    · intro q hq
      rcases List.mem_cons.1 hq with rfl | hq
      · exact h1
      · exact g1 q hq
    · by_cases hlt : j < vs.length
      · rw [List.getElem?_append_left hlt] at hj; exact f2 j u hj
      · rw [List.getElem?_append_right (by omega)] at hj
        have := g3 _ u hj
        rwa [show o + rs + (j - vs.length) = o + j by omega] at this
    · rw [List.flatten_cons]; exact relL_append _ _ _ _ f3 g4

theorem rowsOf_rel {av : AV} {rs : Nat} {rows : List (List PV)} (hb : st.rowsOf av = some (rs, rows)) {η : Nat → Value} {φ : Nat → List Nat} {a : Act} {w : World} (hr : RepE fr η φ st a w) {u : Value}
    (h : ARel η (SOf φ st.hp) w av u) : (∀ r ∈ rows, r.length = rs) ∧ ∃ x cap us, u = .slice x rows.length cap ∧ us.length = rows.length * rs ∧ RelL (SOf φ st.hp) w rows.flatten us ∧
      (rows = [] ∨ ∃ b o, x = some ⟨b, o, none⟩ ∧ b < w.heap.size ∧ ∀ j u, us[j]? = some u → w.cell? ⟨b, o + j, none⟩ = some u) := by
  cases av with
  | p x =>
    cases x with
    | sl rs' rows' =>
      simp only [St.rowsOf, Option.some.injEq, Prod.mk.injEq] at hb
      obtain ⟨rfl, rfl⟩ := hb
      simp only [ARel, Rel] at h
      obtain ⟨a, cap, h1, h2, h3⟩ := h
      rcases h3 with h3 | ⟨b, o, e1, e2, e3, e4⟩
      · subst h3; exact ⟨by simp, a, cap, [], h1, by simp, by simp [RelL], .inl rfl⟩
      · obtain ⟨g1, us, g2, g3, g4⟩ := relRows_list o rows' e4
        exact ⟨g1, a, cap, us, h1, g2, g4, .inr ⟨b, o, e1, e3, g3⟩⟩
    | _ => cases hb
  | h id =>
    simp only [St.rowsOf] at hb
    cases hg : get st.hp id with
    | none => rw [hg] at hb; cases hb
    | some r =>
      rw [hg] at hb
      cases r with
      | cust C => cases hb
      | box ty cs' => cases hb
      | vec ty rs' rows' =>
        simp only [Option.some.injEq, Prod.mk.injEq] at hb
        obtain ⟨rfl, rfl⟩ := hb
        obtain ⟨xs, h1, h2, h3, h4⟩ := hr.res id _ hg
        simp only [ARel] at h
        rcases h3.2 with ⟨e, hn⟩ | ⟨g', cap, cur, e, _, hgb, _⟩
        · have : rows' = [] := List.eq_nil_of_length_eq_zero hn
          subst this
          exact ⟨h2, none, 0, xs, by rw [h, e]; rfl, h3.1, h1, .inl rfl⟩
        · refine ⟨h2, _, cap, xs, by rw [h, e], h3.1, h1, .inr ⟨g', 0, rfl, ?_, fun j u hj => ?_⟩⟩
          · exact (Array.getElem?_eq_some_iff.1 hgb).1
          · have := h3.cells (by rw [e]; rfl : (η id).ownBlock = some g') j u hj
            rwa [add_plain] at this
  | _ => cases hb

/-- Each of some plain data fits one cell. -/
def pvOne : PV → Bool
  | .v (.agg _) => false
  | .v (.tuple _) => false
  | .agg _ => false
  | .tup _ => false
  | _ => true

theorem pvOne_spec {S : Nat → Prop} {w : World} {x : PV} {u : Value} (h : Rel S w x u) (hx : pvOne x = true) : u.oneCell' = true := by
  cases x with
  | v y => simp only [Rel] at h; subst h; cases u <;> first | rfl | (simp [pvOne] at hx)
  | ptr cs => simp only [Rel] at h; obtain ⟨b, o, rfl, _⟩ := h; rfl
  | sl rs rows => simp only [Rel] at h; obtain ⟨a, cap, rfl, _⟩ := h; rfl
  | agg cs => simp [pvOne] at hx
  | tup cs => simp [pvOne] at hx
  | clo f cs => simp only [Rel] at h; obtain ⟨us, rfl, _⟩ := h; rfl

theorem pvOnes_spec {S : Nat → Prop} {w : World} : ∀ (l : List PV) (us : List Value), RelL S w l us → (∀ x ∈ l, pvOne x = true) → ∀ u ∈ us, u.oneCell' = true
  | [], us, h, _, u, hu => by simp only [RelL] at h; subst h; cases hu
  | c :: l, us, h, ho, u, hu => by
    simp only [RelL] at h
    obtain ⟨u0, us', rfl, h2, h3⟩ := h
    rcases List.mem_cons.1 hu with rfl | hu
    · exact pvOne_spec h2 (ho c (by simp))
    · exact pvOnes_spec l us' h3 (fun x hx => ho x (by simp [hx])) u hu

theorem nextcap_bound (need old : Nat) (h : old < need) : Builtin.nextslicecap need old ≤ 2 * need + 1000 := by
  unfold Builtin.nextslicecap
  split
  · omega
  · split
    · omega
    · have key : ∀ (r c : Nat), c ≤ 2 * need + 1000 → c < need ∨ c ≤ 2 * need + 1000 → Builtin.growBy need r c ≤ 2 * need + 1000 := by
        intro r
        induction r with
        | zero => intro c h1 _; exact h1
        | succ r ih =>
          intro c h1 _
          unfold Builtin.growBy
          split
          · exact h1
          · exact ih _ (by omega) (.inr (by omega))
      exact key 4 old (by omega) (.inl h)

/-- append, on what one owns: in place or anew. -/
theorem run_append {ty e tr : TypeId} {z : Value} {rs bytes : Nat} (hs : P.underlying ty = some (.slice e)) (hi : TyIs P e z rs bytes) (hzs : z.cells.size = rs) (_hrs : 0 < rs)
    {w : World} {v : Value} {n : Nat} {xs : List Value} (hown : w.ownsRow 0 e rs v n xs) {a : Option Addr} {m c : Nat} {news : List Value} (hl : news.length = m * rs)
    (hnews : m = 0 ∨ ∃ b o, a = some ⟨b, o, none⟩ ∧ ∀ j u, news[j]? = some u → w.cell? ⟨b, o + j, none⟩ = some u) (h1 : ∀ u ∈ news, u.oneCell' = true) (hbytes : (2 * (n + m) + 1000) * bytes ≤ 281474976710656) (hnm : n + m ≤ 4611686018427387904) :
    ∃ v' w', (Builtin.append_ #[ty, ty] tr #[v, .slice a m c]).run P w = .ok v' w' ∧ w'.ownsRow 0 e rs v' (n + m) (xs ++ news) ∧ w'.os = w.os ∧ w'.tape = w.tape ∧ w'.output = w.output ∧ w.heap.size ≤ w'.heap.size ∧
      (∀ k, k < w.heap.size → k ∉ v.ownBlock.toList → w'.heap[k]? = w.heap[k]?) ∧ (∀ k ∈ v'.ownBlock.toList, (k ∈ v.ownBlock.toList ∨ w.heap.size ≤ k) ∧ k < w'.heap.size) := by
  obtain ⟨i, e1, e2, e3, e4⟩ := info_parts hi
  have hm' : n + m ≤ maxLen := by simp only [maxLen]; omega
  rcases Nat.eq_zero_or_pos m with hm0 | hmp
  · subst hm0
    have hn0 : news = [] := List.eq_nil_of_length_eq_zero (by simpa using hl)
    subst hn0
    rcases hown.2 with ⟨rfl, rfl⟩ | ⟨g, cap, cur, rfl, _, hg, hnc, hcm, hcs, htake⟩
    · refine ⟨.slice none 0 0, w, ?_, by simpa using hown, rfl, rfl, rfl, Nat.le_refl _, fun _ _ _ => rfl, by simp [Value.ownBlock]⟩
      cases a <;> simp [Builtin.append_, run_underlying hs, sizeOf, typeInfo, e1, Builtin.lenOf, Builtin.firstCells, loadCells, loadCellsFrom]
    · refine ⟨.slice (some ⟨g, 0, none⟩) n cap, w, ?_, by simpa using hown, rfl, rfl, rfl, Nat.le_refl _, fun _ _ _ => rfl, fun k hk => ⟨.inl hk, ?_⟩⟩
      · cases a <;> simp [Builtin.append_, run_underlying hs, sizeOf, typeInfo, e1, Builtin.lenOf, Builtin.firstCells, loadCells, loadCellsFrom, hnc, storeCells]
      · simp [Value.ownBlock] at hk; subst hk; exact (Array.getElem?_eq_some_iff.1 hg).1
  · rcases hnews with hnews | ⟨b, o, rfl, hnews⟩
    · omega
    have hnews' : ∀ j u, news[j]? = some u → w.cell? ((⟨b, o, none⟩ : Addr).add j) = some u := fun j u hj => by rw [add_plain]; exact hnews j u hj
    have hfresh : ∀ (old : Nat), old < n + m → ∃ cap', (n + m ≤ cap' ∧ cap' ≤ maxLen) ∧ cap' = grownCap w (n + m) old e := fun old _ =>
      ⟨_, ⟨grownCap_ge w (n + m) old e, grownCap_le_maxLen w (n + m) old e hm'⟩, rfl⟩
    have hxl : xs.length = n * rs := hown.1
    have anew : ∀ (cap' : Nat), n + m ≤ cap' → cap' ≤ maxLen →
        (w.drew.alloc (.cells (xs.toArray ++ news.toArray ++ Builtin.zeroCells z.cells (cap' - (n + m))) e)).ownsRow 0 e rs (.slice (some ⟨w.heap.size, 0, none⟩) (n + m) cap') (n + m) (xs ++ news) := by
      intro cap' h1 h2
      refine ⟨by rw [List.length_append, hxl, hl, Nat.add_mul], .inr ⟨w.heap.size, cap', _, rfl, Nat.zero_le _, heap_alloc_new w.drew _, h1, h2, ?_, ?_⟩⟩
      · simp only [Array.size_append, List.size_toArray, size_zeroCells, hzs, hxl, hl, ← Nat.add_mul]
        congr 1; omega
      · simp only [Array.toList_append, List.append_assoc]
        rw [← List.append_assoc, show (n + m) * rs = (xs ++ news).length by rw [List.length_append, hxl, hl, Nat.add_mul]]
        exact List.take_left
    rcases hown.2 with ⟨rfl, rfl⟩ | ⟨g, cap, cur, rfl, _, hg, hnc, hcm, hcs, htake⟩
    · have hx : xs = [] := List.eq_nil_of_length_eq_zero (by simpa using hxl)
      subst hx
      have hr := run_append_nil (P := P) w ty tr e i z hs e1 e2 ⟨b, o, none⟩ m c news (by rw [hl, e3]) hnews' hmp (by omega) (by rw [e4]; have : m * bytes ≤ (2 * (0 + m) + 1000) * bytes := Nat.mul_le_mul_right _ (by omega); omega)
      obtain ⟨cap', ⟨c1, c2⟩, c3⟩ := hfresh 0 (by omega)
      have ha := anew cap' c1 c2
      simp only [Nat.zero_add] at c3 ha
      rw [← c3] at hr
      refine ⟨_, _, hr, ?_, rfl, rfl, rfl, by simp, fun k hk _ => Go.heap_alloc_old w.drew _ (by exact hk), fun k hk => ?_⟩
      · simpa using ha
      · simp [Value.ownBlock] at hk; subst hk; simp
    · by_cases hroom : n + m ≤ cap
      · have hcap : (n + m) * rs ≤ cap * rs := Nat.mul_le_mul_right _ hroom
        have hr := run_append_room (P := P) w ty tr e i hs e1 g n cap cur hg ⟨b, o, none⟩ m c news (by rw [hl, e3]) hnews' h1 hroom (by rw [e3, hl, hcs, ← Nat.add_mul]; exact hcap)
        rw [e3] at hr
        refine ⟨_, _, hr, ⟨by rw [List.length_append, hxl, hl, Nat.add_mul], .inr ⟨g, cap, _, rfl, Nat.zero_le _, setRow_heap w g cur _ e (0, 0) hg, hroom, hcm, ?_, ?_⟩⟩, rfl, rfl, rfl, by simp, ?_, fun k hk => ⟨.inl hk, ?_⟩⟩
        · have : n * rs ≤ cap * rs := Nat.mul_le_mul_right _ hnc
          rw [Nat.add_mul] at hcap
          simp [hl, hcs, Nat.min_eq_left hnc]; omega
        · have hl1 : (cur.toList.take (n * rs) ++ news).length = (n + m) * rs := by
            have : n * rs ≤ cap * rs := Nat.mul_le_mul_right _ hnc
            simp [hl, hcs, Nat.add_mul, Nat.min_eq_left hnc]
          rw [← htake]
          show ((cur.toList.take (n * rs) ++ news) ++ _).take _ = _
          rw [← hl1]; exact List.take_left
        · intro k hk hne
          exact setRow_other w g k _ (fun e => hne (by simp [Value.ownBlock, e]))
        · simp [Value.ownBlock] at hk; subst hk; simpa using (Array.getElem?_eq_some_iff.1 hg).1
      · have holds : ∀ j v, xs[j]? = some v → w.cell? ((⟨g, 0, none⟩ : Addr).add j) = some v := hown.cells rfl
        have hnb : Builtin.nextslicecap (n + m) cap * i.bytes ≤ 281474976710656 := by
          rw [e4]; exact Nat.le_trans (Nat.mul_le_mul_right _ (nextcap_bound (n + m) cap (by omega))) hbytes
        have hr := run_append_grow (P := P) w ty tr e i z hs e1 e2 ⟨g, 0, none⟩ n cap xs (by rw [hxl, e3]) holds ⟨b, o, none⟩ m c news (by rw [hl, e3]) hnews' (by omega) (by omega) hnb
        obtain ⟨cap', ⟨c1, c2⟩, c3⟩ := hfresh cap (by omega)
        have ha := anew cap' c1 c2
        rw [← c3] at hr
        refine ⟨_, _, hr, ha, rfl, rfl, rfl, by simp, fun k hk _ => Go.heap_alloc_old w.drew _ (by exact hk), fun k hk => ?_⟩
        simp [Value.ownBlock] at hk; subst hk; simp

theorem exec_append {A : Act} {x y : Operand} {ty ty' tr : TypeId} {g : Option (Nat × Bool)} {w w' : World} {v' : Value} (h : (Builtin.append_ #[ty, ty'] tr #[A.eval x, A.eval y]).run P w = .ok v' w') :
    (execOp A.eval ⟨some d, .call { callee := .builtin .append, args := #[x, y], argTypes := #[ty, ty'] }, tr, pos, aft, g⟩).run P w = .ok (.value v') w' := by
  have key : ∀ cs, (builtin .append #[ty, ty'] tr cs #[A.eval x, A.eval y]).run P w = .ok (.value v') w' := by
    intro cs
    simp only [builtin, Sem.run_bind, h]; rfl
  simp [execOp, resolve, invoke, key]

/-- append onto what one owns. -/
theorem AO.append {ty e : TypeId} {x y : Operand} (id : Nat) {z : Value} {rs bytes : Nat} {av : AV} {rows rows2 : List (List PV)} (hs : P.underlying ty = some (.slice e)) (hi : TyIs P e z rs bytes)
    (hzs : Nat.beq z.cells.size rs = true) (hrs : Nat.blt 0 rs = true) (hx : st.ev x = some (.h id)) (hid : get st.hp id = some (.vec e rs rows)) (hy : st.ev y = some av) (hav : av.names id = false) (hrows : st.rowsOf av = some (rs, rows2))
    (hone : ∀ r ∈ rows2, ∀ q ∈ r, pvOne q = true)
    (hbytes : (2 * (rows.length + rows2.length) + 1000) * bytes ≤ 281474976710656) (hnm : rows.length + rows2.length ≤ 4611686018427387904) (hlt : Nat.blt d fr.nt = true)
    (hk : AO P fr ops rest k false ⟨(d, .h id) :: dropT id st.tm, setR id (.vec e rs (rows ++ rows2)) (dropH id st.hp)⟩) (hpin : get fr.pin id = none := by rfl) :
    AO P fr ops (⟨some d, .call { callee := .builtin .append, args := #[x, y], argTypes := #[ty, ty] }, t, pos, aft, none⟩ :: rest) k false st :=
  AO.of_run rfl rfl (fun a w ⟨η, φ, hr⟩ => by
    have ex := hr.ev hx
    simp only [ARel] at ex
    obtain ⟨hr2, p, cap, us, ey, hul, hrel2, hcells⟩ := rowsOf_rel hrows hr (hr.ev hy)
    obtain ⟨xs, f1, f2, f3, f4⟩ := hr.res id _ hid
    obtain ⟨v', w', g1, g2, g3, g4, g5, g6, g7, g8⟩ := run_append (tr := t) (c := cap) hs hi (Nat.eq_of_beq_eq_true hzs) (Nat.le_of_ble_eq_true hrs) f3 (a := p) (m := rows2.length) (news := us) hul
      (by rcases hcells with h | ⟨b, o, h1, _, h2⟩
          · exact .inl (by rw [h]; rfl)
          · exact .inr ⟨b, o, h1, h2⟩)
      (pvOnes_spec _ us hrel2 (fun q hq => by obtain ⟨r, hr1, hr2⟩ := List.mem_flatten.1 hq; exact hone r hr1 q hr2)) hbytes hnm
    refine ⟨v', w', exec_append (by rw [ex, ey]; exact g1), ?_⟩
    have hd := hr.drop id
    have hg0 : get (dropH id st.hp) id = some (.vec e rs rows) := by rw [get_dropH, hid]; rfl
    rw [← f4] at g7
    have hch := hd.change id hg0 (.vec e rs (rows ++ rows2)) v' v'.ownBlock.toList g3 g4 g5 g6 g7 (by rw [← f4] at g8; exact g8)
      (.inr ⟨freshT_drop id st.tm, fun j r _ hg => by rw [get_dropH] at hg; obtain ⟨r0, _, rfl⟩ := Option.map_eq_some_iff.1 hg; exact Res.drop_names id r0, hpin⟩) (by
        have hSame : Same (SOf φ st.hp) w w' := ⟨g6, fun k hk hn => g7 k hk (fun h => hn ⟨id, _, hid, h⟩)⟩
        have hS : ∀ k, k < w.heap.size → SOf (upd φ id v'.ownBlock.toList) (setR id (.vec e rs (rows ++ rows2)) (dropH id st.hp)) k → SOf φ st.hp k := by
          rintro k hk ⟨i, r', hg, hm⟩
          rw [get_setR id _ _ _ hg0] at hg
          by_cases e1 : i = id
          · subst e1; rw [upd_self] at hm
            rcases (g8 k hm).1 with h | h
            · exact ⟨i, _, hid, by rw [f4]; exact h⟩
            · omega
          · rw [if_neg e1, get_dropH] at hg
            obtain ⟨r0, h0, _⟩ := Option.map_eq_some_iff.1 hg
            rw [upd_ne _ _ e1] at hm; exact ⟨i, r0, h0, hm⟩
        refine ⟨xs ++ us, ?_, ?_, ?_, rfl⟩
        · rw [List.flatten_append]
          exact relL_append _ _ _ _ (RelL.mono hSame hS _ _ f1) (RelL.mono hSame hS _ _ hrel2)
        · intro r hr'
          rcases List.mem_append.1 hr' with h | h
          · exact f2 r h
          · exact hr2 r h
        · rw [List.length_append]; exact g2)
    exact ⟨_, _, hch.put hlt (av := .h id) (by simp only [ARel]; rw [upd_self])⟩) hk

/-- A nil slice. -/
def AV.isNil : AV → Bool
  | .p (.v (.slice none 0 0)) => true
  | _ => false

/-- append onto nil. -/
theorem AO.appendNil {ty e : TypeId} {x y : Operand} (id : Nat) {z : Value} {rs bytes : Nat} {av : AV} {rows2 : List (List PV)} (hs : P.underlying ty = some (.slice e)) (hi : TyIs P e z rs bytes)
    (hzs : Nat.beq z.cells.size rs = true) (hrs : Nat.blt 0 rs = true) (hx : st.ev x = some (.p (.v (.slice none 0 0)))) (hy : st.ev y = some av) (hrows : st.rowsOf av = some (rs, rows2))
    (hone : ∀ r ∈ rows2, ∀ q ∈ r, pvOne q = true)
    (hbytes : (2 * (0 + rows2.length) + 1000) * bytes ≤ 281474976710656) (hnm : 0 + rows2.length ≤ 4611686018427387904) (hf : st.fresh id = true) (hlt : Nat.blt d fr.nt = true)
    (hk : AO P fr ops rest k false ⟨(d, .h id) :: st.tm, (id, .vec e rs rows2) :: st.hp⟩) (hpin : get fr.pin id = none := by rfl) :
    AO P fr ops (⟨some d, .call { callee := .builtin .append, args := #[x, y], argTypes := #[ty, ty] }, t, pos, aft, none⟩ :: rest) k false st :=
  AO.of_run rfl rfl (fun a w ⟨η, φ, hr⟩ => by
    have ex := hr.ev hx
    simp only [ARel, Rel] at ex
    obtain ⟨hr2, p, cap, us, ey, hul, hrel2, hcells⟩ := rowsOf_rel hrows hr (hr.ev hy)
    obtain ⟨v', w', g1, g2, g3, g4, g5, g6, g7, g8⟩ := run_append (tr := t) (c := cap) hs hi (Nat.eq_of_beq_eq_true hzs) (Nat.le_of_ble_eq_true hrs) (World.ownsRow_nil w 0 e rs) (a := p) (m := rows2.length) (news := us) hul
      (by rcases hcells with h | ⟨b, o, h1, _, h2⟩
          · exact .inl (by rw [h]; rfl)
          · exact .inr ⟨b, o, h1, h2⟩)
      (pvOnes_spec _ us hrel2 (fun q hq => by obtain ⟨r, hr1, hr2⟩ := List.mem_flatten.1 hq; exact hone r hr1 q hr2)) hbytes hnm
    refine ⟨v', w', exec_append (by rw [ex, ey]; exact g1), ?_⟩
    have hb : Below w.heap.size w w' := ⟨g3, g4, g5, g6, fun k hk => g7 k hk (by simp [Value.ownBlock])⟩
    have hres := hr.addPut hb id hf (.vec e rs rows2) v' v'.ownBlock.toList (fun k hk => by
        have := g8 k hk
        simpa [Value.ownBlock] using this) (by
        have hSame : Same (SOf φ st.hp) w w' := Same.of_below hb
        have hS : ∀ k, k < w.heap.size → SOf (upd φ id v'.ownBlock.toList) ((id, .vec e rs rows2) :: st.hp) k → SOf φ st.hp k := by
          rintro k hk ⟨i, r', hg, hm⟩
          rw [get_cons] at hg
          split at hg
          · next e1 =>
            subst e1; rw [upd_self] at hm
            have := (g8 k hm).1
            simp [Value.ownBlock] at this
            omega
          · next e1 => rw [upd_ne _ _ (fun h => e1 h.symm)] at hm; exact ⟨i, r', hg, hm⟩
        refine ⟨us, RelL.mono hSame hS _ _ hrel2, hr2, ?_, rfl⟩
        simpa using g2) hlt hpin
    exact ⟨_, _, hres⟩) hk

end
end Go.V
/- The calculus' rules: calls. -/
namespace Go.V
open Go Go.RowKit

/-! Values that hold no address. -/
mutual
def PV.Flat : PV → Prop
  | .v _ => True
  | .ptr _ => False
  | .sl _ _ => False
  | .agg cs => PV.FlatL cs
  | .tup cs => PV.FlatL cs
  | .clo _ cs => PV.FlatL cs
def PV.FlatL : List PV → Prop
  | [] => True
  | c :: cs => c.Flat ∧ PV.FlatL cs
end
mutual
theorem Rel.flat {S S' : Nat → Prop} {w w' : World} : ∀ (x : PV) (u : Value), x.Flat → Rel S w x u → Rel S' w' x u
  | .v _, _, _, h => by simpa only [Rel] using h
  | .ptr _, _, hf, _ => by simp only [PV.Flat] at hf
  | .sl _ _, _, hf, _ => by simp only [PV.Flat] at hf
  | .agg cs, u, hf, h => by
    simp only [Rel, PV.Flat] at h hf ⊢
    obtain ⟨us, h1, h2⟩ := h
    exact ⟨us, h1, RelL.flat cs us.toList hf h2⟩
  | .tup cs, u, hf, h => by
    simp only [Rel, PV.Flat] at h hf ⊢
    obtain ⟨us, h1, h2⟩ := h
    exact ⟨us, h1, RelL.flat cs us.toList hf h2⟩
  | .clo _ cs, u, hf, h => by
    simp only [Rel, PV.Flat] at h hf ⊢
    obtain ⟨us, h1, h2⟩ := h
    exact ⟨us, h1, RelL.flat cs us.toList hf h2⟩
theorem RelL.flat {S S' : Nat → Prop} {w w' : World} : ∀ (cs : List PV) (us : List Value), PV.FlatL cs → RelL S w cs us → RelL S' w' cs us
  | [], _, _, h => by simpa only [RelL] using h
  | c :: cs, us, hf, h => by
    simp only [RelL, PV.FlatL] at h hf ⊢
    obtain ⟨u, us', h1, h2, h3⟩ := h
    exact ⟨u, us', h1, Rel.flat c u hf.1 h2, RelL.flat cs us' hf.2 h3⟩
end

/-! The one value of plain data without addresses. -/
mutual
def conc : PV → Option Value
  | .v x => some x
  | .agg cs => match concL cs with
    | some l => some (.agg l.toArray)
    | none => none
  | .tup cs => match concL cs with
    | some l => some (.tuple l.toArray)
    | none => none
  | _ => none
def concL : List PV → Option (List Value)
  | [] => some []
  | c :: cs => match conc c with
    | some x => match concL cs with
      | some l => some (x :: l)
      | none => none
    | none => none
end
mutual
theorem conc_spec {S : Nat → Prop} {w : World} : ∀ (x : PV) (c : Value), conc x = some c → ∀ u, Rel S w x u ↔ u = c
  | .v y, c, h, u => by simp only [conc, Option.some.injEq] at h; subst h; simp only [Rel]
  | .agg cs, c, h, u => by
    simp only [conc] at h
    cases hl : concL cs with
    | none => rw [hl] at h; cases h
    | some l =>
      rw [hl] at h
      simp only [Option.some.injEq] at h; subst h
      have := concL_spec (S := S) (w := w) cs l hl
      simp only [Rel]
      constructor
      · rintro ⟨us, rfl, h2⟩; rw [this] at h2; rw [← h2]
      · rintro rfl; exact ⟨l.toArray, rfl, by rw [this]⟩
  | .tup cs, c, h, u => by
    simp only [conc] at h
    cases hl : concL cs with
    | none => rw [hl] at h; cases h
    | some l =>
      rw [hl] at h
      simp only [Option.some.injEq] at h; subst h
      have := concL_spec (S := S) (w := w) cs l hl
      simp only [Rel]
      constructor
      · rintro ⟨us, rfl, h2⟩; rw [this] at h2; rw [← h2]
      · rintro rfl; exact ⟨l.toArray, rfl, by rw [this]⟩
  | .ptr _, _, h, _ => by simp [conc] at h
  | .sl _ _, _, h, _ => by simp [conc] at h
  | .clo _ _, _, h, _ => by simp [conc] at h
theorem concL_spec {S : Nat → Prop} {w : World} : ∀ (cs : List PV) (l : List Value), concL cs = some l → ∀ us, RelL S w cs us ↔ us = l
  | [], l, h, us => by simp only [concL, Option.some.injEq] at h; subst h; simp only [RelL]
  | c :: cs, l, h, us => by
    simp only [concL] at h
    cases hc : conc c with
    | none => rw [hc] at h; cases h
    | some x =>
      rw [hc] at h
      simp only at h
      cases hl : concL cs with
      | none => rw [hl] at h; cases h
      | some l' =>
        rw [hl] at h
        simp only [Option.some.injEq] at h; subst h
        have h1 := conc_spec (S := S) (w := w) c x hc
        have h2 := concL_spec (S := S) (w := w) cs l' hl
        simp only [RelL]
        constructor
        · rintro ⟨u, us', rfl, h3, h4⟩; rw [h1] at h3; rw [h2] at h4; rw [h3, h4]
        · rintro rfl; exact ⟨x, l', rfl, (h1 x).2 rfl, (h2 l').2 rfl⟩
end

/-- A function that only reads: of arguments that read as told it returns what is told, and leaves all that was there as it was. -/
def Pure (P : Program) (f : FuncId) (args : List PV) (r : PV) : Prop :=
  ∀ (w : World) (us : List Value), RelL (fun _ => False) w args us →
    Calls P f us.toArray w fun e w' => ∃ u, e = .returned u ∧ Rel (fun _ => False) w' r u ∧ Below w.heap.size w w'

/-! A slot's content, read as plain data. -/
def St.view0 (st : St) : AV → Option PV
  | .p x => some x
  | .h id => match get st.hp id with
    | some (.vec _ rs rows) => some (.sl rs rows)
    | some (.cust C) => C.view
    | _ => none
  | _ => none
def St.view0L (st : St) : List AV → Option (List PV)
  | [] => some []
  | c :: cs => match st.view0 c with
    | some x => match st.view0L cs with
      | some l => some (x :: l)
      | none => none
    | none => none
def St.view1 (st : St) : AV → Option PV
  | .p x => some x
  | .agg cs => match st.view0L cs with
    | some l => some (.agg l)
    | none => none
  | .h id => match get st.hp id with
    | some (.vec _ rs rows) => some (.sl rs rows)
    | some (.cust C) => C.view
    | some (.box _ cs) => match st.view0L cs with
      | some l => some (.ptr l)
      | none => none
    | none => none
  | .el id rs row off => match st.behind (.el id rs row off) with
    | some cs => match st.view0L cs with
      | some l => some (.ptr l)
      | none => none
    | none => none
  | _ => none
def St.view1L (st : St) : List AV → Option (List PV)
  | [] => some []
  | c :: cs => match st.view1 c with
    | some x => match st.view1L cs with
      | some l => some (x :: l)
      | none => none
    | none => none
def St.view (st : St) : AV → Option PV
  | .clo f cs => match st.view1L cs with
    | some l => some (.clo f l)
    | none => none
  | av => st.view1 av
def St.viewL (st : St) : List AV → Option (List PV)
  | [] => some []
  | c :: cs => match st.view c with
    | some x => match st.viewL cs with
      | some l => some (x :: l)
      | none => none
    | none => none

section
variable {P : Program} {fr : Fr} {st : St}

theorem rel_free {S : Nat → Prop} {w : World} {x : PV} {u : Value} (h : Rel S w x u) : Rel (fun _ => False) w x u :=
  Rel.mono ⟨Nat.le_refl _, fun _ _ _ => rfl⟩ (fun _ _ h => h.elim) x u h

theorem relRows_of_at {S : Nat → Prop} {w : World} {b rs : Nat} : ∀ (rows : List (List PV)) (o : Nat), (∀ r ∈ rows, r.length = rs) → (∀ i r, rows[i]? = some r → RelAt S w b (o + i * rs) r) → RelRows S w b rs o rows
  | [], _, _, _ => by simp [RelRows]
  | r :: rows, o, hl, h => by
    simp only [RelRows]
    refine ⟨hl r (by simp), by simpa using h 0 r (by simp), relRows_of_at rows (o + rs) (fun q hq => hl q (by simp [hq])) (fun i q hq => ?_)⟩
    have := h (i + 1) q (by simpa using hq)
    rwa [show o + (i + 1) * rs = o + rs + i * rs by rw [Nat.add_mul]; omega] at this

theorem vec_view {η : Nat → Value} {φ : Nat → List Nat} {a : Act} {w : World} (hr : RepE fr η φ st a w) {id : Nat} {ty : TypeId} {rs : Nat} {rows : List (List PV)} (hg : get st.hp id = some (.vec ty rs rows)) :
    Rel (fun _ => False) w (.sl rs rows) (η id) := by
  have h := hr.res id _ hg
  obtain ⟨xs, h1, h2, h3, h4⟩ := h
  simp only [Rel]
  rcases h3.2 with ⟨e, hn⟩ | ⟨g, cap, cur, e, _, hgb, hnc, _⟩
  · exact ⟨none, 0, by rw [e, hn], by omega, .inl (List.eq_nil_of_length_eq_zero hn)⟩
  · refine ⟨_, cap, e, hnc, .inr ⟨g, 0, rfl, (fun h => h), (Array.getElem?_eq_some_iff.1 hgb).1, ?_⟩⟩
    refine RelRows.mono (S := SOf φ st.hp) (w := w) ⟨Nat.le_refl _, fun _ _ _ => rfl⟩ (fun _ _ h => h.elim) rfl 0 rows (relRows_of_at rows 0 h2 (fun i r hir => ?_))
    have := (hr.res id _ hg).row hir (b := g) (by rw [e]; rfl)
    simpa using this

theorem view0_rel {av : AV} {x : PV} (hv : st.view0 av = some x) {η : Nat → Value} {φ : Nat → List Nat} {a : Act} {w : World} (hr : RepE fr η φ st a w) {u : Value} (h : ARel η (SOf φ st.hp) w av u) :
    Rel (fun _ => False) w x u := by
  cases av with
  | p y => simp only [St.view0, Option.some.injEq] at hv; subst hv; simp only [ARel] at h; exact rel_free h
  | h id =>
    simp only [St.view0] at hv
    cases hg : get st.hp id with
    | none => rw [hg] at hv; cases hv
    | some r =>
      rw [hg] at hv
      cases r with
      | box => cases hv
      | cust C =>
        simp only [ARel] at h; subst h
        exact C.ok hv (hr.res id _ hg)
      | vec ty rs rows =>
        simp only [Option.some.injEq] at hv; subst hv
        simp only [ARel] at h; subst h
        exact vec_view hr hg
  | _ => cases hv

theorem view0L_rel {η : Nat → Value} {φ : Nat → List Nat} {a : Act} {w : World} (hr : RepE fr η φ st a w) : ∀ (cs : List AV) (l : List PV) (us : List Value), st.view0L cs = some l → ARelL η (SOf φ st.hp) w cs us → RelL (fun _ => False) w l us
  | [], l, us, hv, h => by simp only [St.view0L, Option.some.injEq] at hv; subst hv; simpa [ARelL, RelL] using h
  | c :: cs, l, us, hv, h => by
    simp only [St.view0L] at hv
    cases hc : st.view0 c with
    | none => rw [hc] at hv; cases hv
    | some x =>
      rw [hc] at hv
      simp only at hv
      cases hl : st.view0L cs with
      | none => rw [hl] at hv; cases hv
      | some l' =>
        rw [hl] at hv
        simp only [Option.some.injEq] at hv; subst hv
        simp only [ARelL] at h
        obtain ⟨u, us', rfl, h2, h3⟩ := h
        simp only [RelL]
        exact ⟨u, us', rfl, view0_rel hc hr h2, view0L_rel hr cs l' us' hl h3⟩

theorem view0L_at {η : Nat → Value} {φ : Nat → List Nat} {a : Act} {w : World} (hr : RepE fr η φ st a w) {b : Nat} : ∀ (o : Nat) (cs : List AV) (l : List PV), st.view0L cs = some l → ARelAt η (SOf φ st.hp) w b o cs → RelAt (fun _ => False) w b o l
  | _, [], l, hv, h => by simp only [St.view0L, Option.some.injEq] at hv; subst hv; simp [RelAt]
  | o, c :: cs, l, hv, h => by
    simp only [St.view0L] at hv
    cases hc : st.view0 c with
    | none => rw [hc] at hv; cases hv
    | some x =>
      rw [hc] at hv
      simp only at hv
      cases hl : st.view0L cs with
      | none => rw [hl] at hv; cases hv
      | some l' =>
        rw [hl] at hv
        simp only [Option.some.injEq] at hv; subst hv
        simp only [ARelAt] at h
        obtain ⟨⟨u, h1, h2⟩, h3⟩ := h
        simp only [RelAt]
        exact ⟨⟨u, h1, view0_rel hc hr h2⟩, view0L_at hr (o + 1) cs l' hl h3⟩

theorem view1_rel {av : AV} {x : PV} (hv : st.view1 av = some x) {η : Nat → Value} {φ : Nat → List Nat} {a : Act} {w : World} (hr : RepE fr η φ st a w) {u : Value} (h : ARel η (SOf φ st.hp) w av u) :
    Rel (fun _ => False) w x u := by
  have point : ∀ (cs : List AV) (l : List PV), st.behind av = some cs → st.view0L cs = some l → Rel (fun _ => False) w (.ptr l) u := by
    intro cs l hb hl
    obtain ⟨b, o, e1, e2, e3⟩ := behind_rel hb hr h
    simp only [Rel]
    exact ⟨b, o, e1, id, e2, view0L_at hr o cs l hl e3⟩
  cases av with
  | p y => simp only [St.view1, Option.some.injEq] at hv; subst hv; simp only [ARel] at h; exact rel_free h
  | agg cs =>
    simp only [St.view1] at hv
    cases hl : st.view0L cs with
    | none => rw [hl] at hv; cases hv
    | some l =>
      rw [hl] at hv
      simp only [Option.some.injEq] at hv; subst hv
      simp only [ARel] at h
      obtain ⟨us, rfl, h2⟩ := h
      simp only [Rel]
      exact ⟨us, rfl, view0L_rel hr cs l _ hl h2⟩
  | h id =>
    simp only [St.view1] at hv
    cases hg : get st.hp id with
    | none => rw [hg] at hv; cases hv
    | some r =>
      rw [hg] at hv
      cases r with
      | cust C =>
        simp only [ARel] at h; subst h
        exact C.ok hv (hr.res id _ hg)
      | box ty cs =>
        simp only at hv
        cases hl : st.view0L cs with
        | none => rw [hl] at hv; cases hv
        | some l =>
          rw [hl] at hv
          simp only [Option.some.injEq] at hv; subst hv
          exact point cs l (by simp only [St.behind, hg]) hl
      | vec ty rs rows =>
        simp only [Option.some.injEq] at hv; subst hv
        simp only [ARel] at h; subst h
        exact vec_view hr hg
  | el id rs row off =>
    simp only [St.view1] at hv
    cases hb : st.behind (.el id rs row off) with
    | none => rw [hb] at hv; cases hv
    | some cs =>
      rw [hb] at hv
      simp only at hv
      cases hl : st.view0L cs with
      | none => rw [hl] at hv; cases hv
      | some l =>
        rw [hl] at hv
        simp only [Option.some.injEq] at hv; subst hv
        exact point cs l hb hl
  | _ => cases hv

theorem view1L_rel {η : Nat → Value} {φ : Nat → List Nat} {a : Act} {w : World} (hr : RepE fr η φ st a w) : ∀ (cs : List AV) (l : List PV) (us : List Value), st.view1L cs = some l → ARelL η (SOf φ st.hp) w cs us → RelL (fun _ => False) w l us
  | [], l, us, hv, h => by simp only [St.view1L, Option.some.injEq] at hv; subst hv; simpa [ARelL, RelL] using h
  | c :: cs, l, us, hv, h => by
    simp only [St.view1L] at hv
    cases hc : st.view1 c with
    | none => rw [hc] at hv; cases hv
    | some x =>
      rw [hc] at hv
      simp only at hv
      cases hl : st.view1L cs with
      | none => rw [hl] at hv; cases hv
      | some l' =>
        rw [hl] at hv
        simp only [Option.some.injEq] at hv; subst hv
        simp only [ARelL] at h
        obtain ⟨u, us', rfl, h2, h3⟩ := h
        simp only [RelL]
        exact ⟨u, us', rfl, view1_rel hc hr h2, view1L_rel hr cs l' us' hl h3⟩

theorem view_rel {av : AV} {x : PV} (hv : st.view av = some x) {η : Nat → Value} {φ : Nat → List Nat} {a : Act} {w : World} (hr : RepE fr η φ st a w) {u : Value} (h : ARel η (SOf φ st.hp) w av u) :
    Rel (fun _ => False) w x u := by
  cases av with
  | clo f cs =>
    simp only [St.view] at hv
    cases hl : st.view1L cs with
    | none => rw [hl] at hv; cases hv
    | some l =>
      rw [hl] at hv
      simp only [Option.some.injEq] at hv; subst hv
      simp only [ARel] at h
      obtain ⟨us, rfl, h2⟩ := h
      simp only [Rel]
      exact ⟨us, rfl, view1L_rel hr cs l _ hl h2⟩
  | _ => exact view1_rel (by simpa only [St.view] using hv) hr h

theorem viewL_rel {η : Nat → Value} {φ : Nat → List Nat} {a : Act} {w : World} (hr : RepE fr η φ st a w) : ∀ (cs : List AV) (l : List PV) (us : List Value), st.viewL cs = some l → ARelL η (SOf φ st.hp) w cs us → RelL (fun _ => False) w l us
  | [], l, us, hv, h => by simp only [St.viewL, Option.some.injEq] at hv; subst hv; simpa [ARelL, RelL] using h
  | c :: cs, l, us, hv, h => by
    simp only [St.viewL] at hv
    cases hc : st.view c with
    | none => rw [hc] at hv; cases hv
    | some x =>
      rw [hc] at hv
      simp only at hv
      cases hl : st.viewL cs with
      | none => rw [hl] at hv; cases hv
      | some l' =>
        rw [hl] at hv
        simp only [Option.some.injEq] at hv; subst hv
        simp only [ARelL] at h
        obtain ⟨u, us', rfl, h2, h3⟩ := h
        simp only [RelL]
        exact ⟨u, us', rfl, view_rel hc hr h2, viewL_rel hr cs l' us' hl h3⟩

/-! Operands, many at once; what a called value is. -/
def St.evL (st : St) : List Operand → Option (List AV)
  | [] => some []
  | x :: l => match st.ev x with
    | some a => match st.evL l with
      | some r => some (a :: r)
      | none => none
    | none => none
theorem evL_rel {η : Nat → Value} {φ : Nat → List Nat} {a : Act} {w : World} (hr : RepE fr η φ st a w) : ∀ (l : List Operand) (avs : List AV), st.evL l = some avs → ARelL η (SOf φ st.hp) w avs (l.map a.eval)
  | [], avs, h => by simp only [St.evL, Option.some.injEq] at h; subst h; simp [ARelL]
  | x :: l, avs, h => by
    simp only [St.evL] at h
    cases hx : st.ev x with
    | none => rw [hx] at h; cases h
    | some av =>
      rw [hx] at h
      simp only at h
      cases hl : st.evL l with
      | none => rw [hl] at h; cases h
      | some r =>
        rw [hl] at h
        simp only [Option.some.injEq] at h; subst h
        simp only [List.map_cons, ARelL]
        exact ⟨_, _, rfl, hr.ev hx, evL_rel hr l r hl⟩

def AV.fn : AV → Option (FuncId × List AV)
  | .p (.clo f l) => some (f, l.map .p)
  | .clo f l => some (f, l)
  | _ => none
theorem fn_rel {av : AV} {f : FuncId} {caps : List AV} (hf : av.fn = some (f, caps)) {η : Nat → Value} {S : Nat → Prop} {w : World} {u : Value} (h : ARel η S w av u) :
    ∃ us, u = .func (.func f) #[] us ∧ ARelL η S w caps us.toList := by
  cases av with
  | clo g l =>
    simp only [AV.fn, Option.some.injEq, Prod.mk.injEq] at hf
    obtain ⟨rfl, rfl⟩ := hf
    simpa only [ARel] using h
  | p x =>
    cases x with
    | clo g l =>
      simp only [AV.fn, Option.some.injEq, Prod.mk.injEq] at hf
      obtain ⟨rfl, rfl⟩ := hf
      simp only [ARel, Rel] at h
      obtain ⟨us, h1, h2⟩ := h
      exact ⟨us, h1, relL_map l us.toList h2⟩
    | _ => cases hf
  | _ => cases hf

/-- That a function is called by entering it. -/
def Enters (P : Program) (f : FuncId) : Prop := ∀ (args : Array Value) (w : World), (callFunc f args).run P w = .ok (.enter f args) w

variable {d : Option Tmp} {t : TypeId} {pos : String} {aft : Array Edge} {g : Option (Nat × Bool)}

theorem exec_call {A : Act} {x : Operand} {args : List Operand} {argTypes : Array TypeId} {f : FuncId} {us : Array Value} (hf : Enters P f) (hx : A.eval x = .func (.func f) #[] us) (w : World) :
    (execOp A.eval ⟨d, .call { callee := .value x, args := args.toArray, argTypes := argTypes }, t, pos, aft, g⟩).run P w = .ok (.enter f ((args.map A.eval) ++ us.toList).toArray) w := by
  have e : args.toArray.map A.eval = (args.map A.eval).toArray := by simp
  have e2 : (args.map A.eval).toArray ++ us = ((args.map A.eval) ++ us.toList).toArray := by simp
  simp only [execOp, resolve, hx, e, Deferred.ofValue, Sem.run_bind, Sem.run_pure, Result.andThen_ok, invoke, Array.empty_append, e2]
  exact hf _ _

/-- A call of a function that only reads, with a result that holds no address. -/
theorem Yld.call {x : Operand} {args : List Operand} {argTypes : Array TypeId} {f : FuncId} {cv : AV} {avs caps : List AV} {pvl pvl2 : List PV} {r : PV} {c : Value} (hx : st.ev x = some cv) (hcv : cv.fn = some (f, caps)) (hf : Enters P f)
    (ha : st.evL args = some avs) (hv : st.viewL avs = some pvl) (hv2 : st.viewL caps = some pvl2) (hp : Pure P f (pvl ++ pvl2) r) (hc : conc r = some c) :
    Yld P fr ⟨d, .call { callee := .value x, args := args.toArray, argTypes := argTypes }, t, pos, aft, g⟩ st (.p r) := by
  intro η φ a w hr
  refine ⟨c, fun w' hw' => ?_, by simp only [ARel]; exact (conc_spec r c hc c).2 rfl⟩
  obtain ⟨us, e1, e2⟩ := fn_rel hcv (hr.ev hx)
  unfold Oper.quietAt
  rw [exec_call hf e1]
  refine ⟨rfl, ?_⟩
  have hr' := hr.below hw'
  have h1 := viewL_rel hr' avs pvl _ hv (evL_rel hr' args avs ha)
  have e2' : ARelL η (SOf φ st.hp) w' caps us.toList := ARelL.mono (Same.of_below hw') (fun _ _ h => h) _ _ (fun _ _ => rfl) e2
  have h2 := viewL_rel hr' caps pvl2 _ hv2 e2'
  have hh := hp w' _ (relL_append _ _ _ _ h1 h2)
  refine hh.mono fun e w'' ⟨u, g1, g2, g3⟩ => ?_
  rw [conc_spec r c hc] at g2
  subst g2
  exact ⟨g1, hw'.trans (g3.mono hw'.size)⟩

end

/-! Contracts of functions that own something, or hand something new back. -/
structure HpOk (η : Nat → Value) (φ : Nat → List Nat) (hp : List (Nat × Res)) (w : World) : Prop where
  res : ∀ id r, get hp id = some r → RRes η (SOf φ hp) w (η id) (φ id) r
  disj : ∀ id id' r r' k, get hp id = some r → get hp id' = some r' → k ∈ φ id → k ∈ φ id' → id = id'
  lt : ∀ id r k, get hp id = some r → k ∈ φ id → k < w.heap.size

/-- A function that is handed things of one's own ('hi') and hands things back ('ho'); 'kp': whose handles stay. -/
def Fn (P : Program) (f : FuncId) (args : List AV) (hi : List (Nat × Res)) (kp : List Nat) (r : AV) (ho : List (Nat × Res)) : Prop :=
  ∀ η φ w (us : List Value), HpOk η φ hi w → ARelL η (SOf φ hi) w args us →
    Calls P f us.toArray w fun e w' => ∃ u η' φ', e = .returned u ∧ HpOk η' φ' ho w' ∧ ARel η' (SOf φ' ho) w' r u ∧ (∀ i, i ∈ kp → η' i = η i) ∧
      (∀ i r k, get ho i = some r → k ∈ φ' i → SOf φ hi k ∨ w.heap.size ≤ k) ∧ Keep (SOf φ hi) w w'

end Go.V
/- The calculus' rules: loops, forgetting, a function's begin and end; a contract of a function that only reads. -/
namespace Go.V
open Go Go.RowKit

section
variable {P : Program} {fr : Fr} {st : St} {k : List It}

/-- What a state says beside another. -/
def Le (fr : Fr) (st st' : St) : Prop := ∀ a w, Rep fr st a w → Rep fr st' a w
theorem Le.refl (fr : Fr) (st : St) : Le fr st st := fun _ _ h => h

def SubT (tm : List (Nat × AV)) : List (Nat × AV) → Prop
  | [] => True
  | (i, a) :: l => get tm i = some a ∧ SubT tm l
def SubH (hp : List (Nat × Res)) : List (Nat × Res) → Prop
  | [] => True
  | (i, a) :: l => get hp i = some a ∧ SubH hp l
theorem SubT.spec {tm : List (Nat × AV)} : ∀ {l : List (Nat × AV)}, SubT tm l → ∀ i a, get l i = some a → get tm i = some a
  | [], _, _, _, h => by cases h
  | (j, b) :: l, hs, i, a, h => by
    rw [get_cons] at h
    split at h
    · next e => subst e; obtain rfl := Option.some.inj h; exact hs.1
    · exact hs.2.spec i a h
theorem SubH.spec {hp : List (Nat × Res)} : ∀ {l : List (Nat × Res)}, SubH hp l → ∀ i a, get l i = some a → get hp i = some a
  | [], _, _, _, h => by cases h
  | (j, b) :: l, hs, i, a, h => by
    rw [get_cons] at h
    split at h
    · next e => subst e; obtain rfl := Option.some.inj h; exact hs.1
    · exact hs.2.spec i a h

theorem Le.intro {st' : St} (ht : SubT st.tm st'.tm) (hh : SubH st.hp st'.hp) : Le fr st st' := by
  rintro a w ⟨η, φ, hr⟩
  have hS : ∀ k, k < w.heap.size → SOf φ st'.hp k → SOf φ st.hp k := fun k _ ⟨i, r, hg, hm⟩ => ⟨i, r, hh.spec i r hg, hm⟩
  have hw : Same (SOf φ st.hp) w w := ⟨Nat.le_refl _, fun _ _ _ => rfl⟩
  refine ⟨η, φ, hr.defers, hr.size, ?_, ?_, ?_, ?_, ?_, hr.keep, hr.pin⟩
  · intro i av hg
    obtain ⟨u, h1, h2⟩ := hr.slots i av (ht.spec i av hg)
    exact ⟨u, h1, ARel.mono hw hS av u (fun _ _ => rfl) h2⟩
  · intro i r hg
    exact RRes.mono hw hS (fun _ _ => rfl) r (fun _ _ => rfl) (hr.res i r (hh.spec i r hg))
  · intro i j r r' k h1 h2; exact hr.disj i j r r' k (hh.spec i r h1) (hh.spec j r' h2)
  · intro i r k h1; exact hr.low i r k (hh.spec i r h1)
  · intro i r k h1; exact hr.lt i r k (hh.spec i r h1)

theorem AC.keep {st' : St} (hl : Le fr st st') (h : AC P fr k st') : AC P fr k st := fun a w hr => h a w (hl a w hr)

theorem AC.loop {c : Code} {σ : Type} (S : σ → St) (J : σ → Prop) (μ : σ → Nat) (s0 : σ) (h0 : J s0) (hl : Le fr st (S s0))
    (round : ∀ s, J s → AC P fr (.code c :: .inv (fun st' => ∃ s', J s' ∧ μ s' < μ s ∧ Le fr st' (S s')) :: k) (S s)) : AC P fr (.code (.loop c) :: k) st := by
  intro a w hr
  refine wp_loop_ghost (fun n a w => ∃ s, J s ∧ μ s = n ∧ Rep fr (S s) a w) (μ s0) ⟨s0, h0, rfl, hl a w hr⟩ ?_
  rintro n a w ⟨s, hJ, rfl, hrep⟩
  refine wp_mono (round s hJ a w hrep) ?_
  intro e a' w' hq
  cases e with
  | normal =>
    obtain ⟨st', ⟨s', h1, h2, h3⟩, h4⟩ := hq
    exact ⟨μ s', h2, s', h1, rfl, h3 a' w' h4⟩
  | _ => exact hq

/-- A loop: what stays (C, CH), what turns (V, H). -/
theorem AC.loopC {c : Code} {σ : Type} (C : List (Nat × AV)) (CH : List (Nat × Res)) (V : σ → List (Nat × AV)) (H : σ → List (Nat × Res)) (J : σ → Prop) (μ : σ → Nat) (s0 : σ)
    (hC : SubT st.tm C) (hCH : SubH st.hp CH) (hV : SubT st.tm (V s0)) (hH : SubH st.hp (H s0)) (h0 : J s0)
    (round : ∀ s, J s → AC P fr (.code c :: .inv (fun st' => ∃ s', J s' ∧ μ s' < μ s ∧ SubT st'.tm (V s') ∧ SubH st'.hp (H s') ∧ SubT st'.tm C ∧ SubH st'.hp CH) :: k) ⟨V s ++ C, H s ++ CH⟩) :
    AC P fr (.code (.loop c) :: k) st := by
  have subT : ∀ {tm l l' : List (Nat × AV)}, SubT tm l → SubT tm l' → SubT tm (l ++ l') := by
    intro tm l l' h h'
    induction l with
    | nil => exact h'
    | cons a l ih => exact ⟨h.1, ih h.2⟩
  have subH : ∀ {tm l l' : List (Nat × Res)}, SubH tm l → SubH tm l' → SubH tm (l ++ l') := by
    intro tm l l' h h'
    induction l with
    | nil => exact h'
    | cons a l ih => exact ⟨h.1, ih h.2⟩
  refine AC.loop (fun s => ⟨V s ++ C, H s ++ CH⟩) J μ s0 h0 (Le.intro (subT hV hC) (subH hH hCH)) (fun s hJ => ?_)
  intro a w hr
  have := round s hJ a w hr
  refine wp_mono this ?_
  intro e a' w' hq
  cases e with
  | normal =>
    obtain ⟨st', ⟨s', h1, h2, h3, h4, h5, h6⟩, h7⟩ := hq
    exact ⟨st', ⟨s', h1, h2, Le.intro (subT h3 h5) (subH h4 h6)⟩, h7⟩
  | _ => exact hq

theorem AC.back {I : St → Prop} (h : I st) : AC P fr (.inv I :: k) st := fun _ _ hr => ⟨st, h, hr⟩

theorem cont_ret : ∀ (k : List It), cont P fr k .ret = fr.Q .ret
  | [] => rfl
  | .code c :: k => by funext a w; exact congrFun (congrFun (cont_ret k) a) w
  | .mark id :: k => by funext a w; exact congrFun (congrFun (cont_ret k) a) w
  | .inv I :: k => by funext a w; exact congrFun (congrFun (cont_ret k) a) w

/-! Results. -/
def rvSem (tmps : Array Value) : ResultVar → Sem Value
  | .tmp t => pure (tmps.getD t undef)
  | .cell a t => do loadVar t (← asAddr (tmps.getD a undef))

theorem results_eq (fn : Func) (tmps : Array Value) : results fn tmps = (do let vs ← fn.results.mapM (rvSem tmps); pure (if h : vs.size = 1 then vs[0] else .tuple vs)) := by
  unfold results
  congr 2

def RV (P : Program) (st : St) (rv : ResultVar) (av : AV) : Prop :=
  ∀ fr η φ a w, RepE fr η φ st a w → ∃ u, (rvSem a.tmps rv).run P w = .ok u w ∧ ARel η (SOf φ st.hp) w av u

theorem RV.tmp {t : Nat} {av : AV} (h : get st.tm t = some av) : RV P st (.tmp t) av := fun _ _ _ a _ hr => by
  obtain ⟨u, h1, h2⟩ := hr.slots t av h
  exact ⟨u, by simp [rvSem, Array.getD_eq_getD_getElem?, h1], h2⟩

theorem RV.cell {t ty n : Nat} {av : AV} {cs cs' : List AV} (hagg : ∀ w, (isAgg ty).run P w = .ok true w) (hsz : ∀ w, (sizeOf ty).run P w = .ok n w) (h : get st.tm t = some av) (hb : st.behind av = some cs)
    (hc : cs.take n = cs') (hn : Nat.beq cs'.length n = true) : RV P st (.cell t ty) (.agg cs') := fun _ η φ a w hr => by
  obtain ⟨u, h1, h2⟩ := hr.slots t av h
  obtain ⟨b, o, e1, e2, e3⟩ := behind_rel hb hr h2
  obtain ⟨us, e, h4, h5⟩ := aRelAt_list o cs' (hc ▸ aRelAt_take n o cs e3)
  refine ⟨.agg us.toArray, ?_, by simp only [ARel]; exact ⟨us.toArray, rfl, by simpa using h5⟩⟩
  have hl : us.length = n := e.trans (Nat.eq_of_beq_eq_true hn)
  have := run_loadCells_list (P := P) w ⟨b, o, none⟩ us (fun j v hj => by rw [add_plain]; exact h4 j v hj)
  rw [hl] at this
  have hu : a.tmps.getD t undef = .pointer (some ⟨b, o, none⟩) := by rw [← e1]; simp [Array.getD_eq_getD_getElem?, h1]
  simp [rvSem, hu, asAddr, loadVar, hagg, hsz, this]

inductive RVs (P : Program) (st : St) : List ResultVar → List AV → Prop
  | nil : RVs P st [] []
  | cons {rv : ResultVar} {av : AV} {l : List ResultVar} {avs : List AV} : RV P st rv av → RVs P st l avs → RVs P st (rv :: l) (av :: avs)

theorem RVs.spec {l : List ResultVar} {avs : List AV} (h : RVs P st l avs) {η : Nat → Value} {φ : Nat → List Nat} {a : Act} {w : World} (hr : RepE fr η φ st a w) :
    ∃ us : List Value, (l.mapM (rvSem a.tmps)).run P w = .ok us w ∧ ARelL η (SOf φ st.hp) w avs us := by
  induction h with
  | nil => exact ⟨[], by simp, by simp [ARelL]⟩
  | @cons rv av l avs h1 h2 ih =>
    obtain ⟨us, e1, e2⟩ := ih
    obtain ⟨u, e3, e4⟩ := h1 fr η φ a w hr
    refine ⟨u :: us, ?_, by simp only [ARelL]; exact ⟨u, us, rfl, e4, e2⟩⟩
    rw [List.mapM_cons]
    simp only [Sem.run_bind, e3, Sem.run_pure, Result.andThen_ok, e1]

/-- The value of all results together. -/
def final : List AV → AV
  | [x] => x
  | l => .tup l

theorem results_run {fn : Func} {avs : List AV} (h : RVs P st fn.results.toList avs) {η : Nat → Value} {φ : Nat → List Nat} {a : Act} {w : World} (hr : RepE fr η φ st a w) :
    ∃ u, (results fn a.tmps).run P w = .ok u w ∧ ARel η (SOf φ st.hp) w (final avs) u := by
  obtain ⟨us, e1, e2⟩ := h.spec hr
  have hl := aRelL_length avs us e2
  rw [results_eq, Array.mapM_eq_mapM_toList]
  simp only [Sem.run_bind, Sem.run_map, e1, Result.andThen_ok, Sem.run_pure]
  refine ⟨_, rfl, ?_⟩
  match avs, us, e2, hl with
  | [], [], _, _ => simp [final, ARel, ARelL]
  | [x], [u], e2, _ =>
    simp only [ARelL] at e2
    obtain ⟨u', us', e, h1, h2⟩ := e2
    simp only [List.cons.injEq] at e
    obtain ⟨rfl, rfl⟩ := e
    simpa [final] using h1
  | x :: y :: l, u :: v :: us, e2, _ =>
    simp only [final, ARel]
    exact ⟨(u :: v :: us).toArray, by simp, by simpa using e2⟩

/-! A function that only reads. -/
def PQ (P : Program) (fn : Func) (w : World) (r : PV) : Exit → Act → World → Prop :=
  bodyPost P fn fun e w' => ∃ u, e = .returned u ∧ Rel (fun _ => False) w' r u ∧ Below w.heap.size w w'
def PFr (P : Program) (fn : Func) (nt : Nat) (w : World) (r : PV) : Fr := ⟨w, fun _ => False, nt, PQ P fn w r, []⟩

def ent : Nat → List PV → List (Nat × AV)
  | _, [] => []
  | i, x :: l => (i, .p x) :: ent (i + 1) l

theorem ent_get : ∀ (i : Nat) (l : List PV) (j : Nat) (av : AV), get (ent i l) j = some av → ∃ x, i ≤ j ∧ l[j - i]? = some x ∧ av = .p x
  | _, [], _, _, h => by cases h
  | i, x :: l, j, av, h => by
    simp only [ent, get_cons] at h
    split at h
    · next e => subst e; obtain rfl := Option.some.inj h; exact ⟨x, Nat.le_refl _, by simp, rfl⟩
    · next e =>
      obtain ⟨y, h1, h2, h3⟩ := ent_get (i + 1) l j av h
      refine ⟨y, by omega, ?_, h3⟩
      rw [show j - i = (j - (i + 1)) + 1 by omega, List.getElem?_cons_succ]; exact h2

theorem Pure.intro {f : FuncId} {fn : Func} {c : Code} {nt : Nat} {args : List PV} {r : PV} {tm : List (Nat × AV)} (hf : P.funcs[f]? = some fn) (hb : fn.body = some c) (hnt : fn.ntmps = nt) (hn : Nat.ble args.length nt = true)
    (he : ent 0 args = tm) (h : ∀ w, AC P (PFr P fn nt w r) [.code c] ⟨tm, []⟩) : Pure P f args r := by
  intro w us hrel
  refine calls_of_wp hf hb ?_
  have hl := relL_length args us hrel
  have hn' := Nat.le_of_ble_eq_true hn
  refine h w _ _ ⟨fun _ => undef, fun _ => [], rfl, ?_, ?_, ?_, ?_, ?_, ?_, Keep.refl _ _, fun _ _ h => by cases h⟩
  · simp only [PFr, Array.size_append, List.size_toArray, Array.size_replicate, hnt, hl]; omega
  · intro i av hg
    rw [← he] at hg
    obtain ⟨x, _, h2, rfl⟩ := ent_get 0 args i av hg
    obtain ⟨u, h3, h4⟩ := relL_getElem args us i x hrel (by simpa using h2)
    refine ⟨u, ?_, by simp only [ARel]; exact Rel.mono ⟨Nat.le_refl _, fun _ _ _ => rfl⟩ (fun k _ ⟨_, _, hg, _⟩ => by cases hg) x u h4⟩
    have hi : i < us.length := (List.getElem?_eq_some_iff.1 h3).1
    rw [Array.getElem?_append_left (by simpa using hi)]
    simpa using h3
  · intro id r hg; cases hg
  · intro id _ r _ _ hg; cases hg
  · intro id r _ hg; cases hg
  · intro id r _ hg; cases hg

theorem Keep.toBelow {w w' : World} (h : Keep (fun _ => False) w w') : Below w.heap.size w w' := ⟨h.os, h.tape, h.output, h.size, fun k hk => h.block k hk (fun h => h)⟩

theorem PQ_of {fn : Func} {nt : Nat} {w0 : World} {r : PV} {avs : List AV} (h : RVs P st fn.results.toList avs) {r' : PV} (hv : st.view (final avs) = some r') (he : r' = r) {a : Act} {w : World} (hr : Rep (PFr P fn nt w0 r) st a w) :
    a.defers = [] ∧ ∃ v, (results fn a.tmps).run P w = .ok v w ∧ ∃ u, Ending.returned v = .returned u ∧ Rel (fun _ => False) w r u ∧ Below w0.heap.size w0 w := by
  obtain ⟨η, φ, hr⟩ := hr
  obtain ⟨u, e1, e2⟩ := results_run h hr
  exact ⟨hr.defers, u, e1, u, rfl, he ▸ view_rel hv hr e2, Keep.toBelow hr.keep⟩

theorem Pure.ret {fn : Func} {nt : Nat} {w0 : World} {r : PV} {l : List ResultVar} {avs : List AV} (hl : fn.results = l.toArray) (h : RVs P st l avs) {r' : PV} (hv : st.view (final avs) = some r') (he : r' = r) :
    AC P (PFr P fn nt w0 r) (.code .ret :: k) st := by
  intro a w hr
  refine wp_ret ?_
  rw [cont_ret]
  exact PQ_of (by rw [hl]; simpa using h) hv he hr

theorem Pure.fin {fn : Func} {nt : Nat} {w0 : World} {r : PV} {l : List ResultVar} {avs : List AV} (hl : fn.results = l.toArray) (h : RVs P st l avs) {r' : PV} (hv : st.view (final avs) = some r') (he : r' = r) :
    AC P (PFr P fn nt w0 r) [] st :=
  fun _ _ hr => PQ_of (by rw [hl]; simpa using h) hv he hr

end

section
variable {P : Program} {fr : Fr} {st : St} {ops : Array Oper} {rest : List Oper} {k : List It} {q : Bool}
variable {d : Option Tmp} {t : TypeId} {pos : String} {aft : Array Edge} {g : Option (Nat × Bool)}

/-- int64 arithmetic that does not leave the range. -/
theorem wrap_id {x : Int} (h1 : -9223372036854775808 ≤ x) (h2 : x ≤ 9223372036854775807) : IntKind.i64.wrap x = x := by rw [IntKind.wrap_i64]; omega
theorem Yld.add {ty ty2 : TypeId} {x y : Operand} {a b : Int} (hx : st.ev x = some (.p (.v (.int .i64 a)))) (hy : st.ev y = some (.p (.v (.int .i64 b)))) (h1 : -9223372036854775808 ≤ a + b) (h2 : a + b ≤ 9223372036854775807) :
    Yld P fr ⟨d, .binOp .add ty x y ty2, t, pos, aft, g⟩ st (.p (.v (.int .i64 (a + b)))) :=
  Yld.int hx hy (by simp only [iop, wrap_id h1 h2])
theorem Yld.sub {ty ty2 : TypeId} {x y : Operand} {a b : Int} (hx : st.ev x = some (.p (.v (.int .i64 a)))) (hy : st.ev y = some (.p (.v (.int .i64 b)))) (h1 : -9223372036854775808 ≤ a - b) (h2 : a - b ≤ 9223372036854775807) :
    Yld P fr ⟨d, .binOp .sub ty x y ty2, t, pos, aft, g⟩ st (.p (.v (.int .i64 (a - b)))) :=
  Yld.int hx hy (by simp only [iop, wrap_id h1 h2])
theorem Yld.mul {ty ty2 : TypeId} {x y : Operand} {a b : Int} (hx : st.ev x = some (.p (.v (.int .i64 a)))) (hy : st.ev y = some (.p (.v (.int .i64 b)))) (h1 : -9223372036854775808 ≤ a * b) (h2 : a * b ≤ 9223372036854775807) :
    Yld P fr ⟨d, .binOp .mul ty x y ty2, t, pos, aft, g⟩ st (.p (.v (.int .i64 (a * b)))) :=
  Yld.int hx hy (by simp only [iop, wrap_id h1 h2])
theorem Yld.negN {ty : TypeId} {x : Operand} {a : Int} (hx : st.ev x = some (.p (.v (.int .i64 a)))) (h1 : -9223372036854775808 ≤ -a) (h2 : -a ≤ 9223372036854775807) :
    Yld P fr ⟨d, .unOp .neg ty x, t, pos, aft, g⟩ st (.p (.v (.int .i64 (-a)))) := by
  have := Yld.neg (P := P) (fr := fr) (d := d) (ty := ty) (t := t) (pos := pos) (aft := aft) (g := g) hx
  rwa [wrap_id h1 h2] at this

theorem run_max2 {k : IntKind} (a b : Int) (w : World) : (Builtin.max2 (.int k a) (.int k b)).run P w = .ok (.int k (max a b)) w := by
  simp only [Builtin.max2]
  by_cases h : b > a
  · rw [if_pos h, Int.max_eq_right (by omega)]; rfl
  · rw [if_neg h, Int.max_eq_left (by omega)]; rfl
theorem run_min2 {k : IntKind} (a b : Int) (w : World) : (Builtin.min2 (.int k a) (.int k b)).run P w = .ok (.int k (min a b)) w := by
  simp only [Builtin.min2]
  by_cases h : b < a
  · rw [if_pos h, Int.min_eq_right (by omega)]; rfl
  · rw [if_neg h, Int.min_eq_left (by omega)]; rfl

theorem Yld.max2 {x y : Operand} {at1 : Array TypeId} {k : IntKind} {a b : Int} (hx : st.ev x = some (.p (.v (.int k a)))) (hy : st.ev y = some (.p (.v (.int k b)))) :
    Yld P fr ⟨d, .call { callee := .builtin .max, args := #[x, y], argTypes := at1 }, t, pos, aft, g⟩ st (.p (.v (.int k (max a b)))) :=
  Yld.of_run fun _ _ A _ hr => ⟨.int k (max a b), fun w' _ => by
    have h1 := hr.ev hx
    have h2 := hr.ev hy
    simp only [ARel, Rel] at h1 h2
    have := run_max2 (P := P) (k := k) a b w'
    simp [execOp, resolve, invoke, builtin, h1, h2, Builtin.max_, this], by simp [ARel, Rel]⟩
theorem Yld.min2 {x y : Operand} {at1 : Array TypeId} {k : IntKind} {a b : Int} (hx : st.ev x = some (.p (.v (.int k a)))) (hy : st.ev y = some (.p (.v (.int k b)))) :
    Yld P fr ⟨d, .call { callee := .builtin .min, args := #[x, y], argTypes := at1 }, t, pos, aft, g⟩ st (.p (.v (.int k (min a b)))) :=
  Yld.of_run fun _ _ A _ hr => ⟨.int k (min a b), fun w' _ => by
    have h1 := hr.ev hx
    have h2 := hr.ev hy
    simp only [ARel, Rel] at h1 h2
    have := run_min2 (P := P) (k := k) a b w'
    simp [execOp, resolve, invoke, builtin, h1, h2, Builtin.min_, this], by simp [ARel, Rel]⟩

/-- A test on a slot's Bool, within a region: the two ways, the slot known. -/
theorem AO.splitAt (j : Nat) (c : Bool) (hc : get st.tm j = some (.p (.v (.bool c)))) (ht : c = true → AO P fr ops rest k q (st.put j (.p (.v (.bool true)))))
    (hf : c = false → AO P fr ops rest k q (st.put j (.p (.v (.bool false))))) : AO P fr ops rest k q st := by
  have key : ∀ η φ a w, RepE fr η φ st a w → RepE fr η φ (st.put j (.p (.v (.bool c)))) a w := by
    intro η φ a w hr
    refine ⟨hr.defers, hr.size, ?_, hr.res, hr.disj, hr.low, hr.lt, hr.keep, hr.pin⟩
    intro i av hg
    simp only [St.put, get_cons] at hg
    split at hg
    · next e => subst e; obtain rfl := Option.some.inj hg; exact hr.slots _ _ hc
    · exact hr.slots i av hg
  have main : AO P fr ops rest k q (st.put j (.p (.v (.bool c)))) := by
    cases c with
    | true => exact ht rfl
    | false => exact hf rfl
  cases q with
  | false => exact fun a w ⟨η, φ, hr⟩ => main a w ⟨η, φ, key η φ a w hr⟩
  | true => exact fun η φ a w hr => main η φ a w (key η φ a w hr)

/-- A guarded operation that is left out: the guard wants true, the slot is false. -/
theorem AO.skipT {o : Oper} {d j dj : Nat} (hd : o.dst = some d) (hg : o.guard = some (j, true)) (hj : (ops[j]?).bind (·.dst) = some dj)
    (hc : get st.tm dj = some (.p (.v (.bool false)))) (hlt : Nat.blt d fr.nt = true) (hk : AO P fr ops rest k q (st.put d (.p (.v undef)))) : AO P fr ops (o :: rest) k q st :=
  AO.skip (c := false) hd hg hj hc hlt hk
theorem AO.skipF {o : Oper} {d j dj : Nat} (hd : o.dst = some d) (hg : o.guard = some (j, false)) (hj : (ops[j]?).bind (·.dst) = some dj)
    (hc : get st.tm dj = some (.p (.v (.bool true)))) (hlt : Nat.blt d fr.nt = true) (hk : AO P fr ops rest k q (st.put d (.p (.v undef)))) : AO P fr ops (o :: rest) k q st :=
  AO.skip (c := true) hd hg hj hc hlt hk

theorem AC.condT {x : Operand} {t e : Code} (hx : st.ev x = some (.p (.v (.bool true)))) (h : AC P fr (.code t :: k) st) : AC P fr (.code (.cond x t e) :: k) st :=
  AC.cond true hx (fun _ => h) (fun h => by cases h)
theorem AC.condF {x : Operand} {t e : Code} (hx : st.ev x = some (.p (.v (.bool false)))) (h : AC P fr (.code e :: k) st) : AC P fr (.code (.cond x t e) :: k) st :=
  AC.cond false hx (fun h => by cases h) (fun _ => h)

/-- The address of an element of a slice that is only read: its row is told. -/
theorem Yld.indexSl {ty : TypeId} {x i : Operand} {rs m : Nat} {e : TypeId} {kk : IntKind} {j : Int} {rows : List (List PV)} {r : List PV} (hs : P.underlying ty = some (.slice e)) (hsz : ∀ w, (sizeOf e).run P w = .ok rs w)
    (hx : st.ev x = some (.p (.sl rs rows))) (hi : st.ev i = some (.p (.v (.int kk j)))) (hr : rows[m]? = some r) (hj : j = m) :
    Yld P fr ⟨d, .indexAddr ty x i, t, pos, aft, g⟩ st (.p (.ptr r)) := by
  have hm : m < rows.length := (List.getElem?_eq_some_iff.1 hr).1
  subst hj
  exact Yld.indexAddr hs hsz hx hi (n := rows.length) rfl (by omega) (by omega) (by simp [St.at, hr])
/-- .. of one's own. -/
theorem Yld.indexVec {ty ty' : TypeId} {x i : Operand} {rs m id : Nat} {e : TypeId} {kk : IntKind} {j : Int} {rows : List (List PV)} (hs : P.underlying ty = some (.slice e)) (hsz : ∀ w, (sizeOf e).run P w = .ok rs w)
    (hx : st.ev x = some (.h id)) (hg : get st.hp id = some (.vec ty' rs rows)) (hi : st.ev i = some (.p (.v (.int kk j)))) (hj : j = m) (hm : m < rows.length) :
    Yld P fr ⟨d, .indexAddr ty x i, t, pos, aft, g⟩ st (.el id rs m 0) := by
  subst hj
  exact Yld.indexAddr hs hsz hx hi (n := rows.length) (by simp [St.rows, hg]) (by omega) (by omega) (by simp [St.at, hg])

theorem behind_el {ty id rs m off : Nat} {rows : List (List PV)} {r : List PV} (hg : get st.hp id = some (.vec ty rs rows)) (hr : rows[m]? = some r) : st.behind (.el id rs m off) = some ((r.drop off).map .p) := by
  have : Nat.beq rs rs = true := by simp
  simp only [St.behind, hg, this, hr]
theorem store_el {ty id rs m off : Nat} {rows : List (List PV)} {r : List PV} {vs : List AV} {xs : List PV} (hg : get st.hp id = some (.vec ty rs rows)) (hr : rows[m]? = some r) (hp : pvs vs = some xs) (hb : Nat.ble (off + vs.length) rs = true) :
    st.store vs (.el id rs m off) = some (id, .vec ty rs (rows.set m (spl r off xs))) := by
  have : Nat.beq rs rs = true := by simp
  simp only [St.store, hg, this, hr, hp, hb]

theorem map_row {α : Type} {enc : α → List PV} {xs : List α} {k : Nat} {x : α} (h : xs[k]? = some x) : (xs.map enc)[k]? = some (enc x) := by simp [h]

end
end Go.V
/- The calculus' rules: a slice that a function makes and hands back. -/
namespace Go.V
open Go Go.RowKit

/-- A function that only reads and hands back a slice of its own make, named 0 in the result. -/
def Mk (P : Program) (f : FuncId) (args : List PV) (r : AV) (ty : TypeId) (rs : Nat) (rows : List (List PV)) : Prop :=
  ∀ (w : World) (us : List Value), RelL (fun _ => False) w args us →
    Calls P f us.toArray w fun e w' => ∃ u hd F, e = .returned u ∧ RRes (fun _ => hd) (fun k => k ∈ F) w' hd F (.vec ty rs rows) ∧ ARel (fun _ => hd) (fun k => k ∈ F) w' r u ∧
      (∀ k ∈ F, w.heap.size ≤ k ∧ k < w'.heap.size) ∧ Below w.heap.size w w'

mutual
def AV.ren (id : Nat) : AV → AV
  | .h _ => .h id
  | .el _ rs row off => .el id rs row off
  | .agg cs => .agg (AV.renL id cs)
  | .tup cs => .tup (AV.renL id cs)
  | .clo f cs => .clo f (AV.renL id cs)
  | a => a
def AV.renL (id : Nat) : List AV → List AV
  | [] => []
  | c :: cs => c.ren id :: AV.renL id cs
end

mutual
def AV.Flat : AV → Prop
  | .p x => x.Flat
  | .agg cs => AV.FlatL cs
  | .tup cs => AV.FlatL cs
  | .clo _ cs => AV.FlatL cs
  | _ => True
def AV.FlatL : List AV → Prop
  | [] => True
  | c :: cs => c.Flat ∧ AV.FlatL cs
end

section
variable {η : Nat → Value} {S S' : Nat → Prop} {w w' : World} {hd : Value} {id : Nat}
mutual
theorem ARel.ren (hη : η id = hd) : ∀ (a : AV) (u : Value), a.Flat → ARel (fun _ => hd) S w a u → ARel η S' w' (a.ren id) u
  | .p x, u, hf, h => by simp only [ARel, AV.ren, AV.Flat] at h hf ⊢; exact Rel.flat x u hf h
  | .h i, u, _, h => by simp only [ARel, AV.ren] at h ⊢; rw [hη]; exact h
  | .el i rs row off, u, _, h => by simp only [ARel, AV.ren] at h ⊢; rw [hη]; exact h
  | .agg cs, u, hf, h => by
    simp only [ARel, AV.ren, AV.Flat] at h hf ⊢
    obtain ⟨us, h1, h2⟩ := h
    exact ⟨us, h1, ARelL.ren hη cs us.toList hf h2⟩
  | .tup cs, u, hf, h => by
    simp only [ARel, AV.ren, AV.Flat] at h hf ⊢
    obtain ⟨us, h1, h2⟩ := h
    exact ⟨us, h1, ARelL.ren hη cs us.toList hf h2⟩
  | .clo f cs, u, hf, h => by
    simp only [ARel, AV.ren, AV.Flat] at h hf ⊢
    obtain ⟨us, h1, h2⟩ := h
    exact ⟨us, h1, ARelL.ren hη cs us.toList hf h2⟩
  | .junk, _, _, _ => by simp only [ARel, AV.ren]
theorem ARelL.ren (hη : η id = hd) : ∀ (cs : List AV) (us : List Value), AV.FlatL cs → ARelL (fun _ => hd) S w cs us → ARelL η S' w' (AV.renL id cs) us
  | [], _, _, h => by simpa only [ARelL, AV.renL] using h
  | c :: cs, us, hf, h => by
    simp only [ARelL, AV.renL, AV.FlatL] at h hf ⊢
    obtain ⟨u, us', h1, h2, h3⟩ := h
    exact ⟨u, us', h1, ARel.ren hη c u hf.1 h2, ARelL.ren hη cs us' hf.2 h3⟩
end

theorem flatten_flat : ∀ {rows : List (List PV)}, (∀ r ∈ rows, PV.FlatL r) → PV.FlatL rows.flatten
  | [], _ => by simp [PV.FlatL]
  | r :: rows, h => by
    have app : ∀ (a b : List PV), PV.FlatL a → PV.FlatL b → PV.FlatL (a ++ b) := by
      intro a
      induction a with
      | nil => intro b _ h; exact h
      | cons c a ih => intro b h1 h2; simp only [List.cons_append, PV.FlatL] at h1 ⊢; exact ⟨h1.1, ih b h1.2 h2⟩
    rw [List.flatten_cons]
    exact app _ _ (h r (by simp)) (flatten_flat (fun q hq => h q (by simp [hq])))

theorem vec_flat {η η' : Nat → Value} {F : List Nat} {ty rs : Nat} {rows : List (List PV)} (hf : ∀ r ∈ rows, PV.FlatL r) (h : RRes η S w hd F (.vec ty rs rows)) : RRes η' S' w hd F (.vec ty rs rows) := by
  obtain ⟨xs, h1, h2, h3, h4⟩ := h
  exact ⟨xs, RelL.flat _ _ (flatten_flat hf) h1, h2, h3, h4⟩
end

section
variable {P : Program} {fr : Fr} {st : St} {ops : Array Oper} {rest : List Oper} {k : List It}
variable {d : Nat} {t : TypeId} {pos : String} {aft : Array Edge}

/-- A call of such a function. -/
theorem AO.callMk (id : Nat) {x : Operand} {args : List Operand} {argTypes : Array TypeId} {f : FuncId} {cv : AV} {avs caps : List AV} {pvl pvl2 : List PV} {r : AV} {ty rs : Nat} {rows : List (List PV)} (hx : st.ev x = some cv) (hcv : cv.fn = some (f, caps)) (hf : Enters P f)
    (ha : st.evL args = some avs) (hv : st.viewL avs = some pvl) (hv2 : st.viewL caps = some pvl2) (hp : Mk P f (pvl ++ pvl2) r ty rs rows) (hfl : r.Flat) (hrows : ∀ r ∈ rows, PV.FlatL r)
    (hfr : st.fresh id = true) (hlt : Nat.blt d fr.nt = true)
    (hk : AO P fr ops rest k false ⟨(d, r.ren id) :: st.tm, (id, .vec ty rs rows) :: st.hp⟩) (hpin : get fr.pin id = none := by rfl) :
    AO P fr ops (⟨some d, .call { callee := .value x, args := args.toArray, argTypes := argTypes }, t, pos, aft, none⟩ :: rest) k false st := by
  intro a w ⟨η, φ, hr⟩
  obtain ⟨us, e1, e2⟩ := fn_rel hcv (hr.ev hx)
  unfold wpList
  rw [if_pos (by exact wanted_none rfl _)]
  refine .inl ?_
  unfold Oper.wp
  rw [exec_call hf e1]
  simp only [Oper.upon]
  have h1 := viewL_rel hr avs pvl _ hv (evL_rel hr args avs ha)
  have h2 := viewL_rel hr caps pvl2 _ hv2 e2
  refine (hp w _ (relL_append _ _ _ _ h1 h2)).mono fun e w' ⟨u, hd, F, g1, g2, g3, g4, g5⟩ => ?_
  subst g1
  simp only
  have hadd := hr.add g5 id hfr (.vec ty rs rows) hd F g4 (vec_flat hrows g2) hpin
  refine hk _ _ ⟨_, _, hadd.put hlt (av := r.ren id) ?_⟩
  exact ARel.ren (by rw [upd_self]) r u hfl g3

/-- A nil slice in a slot is a slice of one's own, of no elements. -/
theorem RepE.nilVec {η : Nat → Value} {φ : Nat → List Nat} {a : Act} {w : World} (hr : RepE fr η φ st a w) (d id : Nat) (ty rs : Nat) (hg : get st.tm d = some (.p (.v (.slice none 0 0)))) (hfr : st.fresh id = true) (hpin : get fr.pin id = none := by rfl) :
    Rep fr ⟨(d, .h id) :: st.tm, (id, .vec ty rs []) :: st.hp⟩ a w := by
  have hadd := hr.add (Below.refl _ _) id hfr (.vec ty rs []) (.slice none 0 0) [] (by simp) ⟨[], by simp [RelL], by simp, World.ownsRow_nil w 0 ty rs, rfl⟩ hpin
  refine ⟨_, _, hadd.defers, hadd.size, ?_, hadd.res, hadd.disj, hadd.low, hadd.lt, hadd.keep, hadd.pin⟩
  intro i av h
  simp only [get_cons] at h
  split at h
  · next e =>
    subst e
    obtain rfl := Option.some.inj h
    obtain ⟨u, e1, e2⟩ := hr.slots _ _ hg
    simp only [ARel, Rel] at e2
    exact ⟨u, e1, by simp only [ARel]; rw [upd_self]; exact e2⟩
  · exact hadd.slots i av h
theorem AC.nilVec (d id : Nat) (ty rs : Nat) (hg : get st.tm d = some (.p (.v (.slice none 0 0)))) (hfr : st.fresh id = true) (hk : AC P fr k ⟨(d, .h id) :: st.tm, (id, .vec ty rs []) :: st.hp⟩) (hpin : get fr.pin id = none := by rfl) : AC P fr k st :=
  fun a w ⟨_, _, hr⟩ => hk a w (hr.nilVec d id ty rs hg hfr hpin)
theorem AO.nilVec (d id : Nat) (ty rs : Nat) (hg : get st.tm d = some (.p (.v (.slice none 0 0)))) (hfr : st.fresh id = true) (hk : AO P fr ops rest k false ⟨(d, .h id) :: st.tm, (id, .vec ty rs []) :: st.hp⟩) (hpin : get fr.pin id = none := by rfl) : AO P fr ops rest k false st :=
  fun a w ⟨_, _, hr⟩ => hk a w (hr.nilVec d id ty rs hg hfr hpin)

/-! The proof of such a contract. -/
def MQ (P : Program) (fn : Func) (w : World) (r : AV) (ty rs : Nat) (rows : List (List PV)) : Exit → Act → World → Prop :=
  bodyPost P fn fun e w' => ∃ u hd F, e = .returned u ∧ RRes (fun _ => hd) (fun k => k ∈ F) w' hd F (.vec ty rs rows) ∧ ARel (fun _ => hd) (fun k => k ∈ F) w' r u ∧
      (∀ k ∈ F, w.heap.size ≤ k ∧ k < w'.heap.size) ∧ Below w.heap.size w w'
def MFr (P : Program) (fn : Func) (nt : Nat) (w : World) (r : AV) (ty rs : Nat) (rows : List (List PV)) : Fr := ⟨w, fun _ => False, nt, MQ P fn w r ty rs rows, []⟩

theorem ent_rep {fr : Fr} {us : List Value} {args : List PV} {tm : List (Nat × AV)} {nt ntmps : Nat} {w : World} (hfr : fr.w0 = w) (hS0 : fr.S0 = fun _ => False) (hn : fr.nt = nt) (hpn : fr.pin = []) (hnt : ntmps = nt) (hle : Nat.ble args.length nt = true)
    (hrel : RelL (fun _ => False) w args us) (he : ent 0 args = tm) : Rep fr ⟨tm, []⟩ { tmps := us.toArray ++ Array.replicate (ntmps - us.toArray.size) undef, defers := [] } w := by
  have hl := relL_length args us hrel
  have hn' := Nat.le_of_ble_eq_true hle
  refine ⟨fun _ => undef, fun _ => [], rfl, ?_, ?_, ?_, ?_, ?_, ?_, ?_, ?_⟩
  · simp only [Array.size_append, List.size_toArray, Array.size_replicate, hnt, hl, hn]; omega
  · intro i av hg
    rw [← he] at hg
    obtain ⟨x, _, h2, rfl⟩ := ent_get 0 args i av hg
    obtain ⟨u, h3, h4⟩ := relL_getElem args us i x hrel (by simpa using h2)
    refine ⟨u, ?_, by simp only [ARel]; exact Rel.mono ⟨Nat.le_refl _, fun _ _ _ => rfl⟩ (fun k _ ⟨_, _, hg, _⟩ => by cases hg) x u h4⟩
    have hi : i < us.length := (List.getElem?_eq_some_iff.1 h3).1
    rw [Array.getElem?_append_left (by simpa using hi)]
    simpa using h3
  · intro id r hg; cases hg
  · intro id _ r _ _ hg; cases hg
  · intro id r _ hg; cases hg
  · intro id r _ hg; cases hg
  · rw [hfr, hS0]; exact Keep.refl _ _
  · rw [hpn]; intro _ _ h; cases h

theorem Mk.intro {f : FuncId} {fn : Func} {c : Code} {nt : Nat} {args : List PV} {r : AV} {ty rs : Nat} {rows : List (List PV)} {tm : List (Nat × AV)} (hf : P.funcs[f]? = some fn) (hb : fn.body = some c) (hnt : fn.ntmps = nt) (hn : Nat.ble args.length nt = true)
    (he : ent 0 args = tm) (h : ∀ w, AC P (MFr P fn nt w r ty rs rows) [.code c] ⟨tm, []⟩) : Mk P f args r ty rs rows := by
  intro w us hrel
  exact calls_of_wp hf hb (h w _ _ (ent_rep (fr := MFr P fn nt w r ty rs rows) rfl rfl rfl rfl hnt hn hrel he))

mutual
def AV.only (id : Nat) : AV → Bool
  | .h i => Nat.beq i id
  | .el i _ _ _ => Nat.beq i id
  | .agg cs => AV.onlyL id cs
  | .tup cs => AV.onlyL id cs
  | .clo _ cs => AV.onlyL id cs
  | _ => true
def AV.onlyL (id : Nat) : List AV → Bool
  | [] => true
  | c :: cs => match c.only id with
    | true => AV.onlyL id cs
    | false => false
end
mutual
theorem ARel.unren {η : Nat → Value} {S S' : Nat → Prop} {w : World} {id : Nat} (hS : ∀ k, S' k → S k) : ∀ (a : AV) (u : Value), ARel η S w (a.ren id) u → ARel (fun _ => η id) S' w a u
  | .p x, u, h => by simp only [ARel, AV.ren] at h ⊢; exact Rel.mono ⟨Nat.le_refl _, fun _ _ _ => rfl⟩ (fun k _ h => hS k h) x u h
  | .h i, u, h => by simp only [ARel, AV.ren] at h ⊢; exact h
  | .el i rs row off, u, h => by simp only [ARel, AV.ren] at h ⊢; exact h
  | .agg cs, u, h => by
    simp only [ARel, AV.ren] at h ⊢
    obtain ⟨us, h1, h2⟩ := h
    exact ⟨us, h1, ARelL.unren hS cs us.toList h2⟩
  | .tup cs, u, h => by
    simp only [ARel, AV.ren] at h ⊢
    obtain ⟨us, h1, h2⟩ := h
    exact ⟨us, h1, ARelL.unren hS cs us.toList h2⟩
  | .clo f cs, u, h => by
    simp only [ARel, AV.ren] at h ⊢
    obtain ⟨us, h1, h2⟩ := h
    exact ⟨us, h1, ARelL.unren hS cs us.toList h2⟩
  | .junk, _, _ => by simp only [ARel]
theorem ARelL.unren {η : Nat → Value} {S S' : Nat → Prop} {w : World} {id : Nat} (hS : ∀ k, S' k → S k) : ∀ (cs : List AV) (us : List Value), ARelL η S w (AV.renL id cs) us → ARelL (fun _ => η id) S' w cs us
  | [], _, h => by simpa only [ARelL, AV.renL] using h
  | c :: cs, us, h => by
    simp only [ARelL, AV.renL] at h ⊢
    obtain ⟨u, us', h1, h2, h3⟩ := h
    exact ⟨u, us', h1, ARel.unren hS c u h2, ARelL.unren hS cs us' h3⟩
end

theorem MQ_of {fn : Func} {nt : Nat} {w0 : World} {r : AV} {ty rs : Nat} {rows rows' : List (List PV)} (id : Nat) {avs : List AV} (h : RVs P st fn.results.toList avs) (hv : final avs = r.ren id) (hg : get st.hp id = some (.vec ty rs rows')) (he : rows' = rows)
    {a : Act} {w : World} (hr : Rep (MFr P fn nt w0 r ty rs rows) st a w) : bodyPost P fn (fun e w' => ∃ u hd F, e = .returned u ∧ RRes (fun _ => hd) (fun k => k ∈ F) w' hd F (.vec ty rs rows) ∧ ARel (fun _ => hd) (fun k => k ∈ F) w' r u ∧
      (∀ k ∈ F, w0.heap.size ≤ k ∧ k < w'.heap.size) ∧ Below w0.heap.size w0 w') .ret a w := by
  obtain ⟨η, φ, hr⟩ := hr
  subst he
  obtain ⟨u, e1, e2⟩ := results_run h hr
  rw [hv] at e2
  have hS : ∀ k, k ∈ φ id → SOf φ st.hp k := fun k hk => ⟨id, _, hg, hk⟩
  refine ⟨hr.defers, u, e1, u, η id, φ id, rfl, ?_, ARel.unren hS r u e2, fun k hk => ⟨?_, hr.lt id _ k hg hk⟩, Keep.toBelow hr.keep⟩
  · exact RRes.mono ⟨Nat.le_refl _, fun _ _ _ => rfl⟩ (fun k _ h => hS k h) (fun _ _ => rfl) _ (fun i hi => by simp [Res.names] at hi) (hr.res id _ hg)
  · rcases hr.low id _ k hg hk with h | h
    · exact h
    · exact h.elim

theorem Mk.ret {fn : Func} {nt : Nat} {w0 : World} {r : AV} {ty rs : Nat} {rows rows' : List (List PV)} (id : Nat) {l : List ResultVar} {avs : List AV} (hl : fn.results = l.toArray) (h : RVs P st l avs) (hv : final avs = r.ren id) (hg : get st.hp id = some (.vec ty rs rows')) (he : rows' = rows) :
    AC P (MFr P fn nt w0 r ty rs rows) (.code .ret :: k) st := by
  intro a w hr
  refine wp_ret ?_
  rw [cont_ret]
  exact MQ_of id (by rw [hl]; simpa using h) hv hg he hr

end
end Go.V
/- The calculus' rules: division, any operation of two values, function values, struct literals and struct comparison. -/
namespace Go.V
open Go Go.RowKit

section
variable {P : Program} {fr : Fr} {st : St} {ops : Array Oper} {rest : List Oper} {k : List It} {q : Bool}
variable {d : Option Tmp} {t : TypeId} {pos : String} {aft : Array Edge} {g : Option (Nat × Bool)}

theorem tdiv_range {a b : Int} (h1 : -9223372036854775808 ≤ a) (h2 : a ≤ 9223372036854775807) (hb : 0 < b) : -9223372036854775808 ≤ a.tdiv b ∧ a.tdiv b ≤ 9223372036854775807 := by
  by_cases h : 0 ≤ a
  · rw [Int.tdiv_eq_ediv_of_nonneg h]
    have h3 : 0 ≤ a / b := Int.ediv_nonneg h (by omega)
    have h4 : a / b ≤ a := Int.ediv_le_self b h
    omega
  · have e : a.tdiv b = -((-a) / b) := by
      rw [← Int.tdiv_eq_ediv_of_nonneg (by omega : 0 ≤ -a), Int.neg_tdiv, Int.neg_neg]
    rw [e]
    have h3 : 0 ≤ (-a) / b := Int.ediv_nonneg (by omega) (by omega)
    have h4 : (-a) / b ≤ -a := Int.ediv_le_self b (by omega)
    omega

theorem Yld.quoP {ty ty2 : TypeId} {x y : Operand} {a b : Int} (hx : st.ev x = some (.p (.v (.int .i64 a)))) (hy : st.ev y = some (.p (.v (.int .i64 b))))
    (hb : 0 < b) (h1 : -9223372036854775808 ≤ a) (h2 : a ≤ 9223372036854775807) : Yld P fr ⟨d, .binOp .quo ty x y ty2, t, pos, aft, g⟩ st (.p (.v (.int .i64 (a.tdiv b)))) := by
  have h := Yld.quo (P := P) (fr := fr) (d := d) (ty := ty) (ty2 := ty2) (t := t) (pos := pos) (aft := aft) (g := g) hx hy (by omega : b ≠ 0)
  have hr := tdiv_range h1 h2 hb
  rwa [wrap_id hr.1 hr.2] at h

/-- Any operation of two plain values. -/
theorem Yld.binV {op : BinOp} {ty ty2 : TypeId} {x y : Operand} {av bv : AV} {A B : PV} {a b u : Value} (hx : st.ev x = some av) (hy : st.ev y = some bv) (va : st.view av = some A) (vb : st.view bv = some B) (ha : conc A = some a) (hb : conc B = some b)
    (h : ∀ w : World, (do eqGuard op ty x y a b; binOp op ty a b : Sem Value).run P w = .ok u w) : Yld P fr ⟨d, .binOp op ty x y ty2, t, pos, aft, g⟩ st (.p (.v u)) :=
  Yld.of_run fun _ _ A' _ hr => ⟨u, fun w' _ => by
    have h1 := view_rel va hr (hr.ev hx)
    have h2 := view_rel vb hr (hr.ev hy)
    rw [(conc_spec A a ha _)] at h1
    rw [(conc_spec B b hb _)] at h2
    simp only [execOp, h1, h2]
    rw [Sem.run_bind, h w']
    rfl, by simp [ARel, Rel]⟩
/-- Any conversion of a plain value. -/
theorem Yld.convV {src dst : TypeId} {x : Operand} {av : AV} {A : PV} {a u : Value} (hx : st.ev x = some av) (va : st.view av = some A) (ha : conc A = some a) (h : ∀ w : World, (convert src dst a).run P w = .ok u w) :
    Yld P fr ⟨d, .convert src dst x, t, pos, aft, g⟩ st (.p (.v u)) :=
  Yld.of_run fun _ _ A' _ hr => ⟨u, fun w' _ => by
    have h1 := view_rel va hr (hr.ev hx)
    rw [(conc_spec A a ha _)] at h1
    simp [execOp, h1, h w'], by simp [ARel, Rel]⟩

/-- A function value with what it captures. -/
theorem Yld.makeFunc {f : FuncId} {caps : List Operand} {avs : List AV} (hc : st.evL caps = some avs) :
    Yld P fr ⟨d, .makeFunc (.func f) #[] caps.toArray, t, pos, aft, g⟩ st (.clo f avs) :=
  Yld.of_run fun _ _ A _ hr => ⟨.func (.func f) #[] (caps.map A.eval).toArray, fun w' _ => by simp [execOp, Instr.makeFunc], by
    simp only [ARel]; exact ⟨_, rfl, by simpa using evL_rel hr caps avs hc⟩⟩

/-- A struct literal of plain values: its cells, told by a run. -/
def partsV (st : St) : List (Nat × Operand) → Option (List (Nat × Value))
  | [] => some []
  | (i, x) :: l => match st.ev x with
    | some av => match st.view1 av with
      | some A => match conc A with
        | some a => match partsV st l with
          | some r => some ((i, a) :: r)
          | none => none
        | none => none
      | none => none
    | none => none
theorem partsV_rel {η : Nat → Value} {φ : Nat → List Nat} {a : Act} {w : World} (hr : RepE fr η φ st a w) : ∀ (l : List (Nat × Operand)) (r : List (Nat × Value)), partsV st l = some r → l.map (fun (i, x) => (i, a.eval x)) = r
  | [], r, h => by simp only [partsV, Option.some.injEq] at h; subst h; rfl
  | (i, x) :: l, r, h => by
    simp only [partsV] at h
    split at h
    · next av hav =>
      split at h
      · next A hA =>
        split at h
        · next v hv =>
          split at h
          · next r' hr' =>
            simp only [Option.some.injEq] at h; subst h
            have h1 := view1_rel hA hr (hr.ev hav)
            rw [(conc_spec A v hv _)] at h1
            simp only [List.map_cons, h1, partsV_rel hr l r' hr']
          · cases h
        · cases h
      · cases h
    · cases h
theorem Yld.build {ty : TypeId} {l : List (Nat × Operand)} {vs : List (Nat × Value)} {cs : List PV} {us : List Value} (hp : partsV st l = some vs) (hc : concL cs = some us) (h : ∀ w : World, (Instr.build ty vs.toArray).run P w = .ok (.agg us.toArray) w) :
    Yld P fr ⟨d, .build ty l.toArray, t, pos, aft, g⟩ st (.p (.agg cs)) :=
  Yld.of_run fun _ _ A _ hr => ⟨.agg us.toArray, fun w' _ => by
    have e : l.toArray.map (fun (i, x) => (i, A.eval x)) = vs.toArray := by rw [← partsV_rel hr l vs hp]; simp
    simp only [execOp, e]
    rw [Sem.run_bind, h w']
    rfl, by simp only [ARel, Rel]; exact ⟨us.toArray, rfl, (concL_spec cs us hc us).2 rfl⟩⟩


/-- Two results or more. -/
theorem PQ_ofT {fn : Func} {nt : Nat} {w0 : World} {r : PV} {x y : AV} {avs : List AV} (h : RVs P st fn.results.toList (x :: y :: avs)) {pvl : List PV} (hv : st.viewL (x :: y :: avs) = some pvl) (he : PV.tup pvl = r) {a : Act} {w : World} (hr : Rep (PFr P fn nt w0 r) st a w) :
    a.defers = [] ∧ ∃ v, (results fn a.tmps).run P w = .ok v w ∧ ∃ u, Ending.returned v = .returned u ∧ Rel (fun _ => False) w r u ∧ Below w0.heap.size w0 w := by
  obtain ⟨η, φ, hr⟩ := hr
  obtain ⟨u, e1, e2⟩ := results_run h hr
  refine ⟨hr.defers, u, e1, u, rfl, he ▸ ?_, Keep.toBelow hr.keep⟩
  simp only [final, ARel] at e2
  obtain ⟨us, e3, e4⟩ := e2
  simp only [Rel]
  exact ⟨us, e3, viewL_rel hr _ _ _ hv e4⟩
theorem Pure.retT {fn : Func} {nt : Nat} {w0 : World} {r : PV} {l : List ResultVar} {x y : AV} {avs : List AV} {kk : List It} (hl : fn.results = l.toArray) (h : RVs P st l (x :: y :: avs)) {pvl : List PV} (hv : st.viewL (x :: y :: avs) = some pvl) (he : PV.tup pvl = r) :
    AC P (PFr P fn nt w0 r) (.code .ret :: kk) st := by
  intro a w hr
  refine wp_ret ?_
  rw [cont_ret]
  exact PQ_ofT (by rw [hl]; simpa using h) hv he hr
theorem Pure.finT {fn : Func} {nt : Nat} {w0 : World} {r : PV} {l : List ResultVar} {x y : AV} {avs : List AV} (hl : fn.results = l.toArray) (h : RVs P st l (x :: y :: avs)) {pvl : List PV} (hv : st.viewL (x :: y :: avs) = some pvl) (he : PV.tup pvl = r) :
    AC P (PFr P fn nt w0 r) [] st :=
  fun _ _ hr => PQ_ofT (by rw [hl]; simpa using h) hv he hr

end
end Go.V
