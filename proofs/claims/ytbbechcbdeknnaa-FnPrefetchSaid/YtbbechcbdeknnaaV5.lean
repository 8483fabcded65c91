/- The calculus' rules for stores, make, append, literals. -/
import Derived.Test.YtbbechcbdeknnaaV4
set_option linter.all false
namespace Go.V
open Go Go.RowKit

/-- Some values in the place of those from 'off' on. -/
def spl {α : Type} (l : List α) (off : Nat) (vs : List α) : List α := l.take off ++ (vs ++ l.drop (off + vs.length))

theorem spl_length {α : Type} (l : List α) (off : Nat) (vs : List α) (h : off + vs.length ≤ l.length) : (spl l off vs).length = l.length := by
  simp [spl]; omega

def setR (id : Nat) (r' : Res) : List (Nat × Res) → List (Nat × Res)
  | [] => []
  | (j, r) :: l => match Nat.beq j id with
    | true => (j, r') :: l
    | false => (j, r) :: setR id r' l
theorem get_setR (id : Nat) (r' : Res) : ∀ (l : List (Nat × Res)) (r : Res), get l id = some r → ∀ j, get (setR id r' l) j = if j = id then some r' else get l j
  | [], _, h, _ => by cases h
  | (i, r0) :: l, r, h, j => by
    simp only [setR]
    rw [get_cons] at h
    by_cases hi : i = id
    · subst hi
      have : Nat.beq i i = true := by simp
      simp only [this, get_cons]
      by_cases hj : j = i
      · subst hj; simp
      · rw [if_neg (fun e => hj e.symm), if_neg hj, if_neg (fun e => hj e.symm)]
    · rw [if_neg hi] at h
      simp only [beq_false hi, get_cons]
      by_cases hj : i = j
      · subst hj; simp [hi]
      · rw [if_neg hj, if_neg hj]; exact get_setR id r' l r h j

section
variable {P : Program} {fr : Fr} {st : St}

/-- What is owned under a name turns; its handle may turn, if nothing names it. -/
theorem RepE.change {η : Nat → Value} {φ : Nat → List Nat} {a : Act} {w w' : World} (hr : RepE fr η φ st a w) (id : Nat) {r0 : Res} (hg0 : get st.hp id = some r0) (r : Res) (hd : Value) (F : List Nat)
    (hos : w'.os = w.os) (htape : w'.tape = w.tape) (hout : w'.output = w.output) (hsize : w.heap.size ≤ w'.heap.size)
    (hblk : ∀ k, k < w.heap.size → k ∉ φ id → w'.heap[k]? = w.heap[k]?)
    (hF : ∀ k ∈ F, (k ∈ φ id ∨ w.heap.size ≤ k) ∧ k < w'.heap.size)
    (hn : hd = η id ∨ (freshT id st.tm = true ∧ (∀ j r, j ≠ id → get st.hp j = some r → r.names id = false) ∧ get fr.pin id = none))
    (hres : RRes (upd η id hd) (SOf (upd φ id F) (setR id r st.hp)) w' hd F r) :
    RepE fr (upd η id hd) (upd φ id F) ⟨st.tm, setR id r st.hp⟩ a w' := by
  have hgs := get_setR id r st.hp r0 hg0
  have hSame : Same (SOf φ st.hp) w w' := ⟨hsize, fun k hk hs => hblk k hk (fun h => hs ⟨id, r0, hg0, h⟩)⟩
  have hS : ∀ k, k < w.heap.size → SOf (upd φ id F) (setR id r st.hp) k → SOf φ st.hp k := by
    rintro k hk ⟨i, r', hg, hm⟩
    rw [hgs] at hg
    by_cases e : i = id
    · subst e; rw [upd_self] at hm
      rcases (hF k hm).1 with h | h
      · exact ⟨i, r0, hg0, h⟩
      · omega
    · rw [if_neg e] at hg; rw [upd_ne _ _ e] at hm; exact ⟨i, r', hg, hm⟩
  refine ⟨hr.defers, hr.size, ?_, ?_, ?_, ?_, ?_, ?_, fun i v hi => ?_⟩
  rotate_right
  · by_cases e : i = id
    · subst e; rw [upd_self]
      rcases hn with hn | ⟨_, _, hn⟩
      · rw [hn]; exact hr.pin i v hi
      · rw [hn] at hi; cases hi
    · rw [upd_ne _ _ e]; exact hr.pin i v hi
  · intro i av hg
    obtain ⟨u, h1, h2⟩ := hr.slots i av hg
    refine ⟨u, h1, ARel.mono hSame hS av u (fun j hj => ?_) h2⟩
    by_cases e : j = id
    · subst e
      rw [upd_self]
      rcases hn with hn | ⟨hn, _⟩
      · exact hn
      · rw [freshT_spec hn i av hg] at hj; cases hj
    · exact upd_ne _ _ e
  · intro i r' hg
    simp only [hgs] at hg
    by_cases e : i = id
    · subst e
      rw [if_pos rfl] at hg
      obtain rfl := Option.some.inj hg
      rw [upd_self, upd_self]; exact hres
    · rw [if_neg e] at hg
      rw [upd_ne _ _ e, upd_ne _ _ e]
      refine RRes.mono hSame hS (fun k hk => hblk k (hr.lt i r' k hg hk) (fun h => e (hr.disj i id r' r0 k hg hg0 hk h))) r' (fun j hj => ?_) (hr.res i r' hg)
      by_cases e2 : j = id
      · subst e2
        rw [upd_self]
        rcases hn with hn | ⟨_, hn, _⟩
        · exact hn
        · rw [hn i r' e hg] at hj; cases hj
      · exact upd_ne _ _ e2
  · intro i j r1 r2 k h1 h2 h3 h4
    simp only [hgs] at h1 h2
    by_cases e : i = id
    · by_cases e2 : j = id
      · rw [e, e2]
      · exfalso
        subst e
        rw [upd_self] at h3
        rw [upd_ne _ _ e2] at h4
        rw [if_neg e2] at h2
        rcases (hF k h3).1 with h | h
        · exact e2 (hr.disj j i r2 r0 k h2 hg0 h4 h)
        · have := hr.lt j r2 k h2 h4; omega
    · rw [upd_ne _ _ e] at h3
      rw [if_neg e] at h1
      by_cases e2 : j = id
      · exfalso
        subst e2
        rw [upd_self] at h4
        rcases (hF k h4).1 with h | h
        · exact e (hr.disj i j r1 r0 k h1 hg0 h3 h)
        · have := hr.lt i r1 k h1 h3; omega
      · rw [upd_ne _ _ e2] at h4
        rw [if_neg e2] at h2
        exact hr.disj i j r1 r2 k h1 h2 h3 h4
  · intro i r' k hg hk
    simp only [hgs] at hg
    by_cases e : i = id
    · subst e
      rw [upd_self] at hk
      rcases (hF k hk).1 with h | h
      · exact hr.low i r0 k hg0 h
      · exact .inl (Nat.le_trans hr.keep.size h)
    · rw [if_neg e] at hg; rw [upd_ne _ _ e] at hk; exact hr.low i r' k hg hk
  · intro i r' k hg hk
    simp only [hgs] at hg
    by_cases e : i = id
    · subst e; rw [upd_self] at hk; exact (hF k hk).2
    · rw [if_neg e] at hg; rw [upd_ne _ _ e] at hk; exact Nat.lt_of_lt_of_le (hr.lt i r' k hg hk) hsize
  · refine ⟨hos.trans hr.keep.os, htape.trans hr.keep.tape, hout.trans hr.keep.output, Nat.le_trans hr.keep.size hsize, fun k hk hs => ?_⟩
    refine (hblk k (Nat.lt_of_lt_of_le hk hr.keep.size) (fun h => ?_)).trans (hr.keep.block k hk hs)
    rcases hr.low id r0 k hg0 h with h | h
    · omega
    · exact hs h

/-! Forgetting a name. -/
def AV.drop (id : Nat) (a : AV) : AV := match a.names id with
  | true => .junk
  | false => a
def dropT (id : Nat) : List (Nat × AV) → List (Nat × AV)
  | [] => []
  | (i, a) :: l => (i, a.drop id) :: dropT id l
def dropL (id : Nat) : List AV → List AV
  | [] => []
  | a :: l => a.drop id :: dropL id l
def dropH (id : Nat) : List (Nat × Res) → List (Nat × Res)
  | [] => []
  | (j, .box ty cs) :: l => (j, .box ty (dropL id cs)) :: dropH id l
  | (j, .vec ty rs rows) :: l => (j, .vec ty rs rows) :: dropH id l
  | (j, .cust C) :: l => (j, .cust C) :: dropH id l

theorem AV.drop_names (id : Nat) (a : AV) : (a.drop id).names id = false := by
  unfold AV.drop; split
  · rfl
  · next h => exact h
theorem freshT_drop (id : Nat) : ∀ l, freshT id (dropT id l) = true
  | [] => rfl
  | (i, a) :: l => by simp only [dropT, freshT, AV.drop_names]; exact freshT_drop id l
theorem dropL_names (id : Nat) : ∀ l, AV.namesL id (dropL id l) = false
  | [] => rfl
  | a :: l => by simp [dropL, AV.namesL, AV.drop_names, dropL_names id l]
theorem get_dropT (id : Nat) : ∀ l i, get (dropT id l) i = (get l i).map (AV.drop id)
  | [], _ => rfl
  | (j, a) :: l, i => by
    simp only [dropT, get_cons, get_dropT id l i]
    split <;> rfl
def Res.drop (id : Nat) : Res → Res
  | .box ty cs => .box ty (dropL id cs)
  | .vec ty rs rows => .vec ty rs rows
  | .cust C => .cust C
theorem get_dropH (id : Nat) : ∀ l i, get (dropH id l) i = (get l i).map (Res.drop id)
  | [], _ => rfl
  | (j, .box ty cs) :: l, i => by
    simp only [dropH, get_cons, get_dropH id l i]
    split <;> rfl
  | (j, .vec ty rs rows) :: l, i => by
    simp only [dropH, get_cons, get_dropH id l i]
    split <;> rfl
  | (j, .cust C) :: l, i => by
    simp only [dropH, get_cons, get_dropH id l i]
    split <;> rfl
theorem Res.drop_names (id : Nat) (r : Res) : (r.drop id).names id = false := by
  cases r with
  | box ty cs => exact dropL_names id cs
  | vec => rfl
  | cust => rfl

theorem aRel_drop {η : Nat → Value} {S : Nat → Prop} {w : World} (id : Nat) {a : AV} {u : Value} (h : ARel η S w a u) : ARel η S w (a.drop id) u := by
  unfold AV.drop; split
  · simp only [ARel]
  · exact h
theorem aRelL_drop {η : Nat → Value} {S : Nat → Prop} {w : World} (id : Nat) : ∀ (l : List AV) (us : List Value), ARelL η S w l us → ARelL η S w (dropL id l) us
  | [], us, h => h
  | a :: l, us, h => by
    simp only [ARelL, dropL] at h ⊢
    obtain ⟨u, us', h1, h2, h3⟩ := h
    exact ⟨u, us', h1, aRel_drop id h2, aRelL_drop id l us' h3⟩

theorem SOf_dropH (φ : Nat → List Nat) (id : Nat) (hp : List (Nat × Res)) : SOf φ (dropH id hp) = SOf φ hp := by
  funext k
  apply propext
  simp only [SOf, get_dropH]
  constructor
  · rintro ⟨i, r, h1, h2⟩
    obtain ⟨r0, h3, _⟩ := Option.map_eq_some_iff.1 h1
    exact ⟨i, r0, h3, h2⟩
  · rintro ⟨i, r, h1, h2⟩
    exact ⟨i, r.drop id, by rw [h1]; rfl, h2⟩

theorem RepE.drop {η : Nat → Value} {φ : Nat → List Nat} {a : Act} {w : World} (hr : RepE fr η φ st a w) (id : Nat) : RepE fr η φ ⟨dropT id st.tm, dropH id st.hp⟩ a w := by
  have hS := SOf_dropH φ id st.hp
  refine ⟨hr.defers, hr.size, ?_, ?_, ?_, ?_, ?_, hr.keep, hr.pin⟩
  · intro i av hg
    simp only [get_dropT] at hg
    obtain ⟨a0, h1, rfl⟩ := Option.map_eq_some_iff.1 hg
    obtain ⟨u, h2, h3⟩ := hr.slots i a0 h1
    exact ⟨u, h2, by simp only [hS]; exact aRel_drop id h3⟩
  · intro i r hg
    simp only [get_dropH] at hg
    obtain ⟨r0, h1, rfl⟩ := Option.map_eq_some_iff.1 hg
    have h := hr.res i r0 h1
    simp only [hS]
    cases r0 with
    | box ty cs =>
      obtain ⟨b, arr, h1, h2, h3, h4⟩ := h
      exact ⟨b, arr, h1, h2, h3, aRelL_drop id cs _ h4⟩
    | cust C => exact h
    | vec ty rs rows => exact h
  · intro i j r1 r2 k h1 h2 h3 h4
    simp only [get_dropH] at h1 h2
    obtain ⟨_, h1, _⟩ := Option.map_eq_some_iff.1 h1
    obtain ⟨_, h2, _⟩ := Option.map_eq_some_iff.1 h2
    exact hr.disj i j _ _ k h1 h2 h3 h4
  · intro i r k hg hk
    simp only [get_dropH] at hg
    obtain ⟨_, h1, _⟩ := Option.map_eq_some_iff.1 hg
    exact hr.low i _ k h1 hk
  · intro i r k hg hk
    simp only [get_dropH] at hg
    obtain ⟨_, h1, _⟩ := Option.map_eq_some_iff.1 hg
    exact hr.lt i _ k h1 hk

/-! Lists. -/
theorem spl_take {α : Type} (l : List α) (off : Nat) (vs : List α) (m : Nat) (h : off + vs.length ≤ m) (hm : m ≤ l.length) : (spl l off vs).take m = spl (l.take m) off vs := by
  unfold spl
  rw [List.take_append, List.length_take, Nat.min_eq_left (by omega), List.take_take, Nat.min_eq_right (by omega), List.take_take, Nat.min_eq_left (by omega)]
  congr 1
  rw [List.take_append, List.take_of_length_le (by omega), List.drop_take]
  congr 2
  omega

theorem flatten_length {α : Type} {rs : Nat} : ∀ (rows : List (List α)), (∀ r ∈ rows, r.length = rs) → rows.flatten.length = rows.length * rs
  | [], _ => by simp
  | r :: rows, h => by
    simp only [List.flatten_cons, List.length_append, List.length_cons, h r (by simp), flatten_length rows (fun r hr => h r (by simp [hr])), Nat.add_mul]
    omega

theorem flatten_set {α : Type} {rs : Nat} : ∀ (rows : List (List α)) (i : Nat) (r : List α) (off : Nat) (vs : List α), (∀ r ∈ rows, r.length = rs) → rows[i]? = some r → off + vs.length ≤ rs →
    (rows.set i (spl r off vs)).flatten = spl rows.flatten (i * rs + off) vs
  | [], _, _, _, _, _, h, _ => by simp at h
  | r0 :: rows, 0, r, off, vs, hl, h, ho => by
    simp at h; subst h
    have hr : r0.length = rs := hl r0 (by simp)
    simp only [List.set_cons_zero, List.flatten_cons, Nat.zero_mul, Nat.zero_add]
    unfold spl
    rw [List.take_append_of_le_length (by omega), List.drop_append_of_le_length (by omega)]
    simp
  | r0 :: rows, i + 1, r, off, vs, hl, h, ho => by
    have hr : r0.length = rs := hl r0 (by simp)
    simp at h
    have ih := flatten_set rows i r off vs (fun r hr => hl r (by simp [hr])) h ho
    simp only [List.set_cons_succ, List.flatten_cons, ih]
    unfold spl
    rw [show (i + 1) * rs + off = r0.length + (i * rs + off) by rw [hr, Nat.add_mul]; omega, List.take_length_add_append,
      show r0.length + (i * rs + off) + vs.length = r0.length + (i * rs + off + vs.length) by omega, List.drop_length_add_append]
    simp

theorem relL_take {S : Nat → Prop} {w : World} : ∀ (n : Nat) (l : List PV) (us : List Value), RelL S w l us → RelL S w (l.take n) (us.take n)
  | 0, l, us, _ => by simp [RelL]
  | n + 1, [], us, h => by simp only [RelL] at h; subst h; simp [RelL]
  | n + 1, c :: l, us, h => by
    simp only [RelL] at h
    obtain ⟨u, us', rfl, h2, h3⟩ := h
    simp only [List.take_succ_cons, RelL]
    exact ⟨u, _, rfl, h2, relL_take n l us' h3⟩
theorem relL_drop {S : Nat → Prop} {w : World} : ∀ (n : Nat) (l : List PV) (us : List Value), RelL S w l us → RelL S w (l.drop n) (us.drop n)
  | 0, l, us, h => by simpa using h
  | n + 1, [], us, h => by simp only [RelL] at h; subst h; simp [RelL]
  | n + 1, c :: l, us, h => by
    simp only [RelL] at h
    obtain ⟨u, us', rfl, h2, h3⟩ := h
    simp only [List.drop_succ_cons]
    exact relL_drop n l us' h3
theorem relL_append {S : Nat → Prop} {w : World} : ∀ (l l' : List PV) (us us' : List Value), RelL S w l us → RelL S w l' us' → RelL S w (l ++ l') (us ++ us')
  | [], l', us, us', h, h' => by simp only [RelL] at h; subst h; simpa using h'
  | c :: l, l', us, us', h, h' => by
    simp only [RelL] at h
    obtain ⟨u, us1, rfl, h2, h3⟩ := h
    simp only [List.cons_append, RelL]
    exact ⟨u, _, rfl, h2, relL_append l l' us1 us' h3 h'⟩
theorem relL_length {S : Nat → Prop} {w : World} : ∀ (l : List PV) (us : List Value), RelL S w l us → us.length = l.length
  | [], us, h => by simp only [RelL] at h; subst h; rfl
  | c :: l, us, h => by
    simp only [RelL] at h
    obtain ⟨u, us1, rfl, _, h3⟩ := h
    simp [relL_length l us1 h3]
theorem aRelL_length {η : Nat → Value} {S : Nat → Prop} {w : World} : ∀ (l : List AV) (us : List Value), ARelL η S w l us → us.length = l.length
  | [], us, h => by simp only [ARelL] at h; subst h; rfl
  | c :: l, us, h => by
    simp only [ARelL] at h
    obtain ⟨u, us1, rfl, _, h3⟩ := h
    simp [aRelL_length l us1 h3]
theorem aRelL_take {η : Nat → Value} {S : Nat → Prop} {w : World} : ∀ (n : Nat) (l : List AV) (us : List Value), ARelL η S w l us → ARelL η S w (l.take n) (us.take n)
  | 0, l, us, _ => by simp [ARelL]
  | n + 1, [], us, h => by simp only [ARelL] at h; subst h; simp [ARelL]
  | n + 1, c :: l, us, h => by
    simp only [ARelL] at h
    obtain ⟨u, us', rfl, h2, h3⟩ := h
    simp only [List.take_succ_cons, ARelL]
    exact ⟨u, _, rfl, h2, aRelL_take n l us' h3⟩
theorem aRelL_drop' {η : Nat → Value} {S : Nat → Prop} {w : World} : ∀ (n : Nat) (l : List AV) (us : List Value), ARelL η S w l us → ARelL η S w (l.drop n) (us.drop n)
  | 0, l, us, h => by simpa using h
  | n + 1, [], us, h => by simp only [ARelL] at h; subst h; simp [ARelL]
  | n + 1, c :: l, us, h => by
    simp only [ARelL] at h
    obtain ⟨u, us', rfl, h2, h3⟩ := h
    simp only [List.drop_succ_cons]
    exact aRelL_drop' n l us' h3
theorem aRelL_append {η : Nat → Value} {S : Nat → Prop} {w : World} : ∀ (l l' : List AV) (us us' : List Value), ARelL η S w l us → ARelL η S w l' us' → ARelL η S w (l ++ l') (us ++ us')
  | [], l', us, us', h, h' => by simp only [ARelL] at h; subst h; simpa using h'
  | c :: l, l', us, us', h, h' => by
    simp only [ARelL] at h
    obtain ⟨u, us1, rfl, h2, h3⟩ := h
    simp only [List.cons_append, ARelL]
    exact ⟨u, _, rfl, h2, aRelL_append l l' us1 us' h3 h'⟩
theorem relL_spl {S : Nat → Prop} {w : World} {l vs : List PV} {us ws : List Value} (off : Nat) (h : RelL S w l us) (h' : RelL S w vs ws) : RelL S w (spl l off vs) (spl us off ws) := by
  unfold spl
  rw [relL_length vs ws h']
  exact relL_append _ _ _ _ (relL_take off l us h) (relL_append _ _ _ _ h' (relL_drop _ l us h))
theorem aRelL_spl {η : Nat → Value} {S : Nat → Prop} {w : World} {l vs : List AV} {us ws : List Value} (off : Nat) (h : ARelL η S w l us) (h' : ARelL η S w vs ws) : ARelL η S w (spl l off vs) (spl us off ws) := by
  unfold spl
  rw [aRelL_length vs ws h']
  exact aRelL_append _ _ _ _ (aRelL_take off l us h) (aRelL_append _ _ _ _ h' (aRelL_drop' _ l us h))

/-- Each fits one cell. -/
def St.ones (st : St) : List AV → Bool
  | [] => true
  | .h id :: l => match get st.hp id with
    | some _ => st.ones l
    | none => false
  | c :: l => match c.one with
    | true => st.ones l
    | false => false

theorem ones_spec {η : Nat → Value} {φ : Nat → List Nat} {a : Act} {w : World} (hr : RepE fr η φ st a w) : ∀ (l : List AV) (us : List Value), st.ones l = true → ARelL η (SOf φ st.hp) w l us → ∀ u ∈ us, u.oneCell' = true
  | [], us, _, h, u, hu => by simp only [ARelL] at h; subst h; cases hu
  | c :: l, us, ho, h, u, hu => by
    simp only [ARelL] at h
    obtain ⟨u0, us', rfl, h2, h3⟩ := h
    have key : u0.oneCell' = true ∧ st.ones l = true := by
      cases c with
      | h id =>
        simp only [St.ones] at ho
        cases hg : get st.hp id with
        | none => rw [hg] at ho; cases ho
        | some r =>
          rw [hg] at ho
          simp only [ARel] at h2
          refine ⟨?_, ho⟩
          rcases hd_shape (hr.res id r hg) with ⟨a, e⟩ | ⟨a, n, c, e⟩ <;> rw [h2, e] <;> rfl
      | _ =>
        simp only [St.ones] at ho
        split at ho
        · next e => exact ⟨(one_spec h2 e).2, ho⟩
        · cases ho
    rcases List.mem_cons.1 hu with rfl | hu
    · exact key.1
    · exact ones_spec hr l us' key.2 h3 u hu

/-- Plain data alone. -/
def pvs : List AV → Option (List PV)
  | [] => some []
  | .p x :: l => match pvs l with
    | some r => some (x :: r)
    | none => none
  | _ :: _ => none
theorem pvs_rel {η : Nat → Value} {S : Nat → Prop} {w : World} : ∀ (l : List AV) (xs : List PV) (us : List Value), pvs l = some xs → ARelL η S w l us → RelL S w xs us
  | [], xs, us, h, hr => by simp only [pvs, Option.some.injEq] at h; subst h; simpa [ARelL, RelL] using hr
  | .p x :: l, xs, us, h, hr => by
    simp only [pvs] at h
    cases hl : pvs l with
    | none => rw [hl] at h; cases h
    | some r =>
      rw [hl] at h
      simp only [Option.some.injEq] at h; subst h
      simp only [ARelL, ARel] at hr
      obtain ⟨u, us', rfl, h2, h3⟩ := hr
      simp only [RelL]
      exact ⟨u, us', rfl, h2, pvs_rel l r us' hl h3⟩
theorem pvs_length : ∀ (l : List AV) (xs : List PV), pvs l = some xs → xs.length = l.length
  | [], xs, h => by simp only [pvs, Option.some.injEq] at h; subst h; rfl
  | .p x :: l, xs, h => by
    simp only [pvs] at h
    cases hl : pvs l with
    | none => rw [hl] at h; cases h
    | some r => rw [hl] at h; simp only [Option.some.injEq] at h; subst h; simp [pvs_length l r hl]
  | .h _ :: _, _, h => by cases h
  | .el .. :: _, _, h => by cases h
  | .agg _ :: _, _, h => by cases h
  | .tup _ :: _, _, h => by cases h
  | .clo .. :: _, _, h => by cases h
  | .junk :: _, _, h => by cases h

/-- A store: which name, and what is owned under it then. -/
def St.store (st : St) (vs : List AV) : AV → Option (Nat × Res)
  | .h id => match get st.hp id with
    | some (.box ty cs) => match Nat.ble vs.length cs.length with
      | true => some (id, .box ty (spl cs 0 vs))
      | false => none
    | _ => none
  | .el id rs row off => match get st.hp id with
    | some (.box ty cs) => match row with
      | 0 => match Nat.ble (off + vs.length) cs.length with
        | true => some (id, .box ty (spl cs off vs))
        | false => none
      | _ + 1 => none
    | some (.vec ty rs' rows) => match Nat.beq rs' rs with
      | true => match rows[row]? with
        | some r => match pvs vs with
          | some xs => match Nat.ble (off + vs.length) rs' with
            | true => some (id, .vec ty rs' (rows.set row (spl r off xs)))
            | false => none
          | none => none
        | none => none
      | false => none
    | _ => none
  | _ => none

theorem upd_same {α : Type} (f : Nat → α) (id : Nat) : upd f id (f id) = f := by
  funext j; unfold upd; split
  · next e => rw [e]
  · rfl

theorem SOf_setR (φ : Nat → List Nat) (id : Nat) (r r0 : Res) (hp : List (Nat × Res)) (hg : get hp id = some r0) : SOf φ (setR id r hp) = SOf φ hp := by
  funext k
  apply propext
  simp only [SOf, get_setR id r hp r0 hg]
  constructor
  · rintro ⟨i, r1, h1, h2⟩
    split at h1
    · next e => subst e; exact ⟨i, r0, hg, h2⟩
    · exact ⟨i, r1, h1, h2⟩
  · rintro ⟨i, r1, h1, h2⟩
    by_cases e : i = id
    · exact ⟨i, r, by rw [if_pos e], h2⟩
    · exact ⟨i, r1, by rw [if_neg e]; exact h1, h2⟩

theorem run_storeVar {ty : TypeId} {n : Nat} (hsz : ∀ w, (sizeOf ty).run P w = .ok n w) (w : World) (b o : Nat) (e : TypeId) (cur : Array Value) (v : Value) (hg : w.heap[b]? = some (.cells cur e (0, 0)))
    (hn : v.cells.size = n) (hl : o + n ≤ cur.size) (h1 : ∀ u ∈ v.cells.toList, u.oneCell' = true) :
    (storeVar ty ⟨b, o, none⟩ v).run P w = .ok () (w.setRow b (spl cur.toList o v.cells.toList).toArray) := by
  have := run_storeCells_at P b o e v.cells.toList 0 cur w hg (by simpa [hn] using hl) h1
  simp only [storeVar, Sem.run_bind, hsz, Result.andThen_ok, hn]
  simp only [Nat.add_zero, List.append_assoc] at this
  simpa [spl] using this

theorem RepE.store {η : Nat → Value} {φ : Nat → List Nat} {a : Act} {w : World} (hr : RepE fr η φ st a w) {av : AV} {vs : List AV} {id : Nat} {r' : Res} (hs : st.store vs av = some (id, r')) {u v : Value}
    (h : ARel η (SOf φ st.hp) w av u) (hv : ARelL η (SOf φ st.hp) w vs v.cells.toList) {ty : TypeId} {n : Nat} (hsz : ∀ w, (sizeOf ty).run P w = .ok n w) (hn : vs.length = n) (ho : st.ones vs = true) :
    ∃ w', (Instr.storeAt ty u v).run P w = .ok () w' ∧ RepE fr η φ ⟨st.tm, setR id r' st.hp⟩ a w' := by
  have hvn : v.cells.size = n := by have := aRelL_length vs _ hv; simpa [hn] using this
  have h1 := ones_spec hr vs _ ho hv
  -- a block of one's own
  have main : ∀ (b o : Nat) (e : TypeId) (cur : Array Value) (r0 : Res), get st.hp id = some r0 → φ id = [b] → w.heap[b]? = some (.cells cur e (0, 0)) → u = .pointer (some ⟨b, o, none⟩) → o + n ≤ cur.size →
      (∀ w', Same (SOf φ st.hp) w w' → w'.heap[b]? = some (.cells (spl cur.toList o v.cells.toList).toArray e (0, 0)) → RRes η (SOf φ st.hp) w' (η id) [b] r') →
      ∃ w', (Instr.storeAt ty u v).run P w = .ok () w' ∧ RepE fr η φ ⟨st.tm, setR id r' st.hp⟩ a w' := by
    intro b o e cur r0 hg hφ hb hu hl hres
    subst hu
    refine ⟨w.setRow b (spl cur.toList o v.cells.toList).toArray, ?_, ?_⟩
    · simp [Instr.storeAt, Instr.sureAddr, run_storeVar hsz w b o e cur v hb hvn hl h1]
    · have hblk : ∀ k, k < w.heap.size → k ∉ φ id → (w.setRow b (spl cur.toList o v.cells.toList).toArray).heap[k]? = w.heap[k]? := fun k _ hk =>
        setRow_other w b k _ (fun e => hk (by rw [hφ]; simp [e]))
      have := hr.change id hg r' (η id) (φ id) (setRow_os _ _ _) (setRow_tape _ _ _) (setRow_output _ _ _) (by simp) hblk
        (fun k hk => ⟨.inl hk, by simpa using hr.lt id r0 k hg hk⟩) (.inl rfl) (by
          rw [upd_same, upd_same, SOf_setR φ id r' r0 st.hp hg, hφ]
          exact hres _ ⟨by simp, fun k hk hs => hblk k hk (fun h => hs ⟨id, r0, hg, h⟩)⟩ (setRow_heap w b cur _ e (0, 0) hb))
      rwa [upd_same, upd_same] at this
  have box : ∀ (b o : Nat) (e : TypeId) (cs : List AV), get st.hp id = some (.box e cs) → r' = .box e (spl cs o vs) → o + vs.length ≤ cs.length → blk (η id) = some b → u = .pointer (some ⟨b, o, none⟩) →
      ∃ w', (Instr.storeAt ty u v).run P w = .ok () w' ∧ RepE fr η φ ⟨st.tm, setR id r' st.hp⟩ a w' := by
    intro b o e cs hg hr' hl hbk hu
    obtain ⟨b', arr, e1, e2, e3, e4⟩ := hr.res id _ hg
    rw [e1] at hbk
    simp only [blk, Option.some.injEq] at hbk; subst hbk
    have hal : arr.size = cs.length := by have := aRelL_length cs _ e4; simpa using this
    refine main b' o e arr _ hg e2 e3 hu (by omega) (fun w' hS hb' => ?_)
    subst hr'
    refine ⟨b', _, e1, rfl, hb', ?_⟩
    simp only
    exact ARelL.mono hS (fun _ _ h => h) _ _ (fun _ _ => rfl) (aRelL_spl o e4 hv)
  cases av with
  | h id' =>
    simp only [St.store] at hs
    cases hg : get st.hp id' with
    | none => rw [hg] at hs; cases hs
    | some r0 =>
      rw [hg] at hs
      cases r0 with
      | cust => cases hs
      | vec => cases hs
      | box e cs =>
        simp only at hs
        cases hb : Nat.ble vs.length cs.length with
        | false => rw [hb] at hs; cases hs
        | true =>
          rw [hb] at hs
          simp only [Option.some.injEq, Prod.mk.injEq] at hs
          obtain ⟨rfl, rfl⟩ := hs
          obtain ⟨b', arr, e1, _⟩ := hr.res id' _ hg
          simp only [ARel] at h
          exact box b' 0 e cs hg rfl (by have := Nat.le_of_ble_eq_true hb; omega) (by rw [e1]; rfl) (h.trans e1)
  | el id' rs row off =>
    simp only [St.store] at hs
    simp only [ARel] at h
    obtain ⟨b, hbk, hu⟩ := h
    cases hg : get st.hp id' with
    | none => rw [hg] at hs; cases hs
    | some r0 =>
      rw [hg] at hs
      cases r0 with
      | box e cs =>
        cases row with
        | succ m => cases hs
        | zero =>
          simp only at hs
          cases hb : Nat.ble (off + vs.length) cs.length with
          | false => rw [hb] at hs; cases hs
          | true =>
            rw [hb] at hs
            simp only [Option.some.injEq, Prod.mk.injEq] at hs
            obtain ⟨rfl, rfl⟩ := hs
            exact box b off e cs hg rfl (Nat.le_of_ble_eq_true hb) hbk (by simpa using hu)
      | cust => cases hs
      | vec e rs' rows =>
        simp only at hs
        cases hbe : Nat.beq rs' rs with
        | false => rw [hbe] at hs; cases hs
        | true =>
          rw [hbe] at hs
          obtain rfl := Nat.eq_of_beq_eq_true hbe
          cases hrow : rows[row]? with
          | none => simp only [hrow] at hs; cases hs
          | some r =>
            simp only [hrow] at hs
            cases hp : pvs vs with
            | none => rw [hp] at hs; cases hs
            | some xs =>
              rw [hp] at hs
              simp only at hs
              cases hb : Nat.ble (off + vs.length) rs' with
              | false => rw [hb] at hs; cases hs
              | true =>
                rw [hb] at hs
                simp only [Option.some.injEq, Prod.mk.injEq] at hs
                obtain ⟨rfl, rfl⟩ := hs
                have hle := Nat.le_of_ble_eq_true hb
                have hrl := hr.res id' _ hg
                obtain ⟨ys, f1, f2, f3, f4⟩ := hrl
                have hlen : row < rows.length := (List.getElem?_eq_some_iff.1 hrow).1
                rcases f3.2 with ⟨e0, hn0⟩ | ⟨gb, cap, cur, e0, _, hgb, hnc, hcm, hcs, htk⟩
                · omega
                · have hgb' : gb = b := by rw [e0] at hbk; simpa [blk] using hbk
                  subst hgb'
                  have hφ : φ id' = [gb] := by rw [f4, e0]; rfl
                  have hrows : (row + 1) * rs' ≤ rows.length * rs' := Nat.mul_le_mul_right _ hlen
                  have hcap : rows.length * rs' ≤ cap * rs' := Nat.mul_le_mul_right _ hnc
                  have hin : row * rs' + off + vs.length ≤ rows.length * rs' := by rw [Nat.add_mul] at hrows; omega
                  refine main gb (row * rs' + off) e cur _ hg hφ hgb hu (by omega) (fun w' hS hb' => ?_)
                  have hxl : xs.length = vs.length := pvs_length vs xs hp
                  refine ⟨spl ys (row * rs' + off) v.cells.toList, ?_, ?_, ⟨?_, .inr ⟨gb, cap, _, ?_, Nat.zero_le _, hb', ?_, hcm, ?_, ?_⟩⟩, ?_⟩
                  · rw [flatten_set rows row r off xs f2 hrow (by omega)]
                    exact relL_spl _ (RelL.mono hS (fun _ _ h => h) _ _ f1) (RelL.mono hS (fun _ _ h => h) _ _ (pvs_rel vs xs _ hp hv))
                  · intro q hq
                    rcases List.mem_or_eq_of_mem_set hq with hq | rfl
                    · exact f2 q hq
                    · have hrr := f2 r (List.mem_of_getElem? hrow)
                      rw [spl_length _ _ _ (by omega)]; exact hrr
                  · have := f3.1
                    simp only [List.length_set]
                    rw [spl_length _ _ _ (by simp [hvn]; omega)]; exact this
                  · simpa using e0
                  · simpa using hnc
                  · have : (spl cur.toList (row * rs' + off) v.cells.toList).length = cur.toList.length := spl_length _ _ _ (by simp [hvn]; omega)
                    simpa [hcs] using this
                  · simp only [List.length_set]
                    rw [spl_take _ _ _ _ (by simp [hvn]; omega) (by simp [hcs]; omega), htk]
                  · rw [e0]; rfl
  | _ => cases hs

end
end Go.V
