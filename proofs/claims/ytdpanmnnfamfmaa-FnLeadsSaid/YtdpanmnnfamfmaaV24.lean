/- What the library's contracts of sorting and compacting strings say, in the calculus' words. -/
import Derived.Test.YtdpanmnnfamfmaaV23
import Derived.Test.YtdpanmnnfamfmaaD1
import Derived.Sort.OwnSorted
import Derived.Lib.SlicesCompact
set_option linter.all false
namespace Go.V
open Go Go.RowKit Go.Sort Go.Proofs
def sortL (ss : List (List UInt8)) : List (List UInt8) := ss.mergeSort fun x y => decide (x ≤ y)
structure SortsS (P : Program) (f : FuncId) : Prop where
  some : ∀ (blk off cap : Nat) (ss : List (List UInt8)) (w : World), Holds encStr w blk off ss.toArray → blk < w.heap.size → ss.length < 4611686018427387904 →
    Calls P f #[.slice (some ⟨blk, off, none⟩) ss.length cap] w fun e w' => e = .returned (.tuple #[]) ∧ ∃ n os, w' = grow (putRow encStr (Sort.ahead w n) blk off (ss.mergeSort fun x y => decide (x ≤ y)).toArray) os
  none : ∀ (a : Option Addr) (cap : Nat) (w : World), Calls P f #[.slice a 0 cap] w fun e w' => e = .returned (.tuple #[]) ∧ w' = w
structure CompactsS (P : Program) (f : FuncId) : Prop where
  some : ∀ (blk off cap : Nat) (zs : List (List UInt8)) (w : World), Holds encStr w blk off zs.toArray → zs.length ≤ 9223372036854775807 → zs.length ≤ cap →
    Calls P f #[.slice (some ⟨blk, off, none⟩) zs.length cap] w fun e w' => e = .returned (.slice (some ⟨blk, off, none⟩) (Lib.compact zs).length cap) ∧ ∃ q, w' = putRow encStr (Sort.ahead w q) blk off (Lib.compact zs ++ List.replicate (zs.length - (Lib.compact zs).length) []).toArray
  none : ∀ (a : Option Addr) (cap : Nat) (w : World), Calls P f #[.slice a 0 cap] w fun e w' => e = .returned (.slice a 0 cap) ∧ w' = w

theorem relS {S : Nat → Prop} {w : World} : ∀ {ss : List (List UInt8)} {xs : List Value}, RelL S w (ss.map encS).flatten xs → xs = ss.map encStr
  | [], xs, h => by simpa [RelL] using h
  | s :: ss, xs, h => by
    simp only [List.map_cons, List.flatten_cons, encS, List.cons_append, List.nil_append, RelL] at h
    obtain ⟨u, us, rfl, h2, h3⟩ := h
    simp only [Rel] at h2
    rw [h2, relS h3]; rfl
theorem relS' (S : Nat → Prop) (w : World) : ∀ (ss : List (List UInt8)), RelL S w (ss.map encS).flatten (ss.map encStr)
  | [] => by simp [RelL]
  | s :: ss => by
    simp only [List.map_cons, List.flatten_cons, encS, List.cons_append, List.nil_append, RelL]
    exact ⟨_, _, rfl, by simp only [Rel]; rfl, relS' S w ss⟩
theorem rows1 (ss : List (List UInt8)) : ∀ r ∈ ss.map encS, r.length = 1 := fun r hr => by
  obtain ⟨x, _, rfl⟩ := List.mem_map.1 hr; rfl
theorem ownsRow_cut {w : World} {base : Nat} {e : TypeId} {g n cap m : Nat} {xs : List Value} (h : w.ownsRow base e 1 (.slice (some ⟨g, 0, none⟩) n cap) n xs) (hm : m ≤ n) : w.ownsRow base e 1 (.slice (some ⟨g, 0, none⟩) m cap) m (xs.take m) := by
  obtain ⟨h1, h2⟩ := h
  rcases h2 with ⟨h2, _⟩ | ⟨g', cap', cur, h2, h3, h4, h5, h6, h7, h8⟩
  · cases h2
  · simp only [Value.slice.injEq, Option.some.injEq, Addr.mk.injEq] at h2
    obtain ⟨⟨rfl, _⟩, _, rfl⟩ := h2
    refine ⟨by rw [List.length_take]; omega, .inr ⟨g, cap, cur, rfl, h3, h4, by omega, h6, h7, ?_⟩⟩
    rw [← h8, List.take_take, Nat.mul_one, Nat.mul_one, Nat.min_eq_left hm]
/-- What is left when a row of one's own has been written over in place. -/
theorem inplace {η : Nat → Value} {φ : Nat → List Nat} {w w' w0 : World} {F0 : List Nat} {ty : TypeId} {ss ts : List (List UInt8)} {g cap n m : Nat} {os : Array Obj} {cur : Array Value}
    (hok : HpOk η φ ((900, .cust (extC w0 F0)) :: [(0, .vec ty 1 (ss.map encS))]) w) (he : η 0 = .slice (some ⟨g, 0, none⟩) ss.length cap) (hg : w.heap[g]? = some (.cells cur ty (0, 0))) (hnc : ss.length ≤ cap) (hcm : cap ≤ maxLen) (hcs : cur.size = cap * 1)
    (hl : ts.length = ss.length) (hm : m ≤ ss.length) (hw : w' = grow (putRow encStr (Sort.ahead w n) g 0 ts.toArray) os) :
    HpOk (upd η 0 (.slice (some ⟨g, 0, none⟩) m cap)) φ ((900, .cust (extC w0 F0)) :: [(0, .vec ty 1 ((ts.take m).map encS))]) w' ∧
      (∀ i r k, get ((900, Res.cust (extC w0 F0)) :: [(0, .vec ty 1 ((ts.take m).map encS))]) i = some r → k ∈ φ i → SOf φ ((900, .cust (extC w0 F0)) :: [(0, .vec ty 1 (ss.map encS))]) k ∨ w.heap.size ≤ k) ∧ Keep (SOf φ ((900, .cust (extC w0 F0)) :: [(0, .vec ty 1 (ss.map encS))])) w w' := by
  have hgrow : w.grownBy w' (some g) := by rw [hw]; exact grownBy_sorted _
  have hφ : φ 0 = [g] := by
    obtain ⟨_, _, _, _, h4⟩ := hok.res 0 _ rfl
    rw [h4, he]; rfl
  have hg0 : g ∈ φ 0 := by rw [hφ]; simp
  have h9 : g ∉ φ 900 := fun h => by have := hok.disj 0 900 _ _ g rfl rfl hg0 h; cases this
  have hget : ∀ i r, get ((900, Res.cust (extC w0 F0)) :: [(0, .vec ty 1 ((ts.take m).map encS))]) i = some r → ∃ r0, get ((900, Res.cust (extC w0 F0)) :: [(0, .vec ty 1 (ss.map encS))]) i = some r0 := by
    intro i r h
    rw [get_cons] at h ⊢
    split at h
    · next e => rw [if_pos e]; exact ⟨_, rfl⟩
    · next e =>
      rw [if_neg e]
      rw [get_cons] at h ⊢
      split at h
      · next e2 => rw [if_pos e2]; exact ⟨_, rfl⟩
      · cases h
  have hrow := ownsRow_sorted (w := w) (base := 0) (g := g) (n := n) (os := os) (ts := ts) hl (Nat.zero_le _) hg hnc hcm hcs
  rw [← hw] at hrow
  refine ⟨⟨?_, ?_, ?_⟩, ?_, ?_⟩
  · intro i r h
    rw [get_cons] at h
    split at h
    · next e =>
      subst e
      obtain rfl := Option.some.inj h
      have h1 := hok.res 900 _ rfl
      rw [upd_ne _ _ (by decide)]
      obtain ⟨e1, e2, e3⟩ := h1
      refine ⟨e1, e2, fun k hk => ?_⟩
      have hne : k ≠ g := fun e => h9 (e ▸ hk)
      rw [← e3 k hk]
      exact hgrow.block k (hok.lt 900 _ k rfl hk) (fun e => hne (Option.some.inj e))
    · next e =>
      rw [get_cons] at h
      split at h
      · next e2 =>
        subst e2
        obtain rfl := Option.some.inj h
        rw [upd_self]
        refine ⟨(ts.take m).map encStr, relS' _ _ _, rows1 _, ?_, by rw [hφ]; rfl⟩
        have h3 := ownsRow_cut hrow hm
        rw [← List.map_take] at h3
        have hlen : ((ts.take m).map encS).length = m := by simp; omega
        rw [hlen]; exact h3
      · cases h
  · intro i j r r' k h1 h2 h3 h4
    obtain ⟨r0, h5⟩ := hget i r h1
    obtain ⟨r1, h6⟩ := hget j r' h2
    exact hok.disj i j r0 r1 k h5 h6 h3 h4
  · intro i r k h1 h2
    obtain ⟨r0, h5⟩ := hget i r h1
    exact Nat.lt_of_lt_of_le (hok.lt i r0 k h5 h2) hgrow.size
  · intro i r k h1 h2
    obtain ⟨r0, h5⟩ := hget i r h1
    exact .inl ⟨i, r0, h5, h2⟩
  · refine ⟨hgrow.os, hgrow.tape, hgrow.output, hgrow.size, fun k hk hn => hgrow.block k hk (fun e => hn ?_)⟩
    obtain rfl := Option.some.inj e
    exact ⟨0, _, rfl, hg0⟩
theorem upd_eq {η : Nat → Value} {v : Value} (h : η 0 = v) : upd η 0 v = η := by
  funext i
  by_cases e : i = 0
  · subst e; rw [upd_self, h]
  · rw [upd_ne _ _ e]
theorem grow_none (w : World) : grow w #[] = w := by simp [grow]
/-- slices.Sort of strings. -/
theorem sortS_fn {P : Program} {f : FuncId} (h : SortsS P f) {ty : TypeId} {ss : List (List UInt8)} (hl : ss.length ≤ 1048576) :
    FnE (α := Unit) P f [.h 0] [(0, .vec ty 1 (ss.map encS))] [0] (fun _ => True) (fun _ => .tup []) (fun _ => [(0, .vec ty 1 ((sortL ss).map encS))]) := by
  intro w0 F0 η φ w us hok hrel
  simp only [ARelL, ARel] at hrel
  obtain ⟨u, us', rfl, rfl, rfl⟩ := hrel
  obtain ⟨xs, h1, h2, h3, h4⟩ := hok.res 0 _ rfl
  obtain rfl := relS h1
  rw [List.length_map] at h3
  rcases h3.2 with ⟨e1, hn0⟩ | ⟨g, cap, cur, e1, _, hg, hnc, hcm, hcs, ht⟩
  · obtain rfl : ss = [] := List.eq_nil_of_length_eq_zero hn0
    rw [e1, show sortL [] = [] by simp [sortL]]
    refine (h.none none 0 w).mono ?_
    rintro e w' ⟨rfl, rfl⟩
    exact ⟨(), trivial, _, η, φ, rfl, hok, (by simp [ARel, ARelL]), (fun _ _ => rfl), (fun i r k h1 h2 => .inl ⟨i, r, h1, h2⟩), Keep.refl _ _⟩
  · rw [e1]
    refine (h.some g 0 cap ss w (holds_of_block hg (by rw [Nat.mul_one] at ht; exact ht)) (Array.getElem?_eq_some_iff.1 hg).1 (by omega)).mono ?_
    rintro e w' ⟨rfl, n, os, hw⟩
    have hsl : (sortL ss).length = ss.length := by simp [sortL]
    obtain ⟨p1, p2, p3⟩ := inplace (ts := sortL ss) (m := ss.length) hok e1 hg hnc hcm hcs hsl (Nat.le_refl _) hw
    rw [List.take_of_length_le (by omega)] at p1 p2
    rw [upd_eq e1] at p1
    exact ⟨(), trivial, _, η, φ, rfl, p1, by simp [ARel, ARelL], fun _ _ => rfl, p2, p3⟩
/-- slices.Compact of strings. -/
theorem compact_le (zs : List (List UInt8)) (h : (Lib.compact zs).length ≤ zs.length) : (Lib.compact zs ++ List.replicate (zs.length - (Lib.compact zs).length) []).length = zs.length := by simp; omega
theorem compactS_fn {P : Program} {f : FuncId} (h : CompactsS P f) {ty : TypeId} {ss : List (List UInt8)} (hl : ss.length ≤ 1048576) (hc : (Lib.compact ss).length ≤ ss.length) (hc0 : Lib.compact ([] : List (List UInt8)) = []) :
    FnE (α := Unit) P f [.h 0] [(0, .vec ty 1 (ss.map encS))] [] (fun _ => True) (fun _ => .h 0) (fun _ => [(0, .vec ty 1 ((Lib.compact ss).map encS))]) := by
  intro w0 F0 η φ w us hok hrel
  simp only [ARelL, ARel] at hrel
  obtain ⟨u, us', rfl, rfl, rfl⟩ := hrel
  obtain ⟨xs, h1, h2, h3, h4⟩ := hok.res 0 _ rfl
  obtain rfl := relS h1
  rw [List.length_map] at h3
  rcases h3.2 with ⟨e1, hn0⟩ | ⟨g, cap, cur, e1, _, hg, hnc, hcm, hcs, ht⟩
  · obtain rfl : ss = [] := List.eq_nil_of_length_eq_zero hn0
    rw [e1, hc0]
    refine (h.none none 0 w).mono ?_
    rintro e w' ⟨rfl, rfl⟩
    exact ⟨(), trivial, _, η, φ, rfl, hok, (by simp only [ARel]; exact e1.symm), (fun _ h => by cases h), (fun i r k h1 h2 => .inl ⟨i, r, h1, h2⟩), Keep.refl _ _⟩
  · rw [e1]
    refine (h.some g 0 cap ss w (holds_of_block hg (by rw [Nat.mul_one] at ht; exact ht)) (by omega) hnc).mono ?_
    rintro e w' ⟨rfl, n, hw⟩
    have hsl := compact_le ss hc
    obtain ⟨p1, p2, p3⟩ := inplace (m := (Lib.compact ss).length) (os := #[]) hok e1 hg hnc hcm hcs hsl hc (w' := w') (n := n) (by rw [grow_none]; exact hw)
    rw [List.take_left] at p1 p2
    exact ⟨(), trivial, _, upd η 0 (.slice (some ⟨g, 0, none⟩) (Lib.compact ss).length cap), φ, rfl, p1, (by simp only [ARel]; rw [upd_self]), (fun _ h => by cases h), p2, p3⟩
end Go.V
