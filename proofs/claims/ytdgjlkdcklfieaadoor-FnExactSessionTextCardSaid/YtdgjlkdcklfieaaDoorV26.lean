/- The library's strings.Join, in the calculus' words. -/
import Derived.Test.YtdgjlkdcklfieaaDoorV25
import Derived.Lib.Join
set_option linter.all false
namespace Go.V
open Go Go.RowKit Go.Proofs
structure JoinS (P : Program) (f : FuncId) : Prop where
  some : ∀ (bk o c : Nat) (xs : List ByteArray) (sep : ByteArray) (w : World), (∀ (j : Nat) x, xs[j]? = some x → w.cell? ⟨bk, o + j, none⟩ = some (.string x)) → bk < w.heap.size → xs.length ≤ 140737488355328 → xs.length ≤ c →
    (Lib.join (xs.map (·.data.toList)) sep.data.toList).length ≤ 140737488355328 →
    Calls P f #[.slice (some ⟨bk, o, none⟩) xs.length c, .string sep] w fun e w' => e = .returned (.string ⟨(Lib.join (xs.map (·.data.toList)) sep.data.toList).toArray⟩) ∧ Below w.heap.size w w'
  none : ∀ (a : Option Addr) (c : Nat) (sep : ByteArray) (w : World), Calls P f #[.slice a 0 c, .string sep] w fun e w' => e = .returned (.string ⟨#[]⟩) ∧ w' = w
theorem rows_cells {S : Nat → Prop} {w : World} {b : Nat} : ∀ {ss : List (List UInt8)} {o : Nat}, RelRows S w b 1 o (ss.map encS) → ∀ (j : Nat) (s : List UInt8), ss[j]? = some s → w.cell? ⟨b, o + j, none⟩ = some (str s)
  | [], _, _, j, s, h => by simp at h
  | x :: ss, o, hr, j, s, h => by
    simp only [List.map_cons, RelRows, encS, RelAt, Rel, and_true] at hr
    obtain ⟨_, ⟨u, hu, rfl⟩, hr2⟩ := hr
    cases j with
    | zero => simp only [List.getElem?_cons_zero, Option.some.injEq] at h; subst h; simpa using hu
    | succ j =>
      have := rows_cells (ss := ss) (o := o + 1) hr2 j s (by simpa using h)
      rw [show o + (j + 1) = o + 1 + j by omega]; exact this
theorem join_pure {P : Program} {f : FuncId} (h : JoinS P f) {ss : List (List UInt8)} {sep : List UInt8} (h1 : ss.length ≤ 1048576) (h2 : (Lib.join ss sep).length ≤ 140737488355328) :
    Pure P f [.sl 1 (ss.map encS), .v (str sep)] (.v (str (Lib.join ss sep))) := by
  intro w us hrel
  simp only [RelL, Rel] at hrel
  obtain ⟨u, us', rfl, ⟨a, cap, rfl, hcap, hrows⟩, _, us2, rfl, rfl, rfl⟩ := hrel
  rw [List.length_map] at hcap ⊢
  rcases hrows with h3 | ⟨b, o, rfl, _, hlt, hr⟩
  · have h4 : ss = [] := by simpa using h3
    subst h4
    refine (h.none a cap _ w).mono ?_
    rintro e w' ⟨rfl, rfl⟩
    refine ⟨_, rfl, ?_, Below.refl _ _⟩
    simp only [Rel, Lib.join_nil]; rfl
  · have e1 : (ss.map fun s => (⟨s.toArray⟩ : ByteArray)).map (·.data.toList) = ss := by
      rw [List.map_map]
      exact (List.map_congr_left (fun s _ => by simp)).trans (List.map_id _)
    have := h.some b o cap (ss.map fun s => ⟨s.toArray⟩) ⟨sep.toArray⟩ w (fun j x hx => by
      rw [List.getElem?_map] at hx
      cases hs : ss[j]? with
      | none => rw [hs] at hx; cases hx
      | some s =>
        rw [hs] at hx
        simp only [Option.map_some, Option.some.injEq] at hx
        subst hx
        exact rows_cells hr j s hs) hlt (by rw [List.length_map]; omega) (by rw [List.length_map]; omega) (by rw [e1]; simpa using h2)
    rw [e1, List.length_map] at this
    refine this.mono ?_
    rintro e w' ⟨rfl, hb⟩
    exact ⟨_, rfl, by simp only [Rel]; rfl, hb⟩
end Go.V
