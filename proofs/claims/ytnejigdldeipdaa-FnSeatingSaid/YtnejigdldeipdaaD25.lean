/- The searches for seats as the other side writes them: a count of nodes and a mark that says 'full'. -/
import Derived.Test.YtnejigdldeipdaaD24
set_option linter.all false
namespace Go.V
open Go
def NodeR (nd bu : Int) (fu : Bool) (n2 : Int) (f2 go : Bool) : Prop := (go = false ∧ f2 = true ∧ n2 = nd ∧ (fu = true ∨ nd = bu)) ∨ (go = true ∧ f2 = false ∧ n2 = nd + 1 ∧ fu = false ∧ nd ≠ bu)
def AllR (s : Seat) (bu : Int) (free pl fr2 pl2 : List Int) (n2 : Int) (f2 : Bool) : Prop := fr2.length = free.length ∧ (0 ≤ n2 ∧ n2 ≤ bu) ∧ match s with
  | .found q => pl2 = q
  | .none l => fr2 = free ∧ pl2 = pl ∧ l = bu - n2 ∧ f2 = false
  | .full => fr2 = free ∧ pl2 = pl ∧ f2 = true
theorem allR_up {s : Seat} {free pl free' pl' fr2 pl2 : List Int} {bu n2 : Int} {f2 : Bool} (h : AllR s bu free pl fr2 pl2 n2 f2) (hl : free.length = free'.length) (hn : isF s = true) : AllR s bu free' pl' fr2 pl2 n2 f2 := by
  obtain ⟨h1, h0, h2⟩ := h
  refine ⟨h1.trans hl, h0, ?_⟩
  cases s with
  | found q => exact h2
  | none l => simp [isF] at hn
  | full => simp [isF] at hn
/-- Where a search stands that goes on. -/
def AllJ (f : List Int → List Int → Int → Seat) (p : Int) (free pl : List Int) (bu : Int) (s : Seat) (k : Nat) (nd : Int) (fu : Bool) : Prop :=
  k ≤ free.length ∧ (0 ≤ nd ∧ nd ≤ bu) ∧ ((fu = false ∧ seatLoop f p free pl (free.length - k) (bu - nd) = s) ∨ (fu = true ∧ s = .full))
section
variable {f : List Int → List Int → Int → Seat} {p bu nd n2 z : Int} {free pl : List Int} {s : Seat} {k : Nat} {fu f2 go : Bool}
theorem allJ_skip (h : AllJ f p free pl bu s k nd fu) (hz : free[k]? = some z) (hp : z < p) : AllJ f p free pl bu s (k + 1) nd fu := by
  have hk := lt_of_get hz
  refine ⟨hk, h.2.1, h.2.2.imp (fun h => ⟨h.1, ?_⟩) id⟩
  rw [← h.2]
  exact (seatLoop_skip (show free.length - k = (free.length - k - 1) + 1 by omega) (by rw [rowAt_get hz]; exact hp)).symm
theorem allJ_full (h : AllJ f p free pl bu s k nd fu) (hz : free[k]? = some z) (hp : ¬ z < p) (hn : fu = true ∨ nd = bu) : s = .full := by
  have hk := lt_of_get hz
  rcases h.2.2 with ⟨h1, h2⟩ | ⟨_, h2⟩
  · rcases hn with hn | hn
    · rw [h1] at hn; cases hn
    · rw [← h2]; exact seatLoop_full (show free.length - k = (free.length - k - 1) + 1 by omega) (by rw [rowAt_get hz]; exact hp) (by omega)
  · exact h2
theorem allJ_go (h : AllJ f p free pl bu s k nd fu) (hfu : fu = false) : seatLoop f p free pl (free.length - k) (bu - nd) = s := by
  rcases h.2.2 with ⟨_, h2⟩ | ⟨h1, _⟩
  · exact h2
  · rw [hfu] at h1; cases h1
theorem allJ_found (h : AllJ f p free pl bu s k nd fu) (hfu : fu = false) (hnd : nd ≠ bu) (hz : free[k]? = some z) (hp : ¬ z < p) (hn : isF (f (free.set k (z - p)) (pl ++ [(k : Int)]) (bu - (nd + 1))) = true) : s = f (free.set k (z - p)) (pl ++ [(k : Int)]) (bu - (nd + 1)) := by
  rw [← allJ_go h hfu, show bu - (nd + 1) = bu - nd - 1 by omega]
  rw [show bu - (nd + 1) = bu - nd - 1 by omega] at hn
  exact seat_up hz hp (by omega) (.inl hn)
theorem allJ_next (h : AllJ f p free pl bu s k nd fu) (hfu : fu = false) (hnd : nd ≠ bu) (hz : free[k]? = some z) (hp : ¬ z < p) {fr2 pl2 : List Int}
    (hR : AllR (f (free.set k (z - p)) (pl ++ [(k : Int)]) (bu - (nd + 1))) bu (free.set k (z - p)) (pl ++ [(k : Int)]) fr2 pl2 n2 f2) (hn : isF (f (free.set k (z - p)) (pl ++ [(k : Int)]) (bu - (nd + 1))) = false) :
    fr2 = free.set k (z - p) ∧ pl2 = pl ++ [(k : Int)] ∧ AllJ f p free pl bu s (k + 1) n2 f2 := by
  have hk := lt_of_get hz
  have hj := allJ_go h hfu
  rw [show bu - (nd + 1) = bu - nd - 1 by omega] at hR hn
  obtain ⟨h1, h0, h2⟩ := hR
  have hl : free.length - k = (free.length - k - 1) + 1 := by omega
  have hra := rowAt_get hz
  cases hs : f (free.set k (z - p)) (pl ++ [(k : Int)]) (bu - nd - 1) with
  | found q => rw [hs] at hn; simp [isF] at hn
  | none l =>
    rw [hs] at h2
    obtain ⟨e1, e2, e3, e4⟩ := h2
    refine ⟨e1, e2, hk, h0, .inl ⟨e4, ?_⟩⟩
    rw [← hj, seatLoop_none hl (by rw [hra]; exact hp) (by omega) (by rw [hra]; exact hs), e3]
  | full =>
    rw [hs] at h2
    refine ⟨h2.1, h2.2.1, hk, h0, .inr ⟨h2.2.2, ?_⟩⟩
    rw [← hj]
    exact seatLoop_fulls hl (by rw [hra]; exact hp) (by omega) (by rw [hra]; exact hs)
theorem allJ_end (h : AllJ f p free pl bu s free.length nd fu) : (s = .none (bu - nd) ∧ fu = false) ∨ (s = .full ∧ fu = true) := by
  rcases h.2.2 with ⟨h1, h2⟩ | ⟨h1, h2⟩
  · refine .inl ⟨?_, h1⟩
    rw [← h2, Nat.sub_self]; rfl
  · exact .inr ⟨h2, h1⟩
end
theorem remS_zero (gs : List Group) : remS gs ([] : List Int).length = gs.map Group.persons := rfl
theorem seat_found_len {gs : List Group} {free q : List Int} {l : Int} (h : seat (remS gs ([] : List Int).length) free [] l = .found q) : q.length = gs.length := by
  obtain ⟨q', h1, h2, _⟩ := seat_found _ _ _ _ _ h
  have := okPl_len _ _ _ h2
  rw [h1]; simpa [remS] using this
theorem first_len (gs : List Group) (rs : List Int) (b : Int) : (firstSeating gs rs b).1.length ≤ 12 := by
  unfold firstSeating
  split
  · next hv =>
    rw [Bool.and_eq_true] at hv
    have hg := groups_len hv.1
    split
    · cases hs : seat (gs.map Group.persons) rs [] b with
      | found q => have := seat_found_len (gs := gs) (free := rs) (l := b) hs; simp only; omega
      | none l => simp
      | full => simp
    · simp
  · simp
end Go.V
