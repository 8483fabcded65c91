/- The contract of ErrorOn. -/
import Derived.Test.YtdpanmnnfamfmaaW3
import Derived.Test.YtdpanmnnfamfmaaD48
set_option linter.all false
namespace Go.Proofs.Ytdpanmnnfamfmaa
open Go Go.V Go.RowKit Go.Shelf
theorem ses_cells {S : Nat → Prop} {w : World} {b o : Nat} {x : Session} {n₀ : Nat} (h : V.RelAt S w b o (encSession x)) : SesAt n₀ w b o x := by
  unfold encSession at h
  simp only [V.RelAt, V.Rel] at h
  obtain ⟨⟨u0, a0, rfl⟩, ⟨u1, a1, rfl⟩, ⟨u2, a2, rfl⟩, ⟨u3, a3, rfl⟩, _⟩ := h
  exact ⟨a0, a1, a2, a3⟩
theorem back_all {xs : List Session} {d : Int} (h : ∀ p ∈ backTo xs xs.length, d < p.2.day) : lastOf xs d = none := by
  refine lastOf_none (fun i y hy => ?_)
  have hl := lt_of_get hy
  have hm : bf xs (xs.length - 1 - i) ∈ backTo xs xs.length := List.mem_map_of_mem (List.mem_range.2 (by omega))
  have := h _ hm
  unfold bf at this
  rw [show xs.length - 1 - (xs.length - 1 - i) = i by omega, hy] at this
  exact this
theorem back_some {xs : List Session} {d : Int} {k : Nat} {ini : List (Nat × Session)} {last : Nat × Session} (hk : k ≤ xs.length) (e : backTo xs k = ini ++ [last]) (h : ∀ p ∈ ini, d < p.2.day) (hd : last.2.day ≤ d) : lastOf xs d = some last.2 := by
  cases k with
  | zero => have := congrArg List.length e; simp [backTo] at this
  | succ k =>
    obtain ⟨x, hx⟩ := get_some (xs := xs) (k := xs.length - 1 - k) (by omega)
    rw [backTo_succ hx] at e
    obtain ⟨e1, e2⟩ := List.append_inj' e rfl
    obtain rfl := List.singleton_inj.1 e2
    refine lastOf_eq hx hd (fun i y hi hy => ?_)
    have hl := lt_of_get hy
    have hm : bf xs (xs.length - 1 - i) ∈ backTo xs k := List.mem_map_of_mem (List.mem_range.2 (by omega))
    have := h _ (e1 ▸ hm)
    unfold bf at this
    rw [show xs.length - 1 - (xs.length - 1 - i) = i by omega, hy] at this
    exact this
theorem impl_ErrorOn_c {xs : List Session} {d : Int} (hn : xs.length ≤ 1048576) : V.Pure Try.prog 11 [.sl 4 (xs.map encSession), .v (.int .i64 d)] (.tup [.v (.int .i64 (errorOn xs d).1), .v (.int .i64 (errorOn xs d).2)]) := by
  intro w us hus
  obtain ⟨u1, us', rfl, h1, u2, us'', rfl, h2, h3⟩ := hus
  simp only [V.Rel] at h2
  subst h2
  simp only [V.RelL] at h3
  subst h3
  have h1' := h1
  simp only [V.Rel] at h1
  obtain ⟨a, cap, rfl, hcap, hrows⟩ := h1
  have hsv : V.RelL (fun _ => False) w [.sl 4 (xs.map encSession)] [.slice a (xs.map encSession).length cap] := ⟨_, _, rfl, h1', rfl⟩
  have hI : SesIn w.heap.size w (.slice a (xs.map encSession).length cap) xs := by
    rcases hrows with h | ⟨b, o, rfl, _, hb, hr⟩
    · left; obtain rfl : xs = [] := by simpa using h
      exact ⟨a, cap, rfl, rfl⟩
    · right; refine ⟨b, o, cap, by rw [List.length_map], hb, fun j x hx => ses_cells (cells_of_rows hr hx).2⟩
  have fin : ∀ {x y : Int} {W' : World}, V.Rel (fun _ => False) W' (.tup [.v (.int .i64 x), .v (.int .i64 y)]) (.tuple #[.int .i64 x, .int .i64 y]) := fun {x y W'} => by
    simp [V.Rel, V.RelL]
  cases hok : okSessions xs with
  | false =>
    refine (errorOn_inv hn hok w a _ cap hsv).mono ?_
    rintro e W' ⟨rfl, hb⟩
    refine ⟨_, rfl, ?_, hb⟩
    rw [show errorOn xs d = (0, 1) by unfold errorOn; rw [if_neg (by rw [hok]; decide)]]
    exact fin
  | true =>
    cases hd : (decide (0 ≤ d) && decide (d ≤ 100000)) with
    | false =>
      refine (errorOn_rng hn hok hd w a _ cap hsv).mono ?_
      rintro e W' ⟨rfl, hb⟩
      refine ⟨_, rfl, ?_, hb⟩
      rw [show errorOn xs d = (0, 2) by unfold errorOn; rw [if_pos hok, if_neg (by rw [hd]; decide)]]
      exact fin
    | true =>
      refine (errorOn_all hn hok hd w a _ cap hsv hI).mono ?_
      rintro e W' ⟨hv, hb⟩
      rcases hv with ⟨hall, rfl⟩ | ⟨k, ini, last, hk, e1, e2, e3, rfl⟩
      · refine ⟨_, rfl, ?_, hb⟩
        rw [show errorOn xs d = (0, 3) by unfold errorOn; rw [if_pos hok, if_pos hd, back_all hall]]
        exact fin
      · refine ⟨_, rfl, ?_, hb⟩
        have hlo := back_some hk e1 e2 e3
        rw [show errorOn xs d = (errAt xs d last.2, 0) by unfold errorOn; rw [if_pos hok, if_pos hd, hlo]]
        obtain ⟨hm, _⟩ := lastOf_mem hlo
        simp only [Bool.and_eq_true, decide_eq_true_eq] at hd
        rw [← err_wrap hok hm hd.1 hd.2 e3]
        exact fin
end Go.Proofs.Ytdpanmnnfamfmaa
