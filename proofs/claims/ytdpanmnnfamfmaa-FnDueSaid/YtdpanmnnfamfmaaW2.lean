/- The error that is expected on a day: a range over the library's iterator. -/
import Derived.Test.YtdpanmnnfamfmaaW1
import Derived.Test.YtdpanmnnfamfmaaXA
set_option linter.all false
namespace Go.Proofs.Ytdpanmnnfamfmaa
open Go Go.V Go.RowKit Go.Shelf
attribute [local go_sem] Oper.semAt_some
theorem pure_at {f : FuncId} {args : List PV} {v : Value} (h : V.Pure Try.prog f args (.v v)) {w W : World} {us : List Value} (hr : RelL (fun _ => False) w args us) (hW : Below w.heap.size w W) :
    Calls Try.prog f us.toArray W fun e W' => e = .returned v ∧ Below W.heap.size W W' := by
  have hr2 : RelL (fun _ => False) W args us := RelL.mono (⟨hW.size, fun k hk _ => hW.block k hk⟩ : Same (fun _ => False) w W) (fun _ _ h => h.elim) _ _ hr
  refine (h W us hr2).mono ?_
  rintro e W' ⟨u, rfl, hu, hb⟩
  simp only [Rel] at hu
  exact ⟨by rw [hu], hb⟩
theorem boxed_below {W W' : World} {B : Nat} {t : TypeId} {v : Value} (h : Boxed W B t v) (hb : Below W.heap.size W W') : Boxed W' B t v := (hb.block B h.lt).trans h
theorem boxed4 (w : World) (t0 t1 t2 t3 : TypeId) (v0 v1 v2 v3 : Value) : ∀ W0, (((w.alloc (.cells #[v0] t0)).alloc (.cells #[v1] t1)).alloc (.cells #[v2] t2)).alloc (.cells #[v3] t3) = W0 →
    Boxed W0 w.heap.size t0 v0 ∧ Boxed W0 (w.heap.size + 1) t1 v1 ∧ Boxed W0 (w.heap.size + 1 + 1) t2 v2 ∧ Boxed W0 (w.heap.size + 1 + 1 + 1) t3 v3 ∧ Below w.heap.size w W0 ∧ W0.heap.size = w.heap.size + 4 := by
  rintro W0 rfl
  have b0 := Boxed.new w t0 v0
  have b1 := Boxed.new (w.alloc (.cells #[v0] t0)) t1 v1
  have b2 := Boxed.new ((w.alloc (.cells #[v0] t0)).alloc (.cells #[v1] t1)) t2 v2
  have b3 := Boxed.new (((w.alloc (.cells #[v0] t0)).alloc (.cells #[v1] t1)).alloc (.cells #[v2] t2)) t3 v3
  simp only [World.size_alloc] at b1 b2 b3
  exact ⟨((b0.alloc _).alloc _).alloc _, (b1.alloc _).alloc _, b2.alloc _, b3, (((((Below.refl _ w).alloc (Nat.le_refl _) _).alloc (by simp) _).alloc (by simp; omega) _).alloc (by simp; omega) _), by simp⟩
set_option maxRecDepth 100000 in
set_option maxHeartbeats 2000000 in
theorem errorOn_inv {xs : List Session} {d : Int} (hn : xs.length ≤ 1048576) (hok : okSessions xs = false) (w : World) (a : Option Addr) (len cap : Nat) (hsv : RelL (fun _ => False) w [.sl 4 (xs.map encSession)] [.slice a len cap]) :
    Calls Try.prog 11 #[.slice a len cap, .int .i64 d] w fun e W' => e = .returned (.tuple #[.int .i64 0, .int .i64 1]) ∧ Below w.heap.size w W' := by
  have h39 := fun W (hW : Below w.heap.size w W) => pure_at (impl_ValidSessions_c hn) hsv hW
  rw [hok] at h39
  refine (callsIn_wide (n := 3)).1 ?_
  refine callsIn_of_wp_marks Try.func11 rfl trivial ?_ rfl
  simp only [Try.ntmps11, List.size_toArray, List.length_cons, List.length_nil, Nat.reduceAdd, Nat.reduceSub, Array.replicate_succ, Array.replicate_zero, List.push_toArray, List.append_toArray, List.nil_append, List.cons_append]
  gi_wp2
  obtain ⟨W0, hW0⟩ : ∃ W0, (((w.alloc (.cells #[.slice a len cap] 26)).alloc (.cells #[.int .i64 d] 2)).alloc (.cells #[.int .i64 0] 2)).alloc (.cells #[.int .i64 0] 2) = W0 := ⟨_, rfl⟩
  obtain ⟨b2, b3, b4, b5, hB0, hs0⟩ := boxed4 _ _ _ _ _ _ _ _ _ W0 hW0
  rw [hW0]
  refine ⟨trivial, (callsIn_wide.2 (h39 W0 hB0)).mono ?_⟩
  rintro e W1 ⟨rfl, hB1⟩
  replace b4 := boxed_below b4 hB1
  replace b5 := boxed_below b5 hB1
  have c4 := b4.cell; have f4 := b4.frozen; have c5 := b5.cell; have f5 := b5.frozen
  gi_wp2
  replace b4 := (b4.set (.int .i64 0)).other (B' := w.heap.size + 1 + 1 + 1) (by omega) (.int .i64 1)
  replace b5 := (b5.other (B' := w.heap.size + 1 + 1) (by omega) (.int .i64 0)).set (.int .i64 1)
  have c4 := b4.cell; have c5 := b5.cell
  refine ⟨.tuple #[.int .i64 0, .int .i64 1], ?_, rfl, ?_⟩
  · simp [results, Try.f11, go_sem, c4, c5]
  · exact ((hB0.trans (hB1.mono hB0.size)).setCell (p := ⟨w.heap.size + 1 + 1, 0, none⟩) (by simp; omega) _).setCell (p := ⟨w.heap.size + 1 + 1 + 1, 0, none⟩) (by simp; omega) _
set_option maxRecDepth 100000 in
set_option maxHeartbeats 4000000 in
theorem errorOn_rng {xs : List Session} {d : Int} (hn : xs.length ≤ 1048576) (hok : okSessions xs = true) (hd : (decide (0 ≤ d) && decide (d ≤ 100000)) = false) (w : World) (a : Option Addr) (len cap : Nat) (hsv : RelL (fun _ => False) w [.sl 4 (xs.map encSession)] [.slice a len cap]) :
    Calls Try.prog 11 #[.slice a len cap, .int .i64 d] w fun e W' => e = .returned (.tuple #[.int .i64 0, .int .i64 2]) ∧ Below w.heap.size w W' := by
  have h39 := fun W (hW : Below w.heap.size w W) => pure_at (impl_ValidSessions_c hn) hsv hW
  have h40 := fun W (hW : Below w.heap.size w W) => pure_at (us := [.int .i64 d, .int .i64 0, .int .i64 100000]) (impl_within_c (n := d) (lo := 0) (hi := 100000)) (by simp [RelL, Rel]) hW
  rw [hok] at h39
  rw [hd] at h40
  refine (callsIn_wide (n := 3)).1 ?_
  refine callsIn_of_wp_marks Try.func11 rfl trivial ?_ rfl
  simp only [Try.ntmps11, List.size_toArray, List.length_cons, List.length_nil, Nat.reduceAdd, Nat.reduceSub, Array.replicate_succ, Array.replicate_zero, List.push_toArray, List.append_toArray, List.nil_append, List.cons_append]
  gi_wp2
  obtain ⟨W0, hW0⟩ : ∃ W0, (((w.alloc (.cells #[.slice a len cap] 26)).alloc (.cells #[.int .i64 d] 2)).alloc (.cells #[.int .i64 0] 2)).alloc (.cells #[.int .i64 0] 2) = W0 := ⟨_, rfl⟩
  obtain ⟨b2, b3, b4, b5, hB0, hs0⟩ := boxed4 _ _ _ _ _ _ _ _ _ W0 hW0
  rw [hW0]
  refine ⟨trivial, (callsIn_wide.2 (h39 W0 hB0)).mono ?_⟩
  rintro e W1 ⟨rfl, hB1⟩
  replace b3 := boxed_below b3 hB1; replace b4 := boxed_below b4 hB1; replace b5 := boxed_below b5 hB1
  have hB01 : Below w.heap.size w W1 := hB0.trans (hB1.mono hB0.size)
  have c3 := b3.cell
  gi_wp2
  refine ⟨trivial, (callsIn_wide.2 (h40 W1 hB01)).mono ?_⟩
  rintro e W2 ⟨rfl, hB2⟩
  replace b4 := boxed_below b4 hB2; replace b5 := boxed_below b5 hB2
  have hB02 : Below w.heap.size w W2 := hB01.trans (hB2.mono hB01.size)
  have c4 := b4.cell; have f4 := b4.frozen; have c5 := b5.cell; have f5 := b5.frozen
  gi_wp2
  replace b4 := (b4.set (.int .i64 0)).other (B' := w.heap.size + 1 + 1 + 1) (by omega) (.int .i64 2)
  replace b5 := (b5.other (B' := w.heap.size + 1 + 1) (by omega) (.int .i64 0)).set (.int .i64 2)
  have c4 := b4.cell; have c5 := b5.cell
  refine ⟨.tuple #[.int .i64 0, .int .i64 2], ?_, rfl, ?_⟩
  · simp [results, Try.f11, go_sem, c4, c5]
  · exact (hB02.setCell (p := ⟨w.heap.size + 1 + 1, 0, none⟩) (by simp; omega) _).setCell (p := ⟨w.heap.size + 1 + 1 + 1, 0, none⟩) (by simp; omega) _
end Go.Proofs.Ytdpanmnnfamfmaa
