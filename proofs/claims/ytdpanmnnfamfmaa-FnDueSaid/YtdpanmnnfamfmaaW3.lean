/- The error that is expected on a day: the loop. -/
import Derived.Test.YtdpanmnnfamfmaaW2
import Derived.Test.YtdpanmnnfamfmaaV31
set_option linter.all false
namespace Go.Proofs.Ytdpanmnnfamfmaa
open Go Go.V Go.RowKit Go.Shelf
attribute [local go_sem] Oper.semAt_some
/-- A block of these cells. -/
def Cells (W : World) (B : Nat) (t : TypeId) (cs : Array Value) : Prop := W.heap[B]? = some (.cells cs t (0, 0))
theorem Cells.lt {W : World} {B : Nat} {t : TypeId} {cs : Array Value} (h : Cells W B t cs) : B < W.heap.size := (Array.getElem?_eq_some_iff.1 h).1
theorem cells_own {β : Type} (B : Nat) (t : TypeId) (cs : Array Value) : Own (fun (_ : β) W => Cells W B t cs) := fun s X Y row hs hg hrow =>
  (hg.block B hs.lt (fun e' => by obtain ⟨o, ho, hc⟩ := hrow B e'.symm; rw [show X.heap[B]? = _ from hs] at ho; cases ho; cases hc)).trans hs
theorem keepsFrom_below {B : Nat} {W W' : World} (h : Below W.heap.size W W') : KeepsFrom B W W' := ⟨h.size, fun k o _ hk _ => (h.block k (Array.getElem?_eq_some_iff.1 hk).1).trans hk⟩
theorem Boxed.drew {W : World} {B : Nat} {t : TypeId} {v : Value} (h : Boxed W B t v) : Boxed W.drew B t v := h
theorem cells_other {W : World} {B B' : Nat} {t : TypeId} {cs : Array Value} (h : Cells W B t cs) (hne : B ≠ B') (u : Value) : Cells (W.setCell ⟨B', 0, none⟩ u) B t cs := (Below.heap_setCell W ⟨B', 0, none⟩ u B hne).trans h
def lastOn (xs : List Session) (d : Int) : Option Session := xs.reverse.find? (fun x => decide (x.day ≤ d))
def errV (xs : List Session) (d : Int) (x : Session) : Int := IntKind.i64.wrap (x.error + IntKind.i64.wrap (driftTo xs xs.length * IntKind.i64.wrap (d - x.day)))
set_option maxRecDepth 100000 in
set_option maxHeartbeats 8000000 in
theorem errorOn_all {xs : List Session} {d : Int} (hn : xs.length ≤ 1048576) (hok : okSessions xs = true) (hd : (decide (0 ≤ d) && decide (d ≤ 100000)) = true) (w : World) (a : Option Addr) (len cap : Nat) (hsv : RelL (fun _ => False) w [.sl 4 (xs.map encSession)] [.slice a len cap])
    (hI : SesIn w.heap.size w (.slice a len cap) xs) :
    Calls Try.prog 11 #[.slice a len cap, .int .i64 d] w fun e W' => (((∀ p ∈ backTo xs xs.length, d < p.2.day) ∧ e = .returned (.tuple #[.int .i64 0, .int .i64 3])) ∨
      (∃ k ini last, k ≤ xs.length ∧ backTo xs k = ini ++ [last] ∧ (∀ p ∈ ini, d < p.2.day) ∧ last.2.day ≤ d ∧ e = .returned (.tuple #[.int .i64 (errV xs d last.2), .int .i64 0]))) ∧ Below w.heap.size w W' := by
  have h39 := fun W (hW : Below w.heap.size w W) => pure_at (impl_ValidSessions_c hn) hsv hW
  have h40 := fun W (hW : Below w.heap.size w W) => pure_at (us := [.int .i64 d, .int .i64 0, .int .i64 100000]) (impl_within_c (n := d) (lo := 0) (hi := 100000)) (by simp [RelL, Rel]) hW
  have h42 := fun W (hW : Below w.heap.size w W) => pure_at (impl_driftPerDay_c hn hok) hsv hW
  rw [hok] at h39
  rw [hd] at h40
  refine (callsIn_wide (n := 3)).1 ?_
  refine callsIn_of_wp_marks Try.func11 rfl trivial ?_ rfl
  simp only [Try.ntmps11, List.size_toArray, List.length_cons, List.length_nil, Nat.reduceAdd, Nat.reduceSub, Array.replicate_succ, Array.replicate_zero, List.push_toArray, List.append_toArray, List.nil_append, List.cons_append]
  gi_wp2
  obtain ⟨W0, hW0⟩ : ∃ W0, (((w.alloc (.cells #[.slice a len cap] 26)).alloc (.cells #[.int .i64 d] 2)).alloc (.cells #[.int .i64 0] 2)).alloc (.cells #[.int .i64 0] 2) = W0 := ⟨_, rfl⟩
  obtain ⟨b2, b3, b4, b5, hB0, hs0⟩ := boxed4 _ _ _ _ _ _ _ _ _ W0 hW0
  rw [hW0]
  clear hW0
  obtain ⟨n, hnn⟩ : ∃ n, n = w.heap.size := ⟨_, rfl⟩
  refine ⟨trivial, (callsIn_wide.2 (h39 W0 hB0)).mono ?_⟩
  rintro e W1 ⟨rfl, hB1⟩
  replace b2 := boxed_below b2 hB1; replace b3 := boxed_below b3 hB1; replace b4 := boxed_below b4 hB1; replace b5 := boxed_below b5 hB1
  have hB01 : Below w.heap.size w W1 := hB0.trans (hB1.mono hB0.size)
  have c3 := b3.cell
  gi_wp2
  refine ⟨trivial, (callsIn_wide.2 (h40 W1 hB01)).mono ?_⟩
  rintro e W2 ⟨rfl, hB2⟩
  replace b2 := boxed_below b2 hB2; replace b3 := boxed_below b3 hB2; replace b4 := boxed_below b4 hB2; replace b5 := boxed_below b5 hB2
  have hB02 : Below w.heap.size w W2 := hB01.trans (hB2.mono hB01.size)
  have hs1 : w.heap.size + 4 ≤ W2.heap.size := by have := hB1.size; have := hB2.size; omega
  clear c3
  have c2 := b2.cell
  gi_wp2
  refine ⟨trivial, (back_in Fence.wide 2 trivial rfl _ _ _ _).mono ?_⟩
  rintro e w' ⟨rfl, rfl⟩
  gi_wp2
  have bS := Boxed.new W2 26 (.slice a len cap)
  replace b2 := b2.alloc (.cells #[.slice a len cap] 26); replace b3 := b3.alloc (.cells #[.slice a len cap] 26); replace b4 := b4.alloc (.cells #[.slice a len cap] 26); replace b5 := b5.alloc (.cells #[.slice a len cap] 26)
  have hB3 : Below w.heap.size w (W2.alloc (.cells #[.slice a len cap] 26)) := hB02.alloc hB02.size _
  obtain ⟨W3, hW3⟩ : ∃ W3, W2.alloc (.cells #[.slice a len cap] 26) = W3 := ⟨_, rfl⟩
  have hs3 : W3.heap.size = W2.heap.size + 1 := by rw [← hW3]; simp
  rw [hW3] at bS b2 b3 b4 b5 hB3 ⊢
  clear hW3 c2
  refine wpIn_rangeFunc_ownH rfl (by omega) (gf := 69) (lb := #[.pointer (some ⟨W2.heap.size, 0, none⟩)]) rfl trivial (enters_of Try.func69 (by kernel_rfl) rfl)
    (back_stops Fence.wide (3 - 1) trivial rfl (by omega) W2.heap.size W3.heap.size _ xs hn W3 (by omega) (by omega) (Nat.le_refl _) bS.cell ((hI.below hB3).imp id (fun ⟨b, off, cap', e1, e2, e3⟩ => ⟨b, off, cap', e1, by omega, fun j x hx => ⟨(e3 j x hx).c0, (e3 j x hx).c1, (e3 j x hx).c2, (e3 j x hx).c3⟩⟩))) belowK_t (belowK_b (Nat.le_refl _)) (Below.refl _ _) (fun _ => rfl)
    (fun pre W => ((∀ p ∈ pre, d < p.2.day) ∧ ((Boxed W w.heap.size 26 (.slice a len cap) ∧ Boxed W W2.heap.size 26 (.slice a len cap)) ∧ Boxed W (w.heap.size + 1) 2 (.int .i64 d)) ∧ (Boxed W (w.heap.size + 1 + 1) 2 (.int .i64 0) ∧ Boxed W (w.heap.size + 1 + 1 + 1) 2 (.int .i64 0))) ∧ Below w.heap.size w W)
    (fun c pre W => ((c = .ret ∧ ∃ ini last, pre = ini ++ [last] ∧ (∀ p ∈ ini, d < p.2.day) ∧ last.2.day ≤ d ∧ Boxed W (w.heap.size + 1 + 1) 2 (.int .i64 (errV xs d last.2)) ∧ Boxed W (w.heap.size + 1 + 1 + 1) 2 (.int .i64 0))) ∧ Below w.heap.size w W)
    (OwnFrom.and (OwnFrom.and (ownFrom_pure _ _) (OwnFrom.and (OwnFrom.and (OwnFrom.and (Own.from (boxed_own _ _ _) _) (Own.from (boxed_own _ _ _) _)) (Own.from (boxed_own _ _ _) _)) (OwnFrom.and (Own.from (boxed_own _ _ _) _) (Own.from (boxed_own _ _ _) _)))) (ownFrom_below (Nat.le_refl _) (by omega)))
    (fun c => OwnFrom.and (Own.from (fun s A B row hs hg hr => by obtain ⟨hc, ini, last, e1, e2, e3, e4, e5⟩ := hs; exact ⟨hc, ini, last, e1, e2, e3, boxed_own (β := Unit) _ _ (fun _ => _) () A B row e4 hg hr, boxed_own (β := Unit) _ _ (fun _ => _) () A B row e5 hg hr⟩) _) (ownFrom_below (Nat.le_refl _) (by omega)))
    ⟨⟨by simp, ⟨⟨b2, bS⟩, b3⟩, b4, b5⟩, hB3⟩
    (fun x a' W => ∃ Bx, W3.heap.size ≤ Bx ∧ Cells W Bx 35 #[.int .i64 x.2.day, .int .i64 x.2.turn, .int .i64 x.2.lift, .int .i64 x.2.error] ∧ a' = { tmps := #[.slice a len cap, .int .i64 d, .pointer (some ⟨w.heap.size, 0, none⟩), .pointer (some ⟨w.heap.size + 1, 0, none⟩), .pointer (some ⟨w.heap.size + 1 + 1, 0, none⟩), .pointer (some ⟨w.heap.size + 1 + 1 + 1, 0, none⟩), undef, .pointer (some ⟨Bx, 0, none⟩), .slice a len cap, .bool true, .bool false, .int .i64 d, .bool true, .bool false, .slice a len cap, .func (.func 69) #[] #[.pointer (some ⟨W2.heap.size, 0, none⟩)], .int .i64 (x.1 : Int), .agg #[.int .i64 x.2.day, .int .i64 x.2.turn, .int .i64 x.2.lift, .int .i64 x.2.error], undef, undef, undef, undef, undef, undef, undef, undef, undef, undef, undef, undef, undef, undef], defers := [] })
    (fun x a' => by
      rintro s A B row ⟨Bx, h1, h2, h3⟩ hg hr
      exact ⟨Bx, h1, cells_own (β := Unit) _ _ _ () A B row h2 hg (fun r e => (hr r e).2), h3⟩) ?assign ?body ?done ?stop
  case assign =>
    rintro l pre x W K ⟨⟨h1, ⟨⟨h2, hS⟩, h3⟩, h4, h5⟩, hB⟩ hK
    unfold encBk sesV
    gi_wp2
    have hlt := hS.lt
    exact hK _ _ ((KeepsOthers.alloc _ _).from _) ((Below.refl _ W).alloc (by omega) _) ⟨⟨h1, ⟨⟨h2.alloc _, hS.alloc _⟩, h3.alloc _⟩, h4.alloc _, h5.alloc _⟩, hB.alloc hB.size _⟩ ⟨W.heap.size, by omega, World.alloc_heap_new W _, rfl⟩
  case body =>
    rintro l pre x a' W hl ⟨r, hr⟩ ⟨⟨h1, ⟨⟨h2, hS⟩, h3⟩, h4, h5⟩, hB⟩ ⟨Bx, hBx, hX, rfl⟩ _
    have hlt := hS.lt
    have c2 := h2.cell; have c3 := h3.cell; have c4 := h4.cell; have f4 := h4.frozen; have c5 := h5.cell; have f5 := h5.frozen
    have x0 : W.cell? ⟨Bx, 0, none⟩ = some (.int .i64 x.2.day) := by unfold World.cell?; rw [show W.heap[Bx]? = _ from hX]; rfl
    have x3 : W.cell? ⟨Bx, 3, none⟩ = some (.int .i64 x.2.error) := by unfold World.cell?; rw [show W.heap[Bx]? = _ from hX]; rfl
    by_cases hday : x.2.day ≤ d
    · have hmx : Try.prog.follows .mixedOrders = true := by kernel_rfl
      gi_wp2
      refine wpIn_region_any (by assumption) ?_
      change wpAnyIn _ _ _ _ _ _ _ _ _ (World.drew _)
      refine anyIn_inv (I := (fun listed a9 Wx => ∃ l0 l1 l2 l3 l4 l5 l6 l7 l8 l9 l10 l11 : Bool, ∃ y22 y23 y24 y25 y26 y27 y28 y29 y30 y31 v4 v5 : Value, listed = #[l0, l1, l2, l3, l4, l5, l6, l7, l8, l9, l10, l11] ∧ a9 = { tmps := #[.slice a len cap, .int .i64 d, .pointer (some ⟨w.heap.size, 0, none⟩), .pointer (some ⟨w.heap.size + 1, 0, none⟩), .pointer (some ⟨w.heap.size + 1 + 1, 0, none⟩), .pointer (some ⟨w.heap.size + 1 + 1 + 1, 0, none⟩), undef, .pointer (some ⟨Bx, 0, none⟩), .slice a len cap, .bool true, .bool false, .int .i64 d, .bool true, .bool false, .slice a len cap, .func (.func 69) #[] #[.pointer (some ⟨W2.heap.size, 0, none⟩)], .int .i64 (x.1 : Int), .agg #[.int .i64 x.2.day, .int .i64 x.2.turn, .int .i64 x.2.lift, .int .i64 x.2.error], .pointer (some ⟨Bx, 0, none⟩), .int .i64 x.2.day, .int .i64 d, .bool true, y22, y23, y24, y25, y26, y27, y28, y29, y30, y31], defers := [] } ∧ (l0 = true → y22 = .pointer (some ⟨Bx, 3, none⟩)) ∧ (l1 = true → y23 = .int .i64 x.2.error) ∧ (l2 = true → y24 = .slice a len cap) ∧ (l3 = true → y25 = .int .i64 (driftTo xs xs.length)) ∧ (l4 = true → y26 = .int .i64 d) ∧ (l5 = true → y27 = .pointer (some ⟨Bx, 0, none⟩)) ∧ (l6 = true → y28 = .int .i64 x.2.day) ∧ (l7 = true → y29 = .int .i64 (IntKind.i64.wrap (d - x.2.day))) ∧ (l8 = true → y30 = .int .i64 (IntKind.i64.wrap (driftTo xs xs.length * IntKind.i64.wrap (d - x.2.day)))) ∧ (l9 = true → y31 = .int .i64 (errV xs d x.2)) ∧ (l10 = true → v4 = .int .i64 (errV xs d x.2)) ∧ (l11 = true → v5 = .int .i64 0) ∧ KeepsFrom W3.heap.size W Wx ∧ Below w.heap.size w Wx ∧ Boxed Wx w.heap.size 26 (.slice a len cap) ∧ Boxed Wx (w.heap.size + 1) 2 (.int .i64 d) ∧ Boxed Wx (w.heap.size + 1 + 1) 2 v4 ∧ Boxed Wx (w.heap.size + 1 + 1 + 1) 2 v5 ∧ Cells Wx Bx 35 #[.int .i64 x.2.day, .int .i64 x.2.turn, .int .i64 x.2.lift, .int .i64 x.2.error])) ?anystep ?anydone _ _ _ _ (by decide) rfl ?anystart
      case anystart =>
        refine ⟨false, false, false, false, false, false, false, false, false, false, false, false, undef, undef, undef, undef, undef, undef, undef, undef, undef, undef, _, _, rfl, rfl, (by simp), (by simp), (by simp), (by simp), (by simp), (by simp), (by simp), (by simp), (by simp), (by simp), (by simp), (by simp), (KeepsOthers.drew _).from _, hB.drew, h2, h3, h4, h5, hX⟩
      case anydone =>
        rintro listed a9 Wx ⟨l0, l1, l2, l3, l4, l5, l6, l7, l8, l9, l10, l11, y22, y23, y24, y25, y26, y27, y28, y29, y30, y31, v4, v5, rfl, rfl, e0, e1, e2, e3, e4, e5, e6, e7, e8, e9, e10, e11, hK, hB9, g2, g3, g4, g5, gX⟩ hn
        obtain rfl : l0 = true := by
          cases l0 with
          | true => rfl
          | false => exact absurd (hn ▸ List.mem_filter.2 ⟨List.mem_range.2 (by decide), by kernel_rfl⟩ : 0 ∈ ([] : List Nat)) (by simp)
        obtain rfl : l1 = true := by
          cases l1 with
          | true => rfl
          | false => exact absurd (hn ▸ List.mem_filter.2 ⟨List.mem_range.2 (by decide), by kernel_rfl⟩ : 1 ∈ ([] : List Nat)) (by simp)
        obtain rfl : l2 = true := by
          cases l2 with
          | true => rfl
          | false => exact absurd (hn ▸ List.mem_filter.2 ⟨List.mem_range.2 (by decide), by kernel_rfl⟩ : 2 ∈ ([] : List Nat)) (by simp)
        obtain rfl : l3 = true := by
          cases l3 with
          | true => rfl
          | false => exact absurd (hn ▸ List.mem_filter.2 ⟨List.mem_range.2 (by decide), by kernel_rfl⟩ : 3 ∈ ([] : List Nat)) (by simp)
        obtain rfl : l4 = true := by
          cases l4 with
          | true => rfl
          | false => exact absurd (hn ▸ List.mem_filter.2 ⟨List.mem_range.2 (by decide), by kernel_rfl⟩ : 4 ∈ ([] : List Nat)) (by simp)
        obtain rfl : l5 = true := by
          cases l5 with
          | true => rfl
          | false => exact absurd (hn ▸ List.mem_filter.2 ⟨List.mem_range.2 (by decide), by kernel_rfl⟩ : 5 ∈ ([] : List Nat)) (by simp)
        obtain rfl : l6 = true := by
          cases l6 with
          | true => rfl
          | false => exact absurd (hn ▸ List.mem_filter.2 ⟨List.mem_range.2 (by decide), by kernel_rfl⟩ : 6 ∈ ([] : List Nat)) (by simp)
        obtain rfl : l7 = true := by
          cases l7 with
          | true => rfl
          | false => exact absurd (hn ▸ List.mem_filter.2 ⟨List.mem_range.2 (by decide), by kernel_rfl⟩ : 7 ∈ ([] : List Nat)) (by simp)
        obtain rfl : l8 = true := by
          cases l8 with
          | true => rfl
          | false => exact absurd (hn ▸ List.mem_filter.2 ⟨List.mem_range.2 (by decide), by kernel_rfl⟩ : 8 ∈ ([] : List Nat)) (by simp)
        obtain rfl : l9 = true := by
          cases l9 with
          | true => rfl
          | false => exact absurd (hn ▸ List.mem_filter.2 ⟨List.mem_range.2 (by decide), by kernel_rfl⟩ : 9 ∈ ([] : List Nat)) (by simp)
        obtain rfl : l10 = true := by
          cases l10 with
          | true => rfl
          | false => exact absurd (hn ▸ List.mem_filter.2 ⟨List.mem_range.2 (by decide), by kernel_rfl⟩ : 10 ∈ ([] : List Nat)) (by simp)
        obtain rfl : l11 = true := by
          cases l11 with
          | true => rfl
          | false => exact absurd (hn ▸ List.mem_filter.2 ⟨List.mem_range.2 (by decide), by kernel_rfl⟩ : 11 ∈ ([] : List Nat)) (by simp)
        gi_wp2
        refine ⟨by rw [← hs3]; exact hK, ⟨rfl, pre, x.1, x.2, rfl, fun a9 b9 hp9 => h1 _ hp9, hday, ?_, ?_⟩, hB9⟩
        · rw [← e10 trivial]; exact g4
        · rw [← e11 trivial]; exact g5
      case anystep =>
        rintro listed a9 Wx i ⟨l0, l1, l2, l3, l4, l5, l6, l7, l8, l9, l10, l11, y22, y23, y24, y25, y26, y27, y28, y29, y30, y31, v4, v5, rfl, rfl, e0, e1, e2, e3, e4, e5, e6, e7, e8, e9, e10, e11, hK, hB9, g2, g3, g4, g5, gX⟩ hi
        have hi12 : i < 12 := List.mem_range.1 (List.mem_filter.1 hi).1
        have hi2 := (List.mem_filter.1 hi).2
        clear hi
        have x0 : Wx.cell? ⟨Bx, 0, none⟩ = some (.int .i64 x.2.day) := by unfold World.cell?; rw [show Wx.heap[Bx]? = _ from gX]; rfl
        have x3 : Wx.cell? ⟨Bx, 3, none⟩ = some (.int .i64 x.2.error) := by unfold World.cell?; rw [show Wx.heap[Bx]? = _ from gX]; rfl
        have c2 := g2.cell; have c3 := g3.cell; have c4 := g4.cell; have f4 := g4.frozen; have c5 := g5.cell; have f5 := g5.frozen
        match i, hi12 with
        | 0, _ =>
          simp [Region.binds] at hi2
          refine wpOpIn_step rfl (fun K hK9 => ?_)
          go_simp
          refine hK9 _ _ ⟨true, l1, l2, l3, l4, l5, l6, l7, l8, l9, l10, l11, _, y23, y24, y25, y26, y27, y28, y29, y30, y31, v4, v5, rfl, rfl, (fun _ => rfl), e1, e2, e3, e4, e5, e6, e7, e8, e9, e10, e11, hK, hB9, g2, g3, g4, g5, gX⟩
        | 1, _ =>
          simp [Region.binds] at hi2
          have d0 : l0 = true := by simp_all
          have z0 := e0 d0
          subst z0
          refine wpOpIn_step rfl (fun K hK9 => ?_)
          go_simp
          refine hK9 _ _ ⟨l0, true, l2, l3, l4, l5, l6, l7, l8, l9, l10, l11, _, _, y24, y25, y26, y27, y28, y29, y30, y31, v4, v5, rfl, rfl, (fun _ => rfl), (fun _ => rfl), e2, e3, e4, e5, e6, e7, e8, e9, e10, e11, hK, hB9, g2, g3, g4, g5, gX⟩
        | 2, _ =>
          simp [Region.binds] at hi2
          refine wpOpIn_step rfl (fun K hK9 => ?_)
          go_simp
          refine hK9 _ _ ⟨l0, l1, true, l3, l4, l5, l6, l7, l8, l9, l10, l11, y22, y23, _, y25, y26, y27, y28, y29, y30, y31, v4, v5, rfl, rfl, e0, e1, (fun _ => rfl), e3, e4, e5, e6, e7, e8, e9, e10, e11, hK, hB9, g2, g3, g4, g5, gX⟩
        | 3, _ =>
          simp [Region.binds] at hi2
          have d2 : l2 = true := by simp_all
          have z2 := e2 d2
          subst z2
          refine wpOpIn_step rfl (fun K hK9 => ?_)
          go_simp
          refine ⟨trivial, (CallsIn.inRound l (callsIn_wide.2 (h42 _ hB9))).mono ?_⟩
          rintro e W5 ⟨rfl, hB5⟩
          refine hK9 _ _ ⟨l0, l1, l2, true, l4, l5, l6, l7, l8, l9, l10, l11, y22, y23, _, _, y26, y27, y28, y29, y30, y31, v4, v5, rfl, rfl, e0, e1, (fun _ => rfl), (fun _ => rfl), e4, e5, e6, e7, e8, e9, e10, e11, hK.trans (keepsFrom_below hB5), hB9.trans (hB5.mono hB9.size), boxed_below g2 hB5, boxed_below g3 hB5, boxed_below g4 hB5, boxed_below g5 hB5, (hB5.block _ gX.lt).trans gX⟩
        | 4, _ =>
          simp [Region.binds] at hi2
          refine wpOpIn_step rfl (fun K hK9 => ?_)
          go_simp
          refine hK9 _ _ ⟨l0, l1, l2, l3, true, l5, l6, l7, l8, l9, l10, l11, y22, y23, y24, y25, _, y27, y28, y29, y30, y31, v4, v5, rfl, rfl, e0, e1, e2, e3, (fun _ => rfl), e5, e6, e7, e8, e9, e10, e11, hK, hB9, g2, g3, g4, g5, gX⟩
        | 5, _ =>
          simp [Region.binds] at hi2
          refine wpOpIn_step rfl (fun K hK9 => ?_)
          go_simp
          refine hK9 _ _ ⟨l0, l1, l2, l3, l4, true, l6, l7, l8, l9, l10, l11, y22, y23, y24, y25, y26, _, y28, y29, y30, y31, v4, v5, rfl, rfl, e0, e1, e2, e3, e4, (fun _ => rfl), e6, e7, e8, e9, e10, e11, hK, hB9, g2, g3, g4, g5, gX⟩
        | 6, _ =>
          simp [Region.binds] at hi2
          have d5 : l5 = true := by simp_all
          have z5 := e5 d5
          subst z5
          refine wpOpIn_step rfl (fun K hK9 => ?_)
          go_simp
          refine hK9 _ _ ⟨l0, l1, l2, l3, l4, l5, true, l7, l8, l9, l10, l11, y22, y23, y24, y25, y26, _, _, y29, y30, y31, v4, v5, rfl, rfl, e0, e1, e2, e3, e4, (fun _ => rfl), (fun _ => rfl), e7, e8, e9, e10, e11, hK, hB9, g2, g3, g4, g5, gX⟩
        | 7, _ =>
          simp [Region.binds] at hi2
          have d4 : l4 = true := by simp_all
          have z4 := e4 d4
          subst z4
          have d6 : l6 = true := by simp_all
          have z6 := e6 d6
          subst z6
          refine wpOpIn_step rfl (fun K hK9 => ?_)
          go_simp
          refine hK9 _ _ ⟨l0, l1, l2, l3, l4, l5, l6, true, l8, l9, l10, l11, y22, y23, y24, y25, _, y27, _, _, y30, y31, v4, v5, rfl, rfl, e0, e1, e2, e3, (fun _ => rfl), e5, (fun _ => rfl), (fun _ => rfl), e8, e9, e10, e11, hK, hB9, g2, g3, g4, g5, gX⟩
        | 8, _ =>
          simp [Region.binds] at hi2
          have d3 : l3 = true := by simp_all
          have z3 := e3 d3
          subst z3
          have d7 : l7 = true := by simp_all
          have z7 := e7 d7
          subst z7
          refine wpOpIn_step rfl (fun K hK9 => ?_)
          go_simp
          refine hK9 _ _ ⟨l0, l1, l2, l3, l4, l5, l6, l7, true, l9, l10, l11, y22, y23, y24, _, y26, y27, y28, _, _, y31, v4, v5, rfl, rfl, e0, e1, e2, (fun _ => rfl), e4, e5, e6, (fun _ => rfl), (fun _ => rfl), e9, e10, e11, hK, hB9, g2, g3, g4, g5, gX⟩
        | 9, _ =>
          simp [Region.binds] at hi2
          have d1 : l1 = true := by simp_all
          have z1 := e1 d1
          subst z1
          have d8 : l8 = true := by simp_all
          have z8 := e8 d8
          subst z8
          refine wpOpIn_step rfl (fun K hK9 => ?_)
          go_simp
          refine hK9 _ _ ⟨l0, l1, l2, l3, l4, l5, l6, l7, l8, true, l10, l11, y22, _, y24, y25, y26, y27, y28, y29, _, _, v4, v5, rfl, rfl, e0, (fun _ => rfl), e2, e3, e4, e5, e6, e7, (fun _ => rfl), (fun _ => rfl), e10, e11, hK, hB9, g2, g3, g4, g5, gX⟩
        | 10, _ =>
          simp [Region.binds] at hi2
          have d0 : l0 = true := by simp_all
          have z0 := e0 d0
          subst z0
          have d1 : l1 = true := by simp_all
          have z1 := e1 d1
          subst z1
          have d2 : l2 = true := by simp_all
          have z2 := e2 d2
          subst z2
          have d3 : l3 = true := by simp_all
          have z3 := e3 d3
          subst z3
          have d4 : l4 = true := by simp_all
          have z4 := e4 d4
          subst z4
          have d5 : l5 = true := by simp_all
          have z5 := e5 d5
          subst z5
          have d6 : l6 = true := by simp_all
          have z6 := e6 d6
          subst z6
          have d7 : l7 = true := by simp_all
          have z7 := e7 d7
          subst z7
          have d8 : l8 = true := by simp_all
          have z8 := e8 d8
          subst z8
          have d9 : l9 = true := by simp_all
          have z9 := e9 d9
          subst z9
          refine wpOpIn_step rfl (fun K hK9 => ?_)
          go_simp
          refine hK9 _ _ ⟨l0, l1, l2, l3, l4, l5, l6, l7, l8, l9, true, l11, _, _, _, _, _, _, _, _, _, _, _, v5, rfl, rfl, (fun _ => rfl), (fun _ => rfl), (fun _ => rfl), (fun _ => rfl), (fun _ => rfl), (fun _ => rfl), (fun _ => rfl), (fun _ => rfl), (fun _ => rfl), (fun _ => rfl), (fun _ => rfl), e11, hK.trans ((KeepsOthers.setCell _ _ _).from _), hB9.setCell (p := ⟨w.heap.size + 1 + 1, 0, none⟩) (by simp; omega) _, g2.other (by omega) _, g3.other (by omega) _, g4.set _, g5.other (by omega) _, cells_other gX (by omega) _⟩
        | 11, _ =>
          simp [Region.binds] at hi2
          have d0 : l0 = true := by simp_all
          have z0 := e0 d0
          subst z0
          have d1 : l1 = true := by simp_all
          have z1 := e1 d1
          subst z1
          have d2 : l2 = true := by simp_all
          have z2 := e2 d2
          subst z2
          have d3 : l3 = true := by simp_all
          have z3 := e3 d3
          subst z3
          have d4 : l4 = true := by simp_all
          have z4 := e4 d4
          subst z4
          have d5 : l5 = true := by simp_all
          have z5 := e5 d5
          subst z5
          have d6 : l6 = true := by simp_all
          have z6 := e6 d6
          subst z6
          have d7 : l7 = true := by simp_all
          have z7 := e7 d7
          subst z7
          have d8 : l8 = true := by simp_all
          have z8 := e8 d8
          subst z8
          have d9 : l9 = true := by simp_all
          have z9 := e9 d9
          subst z9
          refine wpOpIn_step rfl (fun K hK9 => ?_)
          go_simp
          refine hK9 _ _ ⟨l0, l1, l2, l3, l4, l5, l6, l7, l8, l9, l10, true, _, _, _, _, _, _, _, _, _, _, v4, _, rfl, rfl, (fun _ => rfl), (fun _ => rfl), (fun _ => rfl), (fun _ => rfl), (fun _ => rfl), (fun _ => rfl), (fun _ => rfl), (fun _ => rfl), (fun _ => rfl), (fun _ => rfl), e10, (fun _ => rfl), hK.trans ((KeepsOthers.setCell _ _ _).from _), hB9.setCell (p := ⟨w.heap.size + 1 + 1 + 1, 0, none⟩) (by simp; omega) _, g2.other (by omega) _, g3.other (by omega) _, g4.other (by omega) _, g5.set _, cells_other gX (by omega) _⟩
    · gi_wp2
      refine ⟨KeepsFrom.refl _ _, Below.refl _ _, ⟨⟨?_, ⟨⟨h2, hS⟩, h3⟩, h4, h5⟩, hB⟩⟩
      rintro i9 y9 hp
      rcases List.mem_append.1 hp with hp | hp
      · exact h1 _ hp
      · obtain rfl := List.mem_singleton.1 hp
        show d < y9.day
        omega
  case done =>
    rintro D ys W hD rfl ⟨⟨h1, ⟨⟨h2, hS⟩, h3⟩, h4, h5⟩, hB⟩ hK
    have c4 := h4.cell; have f4 := h4.frozen; have c5 := h5.cell; have f5 := h5.frozen
    gi_wp2
    replace h4 := (h4.set (.int .i64 0)).other (B' := w.heap.size + 1 + 1 + 1) (by omega) (.int .i64 3)
    replace h5 := (h5.other (B' := w.heap.size + 1 + 1) (by omega) (.int .i64 0)).set (.int .i64 3)
    have hK' := (KeepsOthers.setCell (W.setCell ⟨w.heap.size + 1 + 1, 0, none⟩ (.int .i64 0)) ⟨w.heap.size + 1 + 1 + 1, 0, none⟩ (.int .i64 3)).same D _ ((KeepsOthers.setCell W ⟨w.heap.size + 1 + 1, 0, none⟩ (.int .i64 0)).same D _ hK rfl) rfl
    refine ⟨by simp, .inl ⟨_, _, rfl, run_takeDeferred hK', ?_⟩⟩
    have c4 := cell_kept h4.cell (grownBy_putObj' _ D (.deferred none)) (fun r e => by cases e; exact ⟨_, hK', rfl⟩)
    have c5 := cell_kept h5.cell (grownBy_putObj' _ D (.deferred none)) (fun r e => by cases e; exact ⟨_, hK', rfl⟩)
    refine ⟨.tuple #[.int .i64 0, .int .i64 3], ?_, .inl ⟨h1, rfl⟩, ((hB.setCell (p := ⟨w.heap.size + 1 + 1, 0, none⟩) (by simp; omega) _).setCell (p := ⟨w.heap.size + 1 + 1 + 1, 0, none⟩) (by simp; omega) _).trans (belowK_b (w := w) (Nat.le_refl _) _ D _ _ (by omega) hK' rfl rfl)⟩
    simp [results, Try.f11, go_sem, c4, c5]
  case stop =>
    rintro D c pre W hD ⟨k, hk, rfl⟩ ⟨⟨rfl, ini, last, e1, e2, e3, h4, h5⟩, hB⟩ hK
    gi_wp2
    refine ⟨by simp, .inl ⟨_, _, rfl, run_takeDeferred hK, ?_⟩⟩
    have c4 := cell_kept h4.cell (grownBy_putObj' _ D (.deferred none)) (fun r e => by cases e; exact ⟨_, hK, rfl⟩)
    have c5 := cell_kept h5.cell (grownBy_putObj' _ D (.deferred none)) (fun r e => by cases e; exact ⟨_, hK, rfl⟩)
    refine ⟨.tuple #[.int .i64 (errV xs d last.2), .int .i64 0], ?_, .inr ⟨k, ini, last, hk, e1, e2, e3, rfl⟩, hB.trans (belowK_b (w := w) (Nat.le_refl _) W D _ _ (by omega) hK rfl rfl)⟩
    simp [results, Try.f11, go_sem, c4, c5]
end Go.Proofs.Ytdpanmnnfamfmaa
