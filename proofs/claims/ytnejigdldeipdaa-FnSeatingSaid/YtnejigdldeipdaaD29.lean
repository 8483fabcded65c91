/- Groups and rows as they are drawn. -/
import Derived.Test.YtnejigdldeipdaaD28
set_option linter.all false
namespace Go.V
open Go Go.RowKit
theorem map_snocG {α β : Type} (f : α → β) (l : List α) (x : α) : (l ++ [x]).map f = l.map f ++ [f x] := by simp
def DrawnG (gs : List Group) : Prop := gs.length ≤ 20 ∧ ∀ g ∈ gs, g.name.length ≤ 2
theorem drawnG_nil : DrawnG [] := ⟨by simp, fun _ h => by cases h⟩
theorem drawnG_names {gs : List Group} (h : DrawnG gs) : ∀ g ∈ gs, g.name.length ≤ 1048576 := fun g hg => by have := h.2 g hg; omega
def DrawnTo (gs : List Group) (k : Nat) : Prop := gs.length ≤ k ∧ ∀ g ∈ gs, g.name.length ≤ 2
theorem drawnTo_nil : DrawnTo [] 0 := ⟨by simp, fun _ h => by cases h⟩
theorem drawnTo_add {gs : List Group} {k : Nat} {g : Group} (h : DrawnTo gs k) (hg : g.name.length ≤ 2) : DrawnTo (gs ++ [g]) (k + 1) := by
  refine ⟨by simp; exact h.1, fun x hx => ?_⟩
  rcases List.mem_append.1 hx with e | e
  · exact h.2 x e
  · rw [List.mem_singleton] at e; subst e; exact hg
theorem drawnTo_up {gs : List Group} {k : Nat} (h : DrawnTo gs k) : DrawnTo gs (k + 1) := ⟨Nat.le_succ_of_le h.1, h.2⟩
theorem drawnTo_ok {gs : List Group} {k : Nat} (h : DrawnTo gs k) (hk : k ≤ 20) : DrawnG gs := ⟨Nat.le_trans h.1 hk, h.2⟩
theorem byte_u8 (c : UInt8) : 0 ≤ IntKind.i64.wrap (c.toNat : Int) ∧ IntKind.i64.wrap (c.toNat : Int) ≤ 255 := by
  have := c.toNat_lt
  rw [wrap_id (by omega) (by omega)]; omega
theorem pick_lim {a n p q : Int} (h : 0 ≤ a ∧ a ≤ 255) (hn : 1 < n) (hq : p ≤ q ∧ q ≤ p + 2) : 0 ≤ a.tmod n ∧ a.tmod n < n ∧ p ≤ q ∧ q ≤ p + 2 := by
  rw [Int.tmod_eq_emod_of_nonneg h.1]
  exact ⟨Int.emod_nonneg _ (by omega), Int.emod_lt_of_pos _ (by omega), hq⟩
theorem pick_lim2 {a b n p q : Int} (h : 0 ≤ a ∧ a ≤ 255) (hb : 0 ≤ b ∧ b ≤ 255) (hn : 1 < n) (hq : p ≤ q ∧ q ≤ p + 2) : 0 ≤ (a * 256 + b).tmod n ∧ (a * 256 + b).tmod n < n ∧ p ≤ q ∧ q ≤ p + 2 := by
  rw [Int.tmod_eq_emod_of_nonneg (by omega)]
  exact ⟨Int.emod_nonneg _ (by omega), Int.emod_lt_of_pos _ (by omega), hq⟩
theorem lett6 {k : Nat} (h : k < 6) : ∃ c : UInt8, ([[PV.v (.string ⟨#[97]⟩)], [PV.v (.string ⟨#[98]⟩)], [PV.v (.string ⟨#[99]⟩)], [PV.v (.string ⟨#[100]⟩)], [PV.v (.string ⟨#[101]⟩)], [PV.v (.string ⟨#[102]⟩)]] : List (List PV))[k]? = some [PV.v (str [c])] := by
  match k, h with
  | 0, _ => exact ⟨97, rfl⟩
  | 1, _ => exact ⟨98, rfl⟩
  | 2, _ => exact ⟨99, rfl⟩
  | 3, _ => exact ⟨100, rfl⟩
  | 4, _ => exact ⟨101, rfl⟩
  | 5, _ => exact ⟨102, rfl⟩
theorem byte_wrap (x : Int) : ∃ c : UInt8, IntKind.u8.wrap x = (c.toNat : Int) := by
  refine ⟨UInt8.ofNat (x % 256).toNat, ?_⟩
  have : IntKind.u8.wrap x = x % 256 := by simp [IntKind.wrap, IntKind.signed, IntKind.bits]
  rw [this, UInt8.toNat_ofNat']
  omega
theorem pickR0 {n p : Int} (h : 0 < n) : 0 ≤ (0 : Int) ∧ (0 : Int) < n ∧ p ≤ p ∧ p ≤ p + 2 := ⟨Int.le_refl _, h, Int.le_refl _, by omega⟩
theorem hasB {l : List PV} (h : (Ty.int .u8).Has l) : ∃ x : UInt8, l = encB x ∧ True := by
  obtain ⟨n, rfl, w⟩ := has_int h
  refine ⟨UInt8.ofNat n.toNat, ?_, trivial⟩
  have hw : 0 ≤ n ∧ n ≤ 255 := by
    simp [Lit.wf, IntKind.min, IntKind.max, IntKind.signed, IntKind.bits] at w
    omega
  unfold encB
  rw [UInt8.toNat_ofNat']
  congr 3
  omega
end Go.V
