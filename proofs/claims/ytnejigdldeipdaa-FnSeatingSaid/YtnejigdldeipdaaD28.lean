/- Groups seated one after the other, step by step. -/
import Derived.Test.YtnejigdldeipdaaD27
set_option linter.all false
namespace Go.V
open Go
section
variable {F : List Int} {p z zb : Int} {r bn : Nat}
theorem seatTo_skip (hz : F[r]? = some z) (h : ¬ p ≤ z) : seatTo F p (r + 1) = seatTo F p r := by
  rw [seatTo, rowAt_get hz, if_neg (fun x => h x.1)]
theorem seatTo_first (hz : F[r]? = some z) (h : p ≤ z) (hb : seatTo F p r < 0) : seatTo F p (r + 1) = (r : Int) := by
  rw [seatTo, rowAt_get hz, if_pos ⟨h, .inl hb⟩]
theorem seatTo_better (hz : F[r]? = some z) (h : p ≤ z) (hb : seatTo F p r = (bn : Int)) (hbz : F[bn]? = some zb) (hlt : z < zb) : seatTo F p (r + 1) = (r : Int) := by
  rw [seatTo, rowAt_get hz, if_pos ⟨h, .inr (by rw [hb, Int.toNat_natCast, rowAt_get hbz]; exact hlt)⟩]
theorem seatTo_keep (hz : F[r]? = some z) (hb : seatTo F p r = (bn : Int)) (hbz : F[bn]? = some zb) (hlt : ¬ z < zb) : seatTo F p (r + 1) = seatTo F p r := by
  rw [seatTo, rowAt_get hz, if_neg]
  rintro ⟨_, h | h⟩
  · omega
  · rw [hb, Int.toNat_natCast, rowAt_get hbz] at h; exact hlt h
theorem seatTo_nat (F : List Int) (p : Int) (r : Nat) (h : ¬ seatTo F p r < 0) (hr : r ≤ F.length) : ∃ (bn : Nat) (zb : Int), seatTo F p r = (bn : Int) ∧ bn < r ∧ F[bn]? = some zb ∧ p ≤ zb := by
  have h2 := seatTo_range F p r
  obtain ⟨zb, hz⟩ := get_some (xs := F) (k := (seatTo F p r).toNat) (by omega)
  refine ⟨(seatTo F p r).toNat, zb, by omega, by omega, hz, ?_⟩
  have := h2.2.2 (by omega)
  rwa [rowAt_get hz] at this
end
section
variable {gs : List Group} {rs : List Int} {k m bn : Nat} {g : Group} {z : Int}
theorem greedy_next_neg (hy : (ordTo gs gs.length)[k]? = some (m : Int)) (hg : gs[m]? = some g) (hb : seatTo (greedyTo gs rs k).1 g.persons (greedyTo gs rs k).1.length < 0) :
    (greedyTo gs rs (k + 1)).1 = (greedyTo gs rs k).1 ∧ (greedyTo gs rs (k + 1)).2 = (greedyTo gs rs k).2.set m (seatTo (greedyTo gs rs k).1 g.persons (greedyTo gs rs k).1.length) := by
  rw [greedyTo_succ hy]
  simp only [gStep, pAt_get hg, Int.toNat_natCast]
  rw [if_neg (by omega)]
  simp
theorem greedy_next_pos (hy : (ordTo gs gs.length)[k]? = some (m : Int)) (hg : gs[m]? = some g) (hb : seatTo (greedyTo gs rs k).1 g.persons (greedyTo gs rs k).1.length = (bn : Int)) (hz : (greedyTo gs rs k).1[bn]? = some z) :
    (greedyTo gs rs (k + 1)).1 = (greedyTo gs rs k).1.set bn (z - g.persons) ∧ (greedyTo gs rs (k + 1)).2 = (greedyTo gs rs k).2.set m (bn : Int) := by
  rw [greedyTo_succ hy]
  simp only [gStep, pAt_get hg, Int.toNat_natCast, hb]
  rw [if_pos (by omega), rowAt_get hz]
  simp
end
theorem fill_zero (n : Nat) : List.replicate n [PV.v (.int .i64 0)] = (upTo 0 ++ List.replicate (n - 0) (0 : Int)).map encI := by simp [upTo, encI]
theorem fill_set {n k : Nat} (h : k < n) : ((upTo k ++ List.replicate (n - k) (0 : Int)).map encI).set k [.v (.int .i64 (k : Int))] = (upTo (k + 1) ++ List.replicate (n - (k + 1)) (0 : Int)).map encI := by
  rw [show ([PV.v (.int .i64 (k : Int))] : List PV) = encI (k : Int) from rfl, ← List.map_set, upTo_succ]
  congr 1
  rw [List.set_append_right _ _ (by rw [upTo_length]; exact Nat.le_refl _), upTo_length, Nat.sub_self, show n - k = (n - (k + 1)) + 1 by omega, List.replicate_succ]
  simp
theorem fill_end (n : Nat) : upTo n ++ List.replicate (n - n) (0 : Int) = upTo n := by simp
theorem fill_row {n k : Nat} (h : k < n) : ∃ z, ((upTo k ++ List.replicate (n - k) (0 : Int)).map encI)[k]? = some (encI z) := by
  obtain ⟨z, hz⟩ := get_some (xs := upTo k ++ List.replicate (n - k) (0 : Int)) (k := k) (by rw [List.length_append, upTo_length, List.length_replicate]; omega)
  exact ⟨z, map_row hz⟩
theorem zero_rows (n : Nat) : List.replicate n [PV.v (.int .i64 0)] = (List.replicate n (0 : Int)).map encI := by simp [encI]
def negP (gs : List Group) : List Int := gs.map fun g => -g.persons
theorem negP_snoc {gs : List Group} {k : Nat} {g : Group} (h : gs[k]? = some g) : (negP (gs.take k)).map encI ++ [[.v (.int .i64 (-g.persons))]] = (negP (gs.take (k + 1))).map encI := by
  rw [take_snoc h]; simp [negP, encI]
theorem negP_get {gs : List Group} {k : Nat} {g : Group} (h : gs[k]? = some g) : (negP gs)[k]? = some (-g.persons) := by simp [negP, h]
theorem ord_next {gs : List Group} {k j : Nat} (h : insPos (beP gs k) (ordTo gs k) k = j) : (((ordTo gs k).take j).map encI ++ [encI (k : Int)]) ++ ((ordTo gs k).drop j).map encI = (ordTo gs (k + 1)).map encI := by
  have hl := ordTo_length gs k
  rw [ordTo, insAt, hl, h]; simp
end Go.V
