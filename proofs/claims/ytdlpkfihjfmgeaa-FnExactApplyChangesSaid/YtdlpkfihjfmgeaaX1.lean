/- The library's Delete at settings: rows of two cells. -/
import Derived.Test.YtdlpkfihjfmgeaaProg
import Derived.Test.YtdlpkfihjfmgeaaV32
import Derived.Test.YtdlpkfihjfmgeaaR5A
import Derived.Shelf.RegionOpenPlain
import Derived.WalkKit
import Derived.Deep.LoopGhost
import Derived.Deep.RegionLaw
import Derived.Lib.Walk
import Derived.Lib.SliceRun
import Derived.Sort.WalkB12
set_option linter.all false
namespace Go.Proofs.Ytdlpkfihjfmgeaa
open Go Go.V Go.RowKit Go.Shelf Go.Lib Go.Sort
theorem run_clear_two {P : Program} (w : World) (t e ty : TypeId) (z : Value) {v0 v1 : Value} (ht : P.underlying t = some (.slice e)) (hv : ∀ w, (zeroValue e).run P w = .ok z w) (hz : z.cells = #[v0, v1]) (h0 : v0.oneCell' = true) (h1 : v1.oneCell' = true) (b o c : Nat)
    (hc : ∀ j, j < 2 → (w.cell? ⟨b, o + j, none⟩).isSome = true) (hf : ∀ j, j < 2 → w.frozen? ⟨b, o + j, none⟩ = false) :
    (Builtin.clear_ #[t] ty #[.slice (some ⟨b, o, none⟩) 1 c]).run P w = .ok (.tuple #[]) (w.setCells b o [v0, v1]) := by
  have hzc : (Builtin.zeroCells z.cells 1).toList = [v0, v1] := by
    rw [hz]
    unfold Builtin.zeroCells
    simp only [List.size_toArray, List.length_cons, List.length_nil]
    rw [show Array.range (1 * (0 + 1 + 1)) = #[0, 1] from (by show Array.range 2 = #[0, 1]; decide)]
    simp
  have hst := run_storeCells_cells (P := P) b o [v0, v1] 0 w (by simpa using hc) (by simpa using hf) (by
    intro v hv'
    simp only [List.mem_cons, List.not_mem_nil, or_false] at hv'
    rcases hv' with rfl | rfl
    · exact h0
    · exact h1)
  simp only [Nat.add_zero] at hst
  simp [Builtin.clear_, run_underlying ht, hv, hzc, hst]
theorem cells_some {w : World} {g : Nat} {cur : Array Value} {ty : TypeId} (hg : w.heap[g]? = some (.cells cur ty (0, 0))) {k : Nat} (hk : k < cur.size) : (w.cell? ⟨g, k, none⟩) = some cur[k] ∧ w.frozen? ⟨g, k, none⟩ = false := by
  constructor
  · unfold World.cell?
    rw [show w.heap[(⟨g, k, none⟩ : Addr).block]? = _ from hg]
    simp only []
    rw [Array.getElem?_eq_getElem hk]
    rfl
  · unfold World.frozen?
    rw [show w.heap[(⟨g, k, none⟩ : Addr).block]? = _ from hg]
    simp
set_option maxHeartbeats 4000000 in
set_option maxRecDepth 1000000 in
theorem del_raw (g n cap i j : Nat) (cur : Array Value) (w : World) (hg : w.heap[g]? = some (.cells cur 62 (0, 0))) (hij : i < j) (hj1 : j ≤ i + 1) (hj : j ≤ n) (hnc : n ≤ cap) (hcm : cap ≤ maxLen) (hcs : cur.size = cap * 2) (h1c : ∀ v ∈ cur.toList.take (n * 2), v.oneCell' = true) :
    Calls Try.prog 45 #[.slice (some ⟨g, 0, none⟩) n cap, .int .i64 i, .int .i64 j] w fun e w' => e = .returned (.slice (some ⟨g, 0, none⟩) (n - 1) cap) ∧
      w' = (w.drew.setCells g (i * 2) ((cur.toList.take (n * 2)).drop (j * 2))).setCells g ((n - 1) * 2) [.string ⟨#[]⟩, .int .i64 0] := by
  have mixed : Try.prog.follows .mixedOrders = true := by kernel_rfl
  obtain ⟨i0, hi0, hz0, hz1, hz2⟩ := info_parts ty62
  obtain ⟨news, hnews⟩ : ∃ news, news = (cur.toList.take (n * 2)).drop (j * 2) := ⟨_, rfl⟩
  have hnl : news.length = (n - j) * 2 := by rw [hnews]; simp; omega
  have hcap : cap ≤ 9223372036854775807 := by simpa [maxLen] using hcm
  have hget : ∀ t u, news[t]? = some u → w.drew.cell? ⟨g, j * 2 + t, none⟩ = some u := by
    intro t u hu
    have ht : t < news.length := (List.getElem?_eq_some_iff.1 hu).1
    rw [hnl] at ht
    rw [hnews, List.getElem?_drop, List.getElem?_take_of_lt (by omega), Array.getElem?_toList] at hu
    have hlt : j * 2 + t < cur.size := by omega
    show w.cell? _ = _
    rw [(cells_some hg hlt).1, ← hu, Array.getElem?_eq_getElem hlt]
  obtain ⟨A, hA, hsrc⟩ : ∃ A : Addr, (if cap = j then some (⟨g, 0, none⟩ : Addr) else some ⟨g, j * 2, none⟩) = some A ∧ Hid (∀ t u, news[t]? = some u → w.drew.cell? (A.add t) = some u) := by
    by_cases h : cap = j
    · refine ⟨⟨g, 0, none⟩, by simp [h], fun t u hu => ?_⟩
      have h0 : news.length = 0 := by rw [hnl]; omega
      rw [List.length_eq_zero_iff.1 h0] at hu
      simp at hu
    · refine ⟨⟨g, j * 2, none⟩, by simp [h], fun t u hu => ?_⟩
      rw [Addr.add_lit]
      exact hget t u hu
  have s1 : Hid (news.length = (n - j) * 2) := hnl
  have s2 : Hid (∀ u ∈ news, u.oneCell' = true) := fun u hu => h1c u (List.mem_of_mem_drop (hnews ▸ hu))
  have s3 : Hid (∀ t, t < news.length → (w.drew.cell? ⟨g, 0 + i * 2 + t, none⟩).isSome = true ∧ w.drew.frozen? ⟨g, 0 + i * 2 + t, none⟩ = false) := by
    intro t ht
    rw [hnl] at ht
    have hlt : 0 + i * 2 + t < cur.size := by omega
    exact ⟨by show (w.cell? _).isSome = true; rw [(cells_some hg hlt).1]; rfl, (cells_some hg hlt).2⟩
  obtain ⟨W1, hW1⟩ : ∃ W1, W1 = w.drew.setCells g (0 + i * 2) news := ⟨_, rfl⟩
  obtain ⟨cur1, hg1, hs1, _, _⟩ := setCells_row g 62 news (0 + i * 2) w.drew cur hg (by rw [hnl]; omega)
  rw [← hW1] at hg1
  have hcl : ∀ ty, (Builtin.clear_ #[26] ty #[.slice (some ⟨g, (i + (n - j)) * 2, none⟩) (n - (i + (n - j))) (cap - (i + (n - j)))]).run Try.prog W1 = .ok (.tuple #[]) (W1.setCells g ((n - 1) * 2) [.string ⟨#[]⟩, .int .i64 0]) :=
    fun ty => by
     rw [show n - (i + (n - j)) = 1 by omega, show i + (n - j) = n - 1 by omega]
     exact run_clear_two W1 _ _ ty _ Try.underlying26 Try.zeroValue62 rfl rfl rfl g ((n - 1) * 2) _ (fun j hj => by rw [(cells_some hg1 (by omega)).1]; rfl) (fun j hj => (cells_some hg1 (by omega)).2)
  have hW : Hid (W1 = w.drew.setCells g (0 + i * 2) news) := hW1
  have hX : Aside (W1 = w.drew.setCells g (i * 2) ((cur.toList.take (n * 2)).drop (j * 2))) := by rw [hW1, Nat.zero_add, hnews]; rfl
  have hic : i ≤ cap := by omega
  have hjc : j ≤ cap := by omega
  clear hW1 hg1 hs1 hg hget hnews hnl h1c hcs hcm
  go_enter Try.func45, Try.ntmps45
  go_wp2_with fail
  go_region_law_o (refine step_append_room rfl (.tmp 22) (.tmp 25) 26 rfl 62 i0 2 Try.underlying26 hi0 hz1 g 0 i cap (by simp [Act.eval, Act.put]) A (n - j) (cap - j) news (by simp [Act.eval, Act.put]) s1.out hsrc.out s2.out (by omega) s3.out ?_; rw [← hW.out])
  go_wp2
  go_ret
  exact ⟨by rw [show n - 1 = i + (n - j) by omega]; rfl, by rw [hX.out]⟩
theorem del_set : DelAt Try.prog 45 62 2 (fun v => v.oneCell' = true) := by
  intro g n cap i cur w hg hi hnc hcm hcs h1c
  refine (del_raw g n cap i (i + 1) cur w hg (by omega) (by omega) (by omega) hnc hcm hcs h1c).mono ?_
  rintro e w' ⟨rfl, rfl⟩
  have hl : cur.toList.length = cap * 2 := by simpa using hcs
  obtain ⟨news, hnews⟩ : ∃ news, news = (cur.toList.take (n * 2)).drop ((i + 1) * 2) := ⟨_, rfl⟩
  have hnl : news.length = (n - (i + 1)) * 2 := by rw [hnews]; simp; omega
  rw [← hnews]
  obtain ⟨cur1, a1, a2, a3, a4⟩ := setCells_row g 62 news (i * 2) w.drew cur hg (by omega)
  obtain ⟨cur2, b1, b2, b3, b4⟩ := setCells_row g 62 [.string ⟨#[]⟩, .int .i64 0] ((n - 1) * 2) (w.drew.setCells g (i * 2) news) cur1 a1 (by simp; omega)
  refine ⟨rfl, cur2, b1, by omega, ?_, ⟨b4.os.trans a4.os, b4.tape.trans a4.tape, b4.output.trans a4.output, Nat.le_trans a4.size b4.size, fun k hk hne => (b4.block k (Nat.lt_of_lt_of_le hk a4.size) hne).trans (a4.block k hk hne)⟩⟩
  have hl1 : cur1.toList.length = cap * 2 := by simp; omega
  have e1 : (cur.toList.take (n * 2)).take (i * 2) = cur.toList.take (i * 2) := by rw [List.take_take, Nat.min_eq_left (by omega)]
  rw [b3, List.append_assoc, List.take_append_of_le_length (by rw [List.length_take]; omega), List.take_take, Nat.min_self, a3, e1]
  rw [List.take_append_of_le_length (by rw [List.length_append, List.length_take]; omega), List.take_of_length_le (by rw [List.length_append, List.length_take]; omega)]
theorem one_cells {zs : List NV} (S : Nat → Prop) (w : World) (xs : List Value) (h : RelL S w (zs.map encNV).flatten xs) : ∀ v ∈ xs, v.oneCell' = true := by
  induction zs generalizing xs with
  | nil => simp only [List.map_nil, List.flatten_nil, RelL] at h; subst h; simp
  | cons z zs ih =>
    simp only [List.map_cons, List.flatten_cons, encNV, List.cons_append, List.nil_append, RelL, Rel] at h
    obtain ⟨_, us', rfl, rfl, _, us2, rfl, rfl, h⟩ := h
    intro v hv
    rcases List.mem_cons.1 hv with e | hv
    · subst e; rfl
    · rcases List.mem_cons.1 hv with e | hv
      · subst e; rfl
      · exact ih us2 h v hv
theorem map_erase9 {α β : Type} (f : α → β) : ∀ (l : List α) (k : Nat), (l.map f).eraseIdx k = (l.eraseIdx k).map f
  | [], _ => by simp
  | _ :: _, 0 => by simp
  | a :: l, k + 1 => by simp [map_erase9 f l k]
/-- One setting taken out, in place. -/
theorem delN_c {zs : List NV} {i : Nat} {x y : Int} (hx : x = (i : Int)) (hy : y = x + 1) (hi : i < zs.length) :
    FnE (α := Unit) Try.prog 45 [.h 0, .p (.v (.int .i64 x)), .p (.v (.int .i64 y))] [(0, .vec 62 2 (zs.map encNV))] [] (fun _ => True) (fun _ => .h 0) (fun _ => [(0, .vec 62 2 ((zs.eraseIdx i).map encNV))]) := by
  rw [← map_erase9]
  exact del_fnI del_set hx hy (by rw [List.length_map]; exact hi) (fun S w xs h => one_cells S w xs h)
end Go.Proofs.Ytdlpkfihjfmgeaa
