/- What is sorted of an iterator over a slice: in the calculus' words. -/
import Derived.Test.YtdpanmnnfamfmaaW4
import Derived.Test.YtdpanmnnfamfmaaSh
import Derived.Test.YtdpanmnnfamfmaaV24
import Derived.Test.YtdpanmnnfamfmaaD46
import Derived.Lib.SlKeysI
set_option linter.all false
namespace Go.Proofs.Ytdpanmnnfamfmaa
open Go Go.V Go.RowKit Go.Shelf Go.Sort Go.Maps
set_option maxRecDepth 100000 in
set_option maxHeartbeats 2000000 in
theorem sorted_calls (Bs Bo : Nat) (sv : Value) (zs : List Int) (hlen : zs.length ≤ 1048576) (w : World) (hBs : Bs < w.heap.size) (hc : w.cell? ⟨Bs, Bo, none⟩ = some sv) (hI : IntsIn w.heap.size w sv zs) :
    Calls Try.prog 53 #[.func (.func 80) #[] #[.pointer (some ⟨Bs, Bo, none⟩)]] w fun e W' => ∃ v, e = .returned v ∧ W'.ownsRow w.heap.size 2 1 v zs.length ((sortZ zs).map (Value.int .i64)) ∧ Below w.heap.size w W' := by
  refine (callsIn_wide (n := 6)).1 ?_
  refine callsIn_of_wp Try.func53 rfl trivial ?_ rfl
  simp only [Try.ntmps53, List.size_toArray, List.length_cons, List.length_nil, Nat.reduceAdd, Nat.reduceSub, Array.replicate_succ, Array.replicate_zero, List.push_toArray, List.append_toArray, List.nil_append, List.cons_append]
  gi_wp2
  refine ⟨trivial, (collect_in Fence.wide 5 trivial trivial trivial rfl (by omega) Bs Bo sv zs hlen _ hBs hc hI).mono ?_⟩
  rintro e W ⟨v, rfl, hrow, hb⟩
  rcases hrow.2 with ⟨rfl, hz⟩ | ⟨gb, cap, cur, rfl, hbase, hgb, r1, r2, r3, r4⟩
  · have hss : zs = [] := List.eq_nil_of_length_eq_zero hz
    subst hss
    gi_wp2
    refine ⟨trivial, (callsIn_wide.2 (Try.slices_Sort_int_none none 0 W)).mono ?_⟩
    rintro e w' ⟨rfl, rfl⟩
    gi_wp2
    go_ret
    exact ⟨_, rfl, by simpa [sortZ] using hrow, hb⟩
  · have hH : Holds (Value.int .i64) W gb 0 zs.toArray := holds_of_block_i hgb (by simpa using r4)
    have hgl : gb < W.heap.size := (Array.getElem?_eq_some_iff.1 hgb).1
    gi_wp2
    refine ⟨trivial, (callsIn_wide.2 (Try.slices_Sort_int gb 0 cap zs W hH hgl (by omega))).mono ?_⟩
    rintro e w' ⟨rfl, nn, os, rfl⟩
    gi_wp2
    go_ret
    exact ⟨_, rfl, ownsRow_sorted_i (by simp [sortZ]) hbase hgb r1 r2 r3, hb.grown (grownBy_sorted_i _) hb.size (fun j hj => by cases hj; exact hbase)⟩
theorem relI' (S : Nat → Prop) (w : World) : ∀ (zs : List Int), RelL S w (zs.map Go.V.encI).flatten (zs.map (Value.int .i64))
  | [] => by simp [RelL]
  | s :: ss => by
    simp only [List.map_cons, List.flatten_cons, Go.V.encI, List.cons_append, List.nil_append, RelL]
    exact ⟨_, _, rfl, by simp only [Rel], relI' S w ss⟩
/-- slices.Sorted of slices.Values: a new slice of one's own. -/
theorem sorted_mk {zs : List Int} (hlen : zs.length ≤ 1048576) : Mk Try.prog 53 [.clo 80 [.ptr [.sl 1 (zs.map Go.V.encI)]]] (.h 0) 2 1 ((sortZ zs).map Go.V.encI) := by
  intro w us hr
  simp only [RelL, Rel] at hr
  obtain ⟨u, us', rfl, ⟨caps, rfl, p, ps, hps, ⟨b, o, rfl, _, hb, hat⟩, rfl⟩, rfl⟩ := hr
  simp only [RelAt, Rel] at hat
  obtain ⟨⟨sv, hc, a, cap, rfl, hcap, hrows⟩, _⟩ := hat
  obtain rfl : caps = #[.pointer (some ⟨b, o, none⟩)] := by
    have := congrArg List.toArray hps
    simpa using this
  rw [List.length_map] at hc
  have hI : IntsIn w.heap.size w (.slice a zs.length cap) zs := by
    rcases hrows with h0 | ⟨b2, o2, rfl, _, hb2, hrr⟩
    · have hz : zs = [] := List.map_eq_nil_iff.1 h0
      subst hz
      exact .inl ⟨a, cap, rfl, rfl⟩
    · refine .inr ⟨b2, o2, cap, rfl, hb2, fun j x hx => ?_⟩
      have h2 := (cells_of_rows hrr hx).2
      simp only [Go.V.encI, RelAt, Rel] at h2
      obtain ⟨⟨u, h3, h4⟩, _⟩ := h2
      rw [← h4]; simpa using h3
  refine (sorted_calls b o (.slice a zs.length cap) zs hlen w hb hc hI).mono ?_
  rintro e w' ⟨v, rfl, hrow, hbel⟩
  have hl : ((sortZ zs).map Go.V.encI).length = zs.length := by simp [sortZ]
  refine ⟨v, v, v.ownBlock.toList, rfl, ⟨(sortZ zs).map (Value.int .i64), relI' _ _ _, (fun r hr => by obtain ⟨x, _, rfl⟩ := List.mem_map.1 hr; rfl), ?_, rfl⟩, by simp only [ARel], ?_, hbel⟩
  · rw [hl]; exact ⟨hrow.1, hrow.2.imp id (fun ⟨g, cap, cur, e1, e2, e3⟩ => ⟨g, cap, cur, e1, Nat.zero_le _, e3⟩)⟩
  · intro k hk
    have hk2 : v.ownBlock = some k := by cases h9 : v.ownBlock with
      | none => rw [h9] at hk; cases hk
      | some k2 => rw [h9] at hk; simp at hk; rw [hk]
    exact hrow.lt k hk2
end Go.Proofs.Ytdpanmnnfamfmaa
