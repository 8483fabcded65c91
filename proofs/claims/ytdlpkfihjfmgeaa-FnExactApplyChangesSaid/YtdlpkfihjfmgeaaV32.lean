/- A row taken out of a slice of one's own: the library's Delete, as a thing of one's own. -/
import Derived.Test.YtdlpkfihjfmgeaaV20
import Derived.Lib.RowBridge
import Derived.Deep.Draws
import Derived.Laws.IdiomCopy
set_option linter.all false
namespace Go.V
open Go
/-- What the library's Delete does, of one row: in place. -/
def DelAt (P : Program) (f : FuncId) (ty : TypeId) (rs : Nat) (okc : Value → Prop) : Prop :=
  ∀ (g n cap i : Nat) (cur : Array Value) (w : World), w.heap[g]? = some (.cells cur ty (0, 0)) → i < n → n ≤ cap → cap ≤ maxLen → cur.size = cap * rs → (∀ v ∈ cur.toList.take (n * rs), okc v) →
    Calls P f #[.slice (some ⟨g, 0, none⟩) n cap, .int .i64 i, .int .i64 (i + 1 : Nat)] w fun e w' => e = .returned (.slice (some ⟨g, 0, none⟩) (n - 1) cap) ∧
      ∃ cur' : Array Value, w'.heap[g]? = some (.cells cur' ty (0, 0)) ∧ cur'.size = cap * rs ∧ cur'.toList.take ((n - 1) * rs) = (cur.toList.take (n * rs)).take (i * rs) ++ (cur.toList.take (n * rs)).drop ((i + 1) * rs) ∧ w.grownBy w' (some g)
theorem flat_take {α : Type} {rs : Nat} : ∀ (rows : List (List α)) (h : Nat), (∀ r ∈ rows, r.length = rs) → h ≤ rows.length → (rows.take h).flatten = rows.flatten.take (h * rs)
  | [], h, _, _ => by simp
  | r :: rows, 0, _, _ => by simp
  | r :: rows, h + 1, hl, hh => by
    have hr0 := hl r (by simp)
    simp only [List.take_succ_cons, List.flatten_cons]
    rw [flat_take rows h (fun q hq => hl q (by simp [hq])) (by simpa using hh), show (h + 1) * rs = r.length + h * rs by rw [hr0, Nat.add_mul]; omega, List.take_length_add_append]
theorem flat_drop {α : Type} {rs : Nat} : ∀ (rows : List (List α)) (h : Nat), (∀ r ∈ rows, r.length = rs) → h ≤ rows.length → (rows.drop h).flatten = rows.flatten.drop (h * rs)
  | [], h, _, _ => by simp
  | r :: rows, 0, _, _ => by simp
  | r :: rows, h + 1, hl, hh => by
    have hr0 := hl r (by simp)
    simp only [List.drop_succ_cons, List.flatten_cons]
    rw [flat_drop rows h (fun q hq => hl q (by simp [hq])) (by simpa using hh), show (h + 1) * rs = r.length + h * rs by rw [hr0, Nat.add_mul]; omega, List.drop_length_add_append]
theorem del_fnE {P : Program} {f : FuncId} {ty : TypeId} {rs : Nat} {okc : Value → Prop} {rows : List (List PV)} {i : Nat} (h : DelAt P f ty rs okc) (hi : i < rows.length)
    (hok : ∀ (S : Nat → Prop) (w : World) (xs : List Value), RelL S w rows.flatten xs → ∀ v ∈ xs, okc v) :
    FnE (α := Unit) P f [.h 0, .p (.v (.int .i64 i)), .p (.v (.int .i64 (i + 1 : Nat)))] [(0, .vec ty rs rows)] [] (fun _ => True) (fun _ => .h 0) (fun _ => [(0, .vec ty rs (rows.eraseIdx i))]) := by
  intro w0 F0 η φ w us hk hrel
  simp only [ARelL, ARel, Rel] at hrel
  obtain ⟨_, _, rfl, rfl, _, _, rfl, rfl, _, _, rfl, rfl, rfl⟩ := hrel
  obtain ⟨xs, h1, h2, h3, h4⟩ := hk.res 0 _ rfl
  obtain ⟨hl3, h3⟩ := h3
  rcases h3 with ⟨_, hn0⟩ | ⟨g, cap, cur, e0, _, hg, hnc, hcm, hcs, htk⟩
  · omega
  have hgF : g ∈ φ 0 := by rw [h4, e0]; simp [Value.ownBlock]
  have hgs : g < w.heap.size := hk.lt 0 _ g rfl hgF
  rw [e0]
  refine (h g rows.length cap i cur w hg hi hnc hcm hcs (by rw [htk]; exact hok _ w xs h1)).mono ?_
  rintro e w' ⟨rfl, cur', hg', hcs', htk', hgr⟩
  have hS : SOf φ ((900, Res.cust (extC w0 F0)) :: [(0, Res.vec ty rs rows)]) g := ⟨0, _, rfl, hgF⟩
  have hsame : Same (SOf φ ((900, Res.cust (extC w0 F0)) :: [(0, Res.vec ty rs rows)])) w w' := ⟨hgr.size, fun k hk2 hns => hgr.block k hk2 (fun e => hns (by cases e; exact hS))⟩
  have hSS : ∀ k, SOf φ ((900, Res.cust (extC w0 F0)) :: [(0, Res.vec ty rs (rows.eraseIdx i))]) k ↔ SOf φ ((900, Res.cust (extC w0 F0)) :: [(0, Res.vec ty rs rows)]) k := by
    intro k
    constructor
    · rintro ⟨id, r, h5, h6⟩
      rw [get_cons] at h5
      split at h5
      · next e => subst e; exact ⟨900, _, rfl, h6⟩
      · rw [get_cons] at h5
        split at h5
        · next e => subst e; exact ⟨0, _, rfl, h6⟩
        · cases h5
    · rintro ⟨id, r, h5, h6⟩
      rw [get_cons] at h5
      split at h5
      · next e => subst e; exact ⟨900, _, rfl, h6⟩
      · rw [get_cons] at h5
        split at h5
        · next e => subst e; exact ⟨0, _, rfl, h6⟩
        · cases h5
  have hids : ∀ id r, get ((900, Res.cust (extC w0 F0)) :: [(0, Res.vec ty rs (rows.eraseIdx i))]) id = some r → (id = 900 ∧ r = Res.cust (extC w0 F0)) ∨ (id = 0 ∧ r = Res.vec ty rs (rows.eraseIdx i)) := by
    intro id r h5
    rw [get_cons] at h5
    split at h5
    · next e => left; exact ⟨e.symm, (Option.some.inj h5).symm⟩
    · rw [get_cons] at h5
      split at h5
      · next e => right; exact ⟨e.symm, (Option.some.inj h5).symm⟩
      · cases h5
  have hget : ∀ id r, get ((900, Res.cust (extC w0 F0)) :: [(0, Res.vec ty rs (rows.eraseIdx i))]) id = some r → ∃ r', get ((900, Res.cust (extC w0 F0)) :: [(0, Res.vec ty rs rows)]) id = some r' := by
    intro id r h5
    rcases hids id r h5 with ⟨rfl, _⟩ | ⟨rfl, _⟩
    · exact ⟨_, rfl⟩
    · exact ⟨_, rfl⟩
  refine ⟨(), trivial, .slice (some ⟨g, 0, none⟩) (rows.length - 1) cap, fun k => if k = 0 then .slice (some ⟨g, 0, none⟩) (rows.length - 1) cap else η k, φ, rfl, ⟨?_, ?_, ?_⟩, ?_, by simp, ?_, ?_⟩
  · intro id r h5
    rcases hids id r h5 with ⟨rfl, rfl⟩ | ⟨rfl, rfl⟩
    · have hx := hk.res 900 _ rfl
      simp only [show ¬ ((900 : Nat) = 0) by decide, if_false]
      refine RRes.mono hsame (fun k _ hk3 => (hSS k).1 hk3) (fun k hk3 => ?_) _ (fun i hi => rfl) hx
      exact hgr.block k (hk.lt 900 _ k rfl hk3) (fun e => by
        cases e
        have := hk.disj 900 0 _ _ g rfl rfl hk3 hgF
        cases this)
    · simp only [if_true]
      have hel : (rows.eraseIdx i).length = rows.length - 1 := List.length_eraseIdx_of_lt hi
      have hef : (rows.eraseIdx i).flatten = rows.flatten.take (i * rs) ++ rows.flatten.drop ((i + 1) * rs) := by
        rw [List.eraseIdx_eq_take_drop_succ, List.flatten_append, flat_take rows i h2 (by omega), flat_drop rows (i + 1) h2 (by omega)]
      refine ⟨xs.take (i * rs) ++ xs.drop ((i + 1) * rs), ?_, fun r hr => h2 r ((List.eraseIdx_sublist _ _).subset hr), ⟨?_, .inr ⟨g, cap, cur', by rw [hel], Nat.zero_le _, hg', by rw [hel]; omega, hcm, hcs', by rw [hel, htk', htk]⟩⟩, by rw [h4, e0]; rfl⟩
      · rw [hef]
        exact RelL.mono hsame (fun k _ hk3 => (hSS k).1 hk3) _ _ (relL_append _ _ _ _ (relL_take _ _ _ h1) (relL_drop _ _ _ h1))
      · rw [hel, List.length_append, List.length_take, List.length_drop, hl3]
        have e1 : i * rs ≤ rows.length * rs := Nat.mul_le_mul_right _ (by omega)
        rw [Nat.min_eq_left e1, ← Nat.sub_mul, ← Nat.add_mul]
        congr 1; omega
  · intro id id' r r' k h5 h6 h7 h8
    obtain ⟨_, e5⟩ := hget id r h5
    obtain ⟨_, e6⟩ := hget id' r' h6
    exact hk.disj id id' _ _ k e5 e6 h7 h8
  · intro id r k h5 h6
    obtain ⟨_, e5⟩ := hget id r h5
    exact Nat.lt_of_lt_of_le (hk.lt id _ k e5 h6) hgr.size
  · simp only [ARel, if_true]
  · intro id r k h5 h6
    obtain ⟨_, e5⟩ := hget id r h5
    exact .inl ⟨id, _, e5, h6⟩
  · exact ⟨hgr.os, hgr.tape, hgr.output, hgr.size, fun k hk2 hns => hsame.block k hk2 hns⟩
theorem setCells_row (g : Nat) (ty : TypeId) : ∀ (vs : List Value) (o : Nat) (w : World) (cur : Array Value), w.heap[g]? = some (.cells cur ty (0, 0)) → o + vs.length ≤ cur.size →
    ∃ cur' : Array Value, (w.setCells g o vs).heap[g]? = some (.cells cur' ty (0, 0)) ∧ cur'.size = cur.size ∧ cur'.toList = cur.toList.take o ++ vs ++ cur.toList.drop (o + vs.length) ∧ w.grownBy (w.setCells g o vs) (some g)
  | [], o, w, cur, h, _ => ⟨cur, h, rfl, by simp, ⟨rfl, rfl, rfl, Nat.le_refl _, fun _ _ _ => rfl⟩⟩
  | v :: vs, o, w, cur, h, hl => by
    have h1 : (w.setCell ⟨g, o, none⟩ v).heap[g]? = some (.cells (cur.setIfInBounds o v) ty (0, 0)) := heap_setCell_same w g o cur ty v h
    rw [List.length_cons] at hl
    obtain ⟨cur', h2, h3, h4, h5⟩ := setCells_row g ty vs (o + 1) (w.setCell ⟨g, o, none⟩ v) _ h1 (by simp; omega)
    refine ⟨cur', h2, by simpa using h3, ?_, ?_⟩
    · rw [h4, Array.toList_setIfInBounds]
      have ho : o < cur.toList.length := by simp; omega
      rw [List.take_set, List.drop_set_of_lt (by omega), List.take_add_one, List.getElem?_eq_getElem ho]
      simp only [Option.toList_some]
      rw [List.set_append_right _ _ (by rw [List.length_take]; omega)]
      have : o - (List.take o cur.toList).length = 0 := by rw [List.length_take]; omega
      rw [this]
      simp only [List.set_cons_zero, List.append_assoc, List.singleton_append, List.length_cons, List.cons_append, List.nil_append]
      rw [show o + 1 + vs.length = o + (vs.length + 1) by omega]
    · refine ⟨h5.os, h5.tape, h5.output, Nat.le_trans (by simp) h5.size, fun k hk hne => ?_⟩
      refine (h5.block k (by simpa using hk) hne).trans ?_
      exact heap_setCell_other w ⟨g, o, none⟩ k v (fun e => hne (by rw [e]))
theorem del_str {P : Program} {f : FuncId} {ty : TypeId}
    (h : ∀ (b off n c i j : Nat) (Sx : Nat → ByteArray) (w : World), n ≤ c → c ≤ 9223372036854775807 → i ≤ j → j ≤ n → (∀ i, i < n → w.cell? ⟨b, off + i, none⟩ = some (.string (Sx i))) → (∀ j, j < n → w.frozen? ⟨b, off + j, none⟩ = false) →
      Calls P f #[.slice (some ⟨b, off, none⟩) n c, .int .i64 i, .int .i64 j] w fun e w' => e = .returned (.slice (some ⟨b, off, none⟩) (n - (j - i)) c) ∧ ∃ q, w' = (w.drewN q).setCells b off (((Lib.strsOf Sx n).take i ++ (Lib.strsOf Sx n).drop j ++ List.replicate (j - i) []).map (fun l : List UInt8 => Value.string ⟨l.toArray⟩))) :
    DelAt P f ty 1 (fun v => ∃ s, v = .string s) := by
  intro g n cap i cur w hg hi hnc hcm hcs hstr
  simp only [Nat.mul_one] at hcs hstr ⊢
  have hlen : n ≤ cur.toList.length := by simp; omega
  have hget : ∀ k (hk : k < n), ∃ s, cur.toList[k]'(by omega) = .string s := fun k hk => hstr _ (by rw [List.mem_take_iff_getElem]; exact ⟨k, by omega, rfl⟩)
  obtain ⟨Sx, hSx⟩ : ∃ Sx : Nat → ByteArray, ∀ k (hk : k < n), cur.toList[k]'(by omega) = .string (Sx k) := by
    refine ⟨fun k => if hk : k < n then (hget k hk).choose else ⟨#[]⟩, fun k hk => ?_⟩
    simp only [dif_pos hk]
    exact (hget k hk).choose_spec
  have hcell : ∀ k, k < n → w.cell? ⟨g, 0 + k, none⟩ = some (.string (Sx k)) := fun k hk => by
    unfold World.cell?
    rw [show w.heap[(⟨g, 0 + k, none⟩ : Addr).block]? = _ from hg]
    simp only [Nat.zero_add]
    have := hSx k hk
    rw [Array.getElem_toList] at this
    rw [Array.getElem?_eq_getElem (by omega), this]
    rfl
  have hfr : ∀ k, k < n → w.frozen? ⟨g, 0 + k, none⟩ = false := fun k hk => by
    unfold World.frozen?
    rw [show w.heap[(⟨g, 0 + k, none⟩ : Addr).block]? = _ from hg]
    simp
  refine (h g 0 n cap i (i + 1) Sx w hnc (by simpa [maxLen] using hcm) (by omega) (by omega) hcell hfr).mono ?_
  rintro e w' ⟨rfl, q, rfl⟩
  have hz : (cur.toList.take n) = (Lib.strsOf Sx n).map (fun l : List UInt8 => Value.string ⟨l.toArray⟩) := by
    refine List.ext_getElem (by simp [Lib.strsOf]; omega) (fun k h1 h2 => ?_)
    rw [List.getElem_take, hSx k (by simp at h1; omega)]
    simp [Lib.strsOf]
  obtain ⟨cur', h2, h3, h4, h5⟩ := setCells_row g ty (((Lib.strsOf Sx n).take i ++ (Lib.strsOf Sx n).drop (i + 1) ++ List.replicate (i + 1 - i) []).map (fun l : List UInt8 => Value.string ⟨l.toArray⟩)) 0 (w.drewN q) cur hg (by simp [Lib.strsOf]; omega)
  refine ⟨by rw [show n - (i + 1 - i) = n - 1 by omega], cur', h2, by omega, ?_, ⟨h5.os, h5.tape, h5.output, h5.size, h5.block⟩⟩
  rw [h4, hz]
  simp only [List.take_zero, List.nil_append, List.map_append, List.map_take, List.map_drop]
  rw [List.append_assoc, List.take_append_of_le_length (by simp [Lib.strsOf]; omega)]
  rw [List.take_of_length_le (by simp [Lib.strsOf]; omega)]
theorem str_cells {zs : List (List UInt8)} (S : Nat → Prop) (w : World) (xs : List Value) (h : RelL S w (zs.map encS).flatten xs) : ∀ v ∈ xs, ∃ s, v = .string s := by
  induction zs generalizing xs with
  | nil => simp only [List.map_nil, List.flatten_nil, RelL] at h; subst h; simp
  | cons z zs ih =>
    simp only [List.map_cons, List.flatten_cons, Go.V.encS, List.singleton_append, RelL, Rel] at h
    obtain ⟨_, us', rfl, rfl, h⟩ := h
    intro v hv
    rcases List.mem_cons.1 hv with e | e
    · exact ⟨_, e⟩
    · exact ih us' h v e
end Go.V
namespace Go.V
theorem del_fnI {P : Program} {f : FuncId} {ty : TypeId} {rs : Nat} {okc : Value → Prop} {rows : List (List PV)} {i : Nat} {x y : Int} (h : DelAt P f ty rs okc) (hx : x = (i : Int)) (hy : y = x + 1) (hi : i < rows.length)
    (hok : ∀ (S : Nat → Prop) (w : World) (xs : List Value), RelL S w rows.flatten xs → ∀ v ∈ xs, okc v) :
    FnE (α := Unit) P f [.h 0, .p (.v (.int .i64 x)), .p (.v (.int .i64 y))] [(0, .vec ty rs rows)] [] (fun _ => True) (fun _ => .h 0) (fun _ => [(0, .vec ty rs (rows.eraseIdx i))]) := by
  subst hy; subst hx; exact del_fnE h hi hok
end Go.V
