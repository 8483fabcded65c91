/- Changes applied to a state. -/
import Derived.Test.YtdlpkfihjfmgeaaD33
import Derived.Test.YtdlpkfihjfmgeaaD12
set_option linter.all false
namespace Go.V
open Go
def okChg (c : Chg) : Bool := (decide (1 ≤ c.kind) && decide (c.kind ≤ 2)) && okSetting c.set
/-- The changes, one by one. -/
def applyA : List Chg → List NV → List NV × Int
  | [], ms => (ms, 0)
  | c :: cs, ms =>
    if c.kind = 1 then (if (setL ms c.set).length > 24 then ([], 5) else applyA cs (setL ms c.set))
    else if idxOf (nameIs c.set.name) ms < 0 then ([], 3)
    else if ms[(idxOf (nameIs c.set.name) ms).toNat]? = some c.set then applyA cs (ms.eraseIdx (idxOf (nameIs c.set.name) ms).toNat) else ([], 6)
def applyC (ms : List NV) (cs : List Chg) : List NV × Int := if okState ms = true ∧ cs.all okChg = true then applyA cs ms else ([], 1)
structure AJ (ms0 : List NV) (cs : List Chg) (k : Nat) (ms : List NV) : Prop where
  le : k ≤ cs.length
  rise : Rises (namesOf ms)
  len : ms.length ≤ 24
  names : ∀ x ∈ ms, x.name.length ≤ 1048576
  run : applyA (cs.drop k) ms = applyA cs ms0
section
variable {ms0 ms : List NV} {cs : List Chg} {k n : Nat} {c : Chg}
theorem AJ.start (h : okState ms0 = true) (hs : ∀ x ∈ ms0, x.name.length ≤ 1048576) : AJ ms0 cs 0 ms0 := ⟨Nat.zero_le _, state_rises h, state_len h, hs, rfl⟩
theorem AJ.fin (h : AJ ms0 cs cs.length ms) : applyA cs ms0 = (ms, 0) := by have := h.run; rw [List.drop_length] at this; exact this.symm
theorem drop_at (hc : cs[k]? = some c) : cs.drop k = c :: cs.drop (k + 1) := by
  have hl := lt_of_get hc
  rw [List.drop_eq_getElem_cons hl]
  rw [List.getElem?_eq_getElem hl] at hc
  rw [Option.some.inj hc]
theorem AJ.step (h : AJ ms0 cs k ms) (hc : cs[k]? = some c) : applyA cs ms0 = applyA (c :: cs.drop (k + 1)) ms := by rw [← drop_at hc]; exact h.run.symm
theorem setL_mem {xs : List NV} {e : NV} : ∀ x ∈ setL xs e, x = e ∨ x ∈ xs := by
  intro x hx
  unfold setL at hx
  rcases List.mem_append.1 hx with h | h
  · exact .inr (List.mem_filter.1 h).1
  · rcases List.mem_cons.1 h with h | h
    · exact .inl h
    · exact .inr (List.mem_filter.1 h).1
theorem AJ.set (h : AJ ms0 cs k ms) (hc : cs[k]? = some c) (hk : c.kind = 1) (hl : ¬ (setL ms c.set).length > 24) (hs : c.set.name.length ≤ 1048576) : AJ ms0 cs (k + 1) (setL ms c.set) := by
  refine ⟨lt_of_get hc, setL_rises h.rise, by omega, fun x hx => ?_, ?_⟩
  · rcases setL_mem x hx with e | e
    · rw [e]; exact hs
    · exact h.names x e
  · rw [h.step hc]; simp only [applyA, if_pos hk, if_neg hl]
theorem AJ.full (h : AJ ms0 cs k ms) (hc : cs[k]? = some c) (hk : c.kind = 1) (hl : (setL ms c.set).length > 24) : applyA cs ms0 = ([], 5) := by
  rw [h.step hc]; simp only [applyA, if_pos hk, if_pos hl]
theorem AJ.miss (h : AJ ms0 cs k ms) (hc : cs[k]? = some c) (hk : ¬ c.kind = 1) (hi : idxOf (nameIs c.set.name) ms < 0) : applyA cs ms0 = ([], 3) := by
  rw [h.step hc]; simp only [applyA, if_neg hk, if_pos hi]
theorem AJ.other (h : AJ ms0 cs k ms) (hc : cs[k]? = some c) (hk : ¬ c.kind = 1) (hi : idxOf (nameIs c.set.name) ms = (n : Int)) {y : NV} (hy : ms[n]? = some y) (hne : ¬ y = c.set) : applyA cs ms0 = ([], 6) := by
  rw [h.step hc]; simp only [applyA, if_neg hk, hi, Int.toNat_natCast, hy]
  rw [if_neg (by omega), if_neg (fun e => hne (Option.some.inj e))]
theorem AJ.del (h : AJ ms0 cs k ms) (hc : cs[k]? = some c) (hk : ¬ c.kind = 1) (hi : idxOf (nameIs c.set.name) ms = (n : Int)) {y : NV} (hy : ms[n]? = some y) (he : y = c.set) : AJ ms0 cs (k + 1) (ms.eraseIdx n) := by
  have hs := List.eraseIdx_sublist ms n
  refine ⟨lt_of_get hc, h.rise.sublist (hs.map NV.name), Nat.le_trans hs.length_le h.len, fun x hx => h.names x (hs.subset hx), ?_⟩
  rw [h.step hc]; simp only [applyA, if_neg hk, hi, Int.toNat_natCast, hy]
  rw [if_neg (by omega), if_pos (by rw [he])]
end
section
variable {ms : List NV} {e y : NV} {n : Nat}
theorem idx_at9 (h : 0 ≤ idxOf (nameIs e.name) ms) : ∃ (n : Nat) (y : NV), idxOf (nameIs e.name) ms = (n : Int) ∧ ms[n]? = some y ∧ y.name = e.name := by
  unfold idxOf at h ⊢
  cases hf : ms.findIdx? (nameIs e.name) with
  | none => rw [hf] at h; simp at h
  | some i =>
    obtain ⟨hlt, hp, _⟩ := List.findIdx?_eq_some_iff_getElem.1 hf
    exact ⟨i, ms[i], rfl, List.getElem?_eq_getElem hlt, by simpa [nameIs] using hp⟩
/-- What is set where it stands. -/
theorem set_at9 (hr : Rises (namesOf ms)) (hy : ms[n]? = some y) (hn : y.name = e.name) : ms.set n e = setL ms e := by
  have hl := lt_of_get hy
  have hd : ms = ms.take n ++ y :: ms.drop (n + 1) := by
    have h1 := List.take_append_drop n ms
    rw [List.drop_eq_getElem_cons hl] at h1
    rw [List.getElem?_eq_getElem hl] at hy
    rw [Option.some.inj hy] at h1
    exact h1.symm
  have hlo : ∀ x ∈ ms.take n, Op.bytesLess x.name e.name = true := by
    intro x hx
    obtain ⟨i, hi⟩ := List.getElem?_of_mem hx
    have hil := lt_of_get hi
    rw [List.length_take] at hil
    rw [List.getElem?_take_of_lt (by omega)] at hi
    rw [← hn]; exact rises_at hr (by omega) hi hy
  have hhi : ∀ x ∈ ms.drop (n + 1), Op.bytesLess e.name x.name = true := by
    intro x hx
    obtain ⟨i, hi⟩ := List.getElem?_of_mem hx
    rw [List.getElem?_drop] at hi
    rw [← hn]; exact rises_at hr (by omega) hy hi
  have hset : ms.set n e = ms.take n ++ e :: ms.drop (n + 1) := List.set_eq_take_append_cons_drop.trans (if_pos hl)
  have f1 : ms.filter (fun x => Op.bytesLess x.name e.name) = ms.take n := by
    conv => lhs; rw [hd]
    rw [List.filter_append, List.filter_cons_of_neg (by rw [hn, bytesLess_irrefl]; decide), List.filter_eq_self.2 (fun x hx => hlo x hx), List.filter_eq_nil_iff.2 (fun x hx => by rw [bytesLess_asymm (hhi x hx)]; decide), List.append_nil]
  have f2 : ms.filter (fun x => Op.bytesLess e.name x.name) = ms.drop (n + 1) := by
    conv => lhs; rw [hd]
    rw [List.filter_append, List.filter_cons_of_neg (by rw [hn, bytesLess_irrefl]; decide), List.filter_eq_self.2 (fun x hx => hhi x hx), List.filter_eq_nil_iff.2 (fun x hx => by rw [bytesLess_asymm (hlo x hx)]; decide), List.nil_append]
  rw [hset]; unfold setL; rw [f1, f2]
theorem none_names (h : idxOf (nameIs e.name) ms < 0) : ∀ x ∈ ms, ¬ x.name = e.name := fun x hx => by
  have := idx_none h x hx; simpa [nameIs] using this
theorem setL_perm (h : ∀ x ∈ ms, ¬ x.name = e.name) : (setL ms e).Perm (ms ++ [e]) := by
  have hf : ms.filter (fun x => Op.bytesLess e.name x.name) = ms.filter (fun x => !Op.bytesLess x.name e.name) := by
    apply List.filter_congr
    intro x hx
    cases h1 : Op.bytesLess x.name e.name with
    | true => rw [bytesLess_asymm h1]; rfl
    | false =>
      cases h2 : Op.bytesLess e.name x.name with
      | true => rfl
      | false => exact absurd (bytesLess_tri h1 h2) (h x hx)
  unfold setL
  rw [hf]
  refine List.perm_middle.trans ?_
  exact (List.Perm.cons e (List.filter_append_perm _ _)).trans (List.perm_append_singleton e ms).symm
theorem setL_new (h : idxOf (nameIs e.name) ms < 0) : (setL ms e).length = ms.length + 1 := by
  rw [(setL_perm (none_names h)).length_eq]; simp
theorem setL_old (hr : Rises (namesOf ms)) (hy : ms[n]? = some y) (hn : y.name = e.name) : (setL ms e).length = ms.length := by
  rw [← set_at9 hr hy hn, List.length_set]
/-- What is sorted behind an addition. -/
theorem sort_new (hr : Rises (namesOf ms)) (h : idxOf (nameIs e.name) ms < 0) : ∀ ds : List NV, ds.Perm (ms ++ [e]) → ds.Pairwise (fun x y => Op.bytesLess y.name x.name = false) → ds = setL ms e := by
  intro ds hp hs
  have hp2 : ds.Perm (setL ms e) := hp.trans (setL_perm (none_names h)).symm
  have hnd : (namesOf (setL ms e)).Nodup := (setL_rises hr).imp (fun {a b} hab e9 => by subst e9; rw [bytesLess_irrefl] at hab; cases hab)
  have hnd2 : (namesOf ds).Nodup := ((hp2.map NV.name).nodup_iff).2 hnd
  have hrd : ds.Pairwise (fun x y => Op.bytesLess x.name y.name = true) := by
    have h1 : ds.Pairwise (fun x y => x.name ≠ y.name) := List.pairwise_map.1 hnd2
    have h2 := List.Pairwise.and hs h1
    refine h2.imp (fun {a b} hab => ?_)
    cases h3 : Op.bytesLess a.name b.name with
    | true => rfl
    | false => exact absurd (bytesLess_tri h3 hab.1) hab.2
  have hrs : (setL ms e).Pairwise (fun x y => Op.bytesLess x.name y.name = true) := List.pairwise_map.1 (setL_rises hr)
  exact hp2.eq_of_pairwise (fun a b _ _ h1 h2 => by rw [bytesLess_asymm h1] at h2; cases h2) hrd hrs
end
end Go.V
namespace Go.V
open Go
def tChg : Ty := .struct [.int .i64, tNV]
theorem hasChg {l : List PV} (h : tChg.Has l) : ∃ x : Chg, l = encChg x ∧ ((x.set.name.length ≤ 9223372036854775807) ∧ True) := by
  simp only [tChg, Ty.Has] at h
  obtain ⟨_, _, rfl, h1, h⟩ := hasL_cons h
  obtain ⟨_, _, rfl, h2, h⟩ := hasL_cons h
  obtain rfl := hasL_nil h
  obtain ⟨a, rfl, w1⟩ := has_int h1
  obtain ⟨b, rfl, w2⟩ := hasNV h2
  exact ⟨⟨a, b⟩, by simp [encChg, encNV], w2.1, trivial⟩
end Go.V
namespace Go.V
theorem applyA_len : ∀ (cs : List Chg) (ms : List NV), (applyA cs ms).1.length ≤ ms.length + cs.length
  | [], ms => by simp [applyA]
  | c :: cs, ms => by
    simp only [applyA]
    split
    · split
      · simp
      · have h1 := applyA_len cs (setL ms c.set)
        have h2 := setL_len (xs := ms) (e := c.set)
        rw [List.length_cons]; omega
    · split
      · simp
      · split
        · have h1 := applyA_len cs (ms.eraseIdx (idxOf (nameIs c.set.name) ms).toNat)
          have h2 := (List.eraseIdx_sublist ms (idxOf (nameIs c.set.name) ms).toNat).length_le
          rw [List.length_cons]; omega
        · simp
theorem applyC_len (ms : List NV) (cs : List Chg) : (applyC ms cs).1.length ≤ ms.length + cs.length := by
  unfold applyC; split
  · exact applyA_len cs ms
  · simp
end Go.V
