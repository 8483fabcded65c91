/- What the program's functions on differences, needs and loads answer. -/
import Derived.Test.YtmnmaakaneaiaaaDoorK2

namespace Go.V
open Go

structure Chg where
  kind : Int
  set : NV
  deriving DecidableEq, Inhabited
def encChg (x : Chg) : List PV := [.v (.int .i64 x.kind), .v (str x.set.name), .v (.int .i64 x.set.val)]
theorem flatChg (x : Chg) : PV.FlatL (encChg x) := by simp [encChg, PV.FlatL, PV.Flat]

theorem lenN {n K : Nat} {c : Int} (hc : c = (K : Int)) {b : Bool} (h : decide ((n : Int) > c) = b) : decide (n ≤ K) = !b := by
  subst hc; subst h
  by_cases e : n ≤ K
  · rw [decide_eq_true e, decide_eq_false (by omega)]; rfl
  · rw [decide_eq_false e, decide_eq_true (by omega)]; rfl
theorem allI_take {α : Type} {p : Nat → α → Bool} {xs : List α} (h : allITo p xs xs.length = true) : allI p xs = true := h
theorem all_memo {s : List UInt8} (h : allTo memoByte s s.length = true) : s.all memoByte = true := by rw [← allTo_all]; exact h
theorem ver_at {xs : List Ver} {k : Nat} {x : Ver} (h : okVers xs = true) (hx : xs[k]? = some x) : okVer k x = true := by
  simp only [okVers, Bool.and_eq_true] at h; exact allI_at h.1 hx
theorem ver_lim {i : Nat} {x : Ver} (h : okVer i x = true) : x.number = (i : Int) + 1 ∧ 0 ≤ x.parent ∧ x.parent ≤ i ∧ okMemo x.memo = true ∧ okState x.state = true := by
  simp only [okVer, Bool.and_eq_true, decide_eq_true_eq] at h
  exact ⟨h.1.1.1, h.1.1.2.1, h.1.1.2.2, h.1.2, h.2⟩
theorem vers_len {xs : List Ver} (h : okVers xs = true) : xs.length ≤ 32 := by simp only [okVers, Bool.and_eq_true, decide_eq_true_eq] at h; exact h.2
theorem state_len {xs : List NV} (h : okState xs = true) : xs.length ≤ 24 := by unfold okState at h; grind
theorem state_ok {xs : List NV} (h : okState xs = true) : okB okSetting geNV xs = true := by unfold okState at h; grind

/-! Names that rise are not equal. -/
def nameIs (n : List UInt8) (x : NV) : Bool := decide (x.name = n)
theorem bytesLess_irrefl (a : List UInt8) : Op.bytesLess a a = false := by
  induction a with
  | nil => rfl
  | cons x a ih => simp [Op.bytesLess, ih]
theorem bytesLess_trans : ∀ {a b c : List UInt8}, Op.bytesLess a b = true → Op.bytesLess b c = true → Op.bytesLess a c = true
  | a, [], c, h, _ => by cases a <;> simp [Op.bytesLess] at h
  | a, _ :: _, [], _, h => by simp [Op.bytesLess] at h
  | [], y :: b, z :: c, _, _ => by simp [Op.bytesLess]
  | x :: a, y :: b, z :: c, h1, h2 => by
    simp only [Op.bytesLess, Bool.or_eq_true, Bool.and_eq_true, decide_eq_true_eq, beq_iff_eq] at h1 h2 ⊢
    rcases h1 with h1 | ⟨rfl, h1⟩
    · rcases h2 with h2 | ⟨rfl, h2⟩
      · exact .inl (UInt8.lt_trans h1 h2)
      · exact .inl h1
    · rcases h2 with h2 | ⟨rfl, h2⟩
      · exact .inl h2
      · exact .inr ⟨rfl, bytesLess_trans h1 h2⟩
theorem state_rise {xs : List NV} (h : okState xs = true) : ∀ (j i : Nat) {x y : NV}, i < j → xs[i]? = some x → xs[j]? = some y → Op.bytesLess x.name y.name = true := by
  have step : ∀ (k : Nat) {x y : NV}, xs[k]? = some x → xs[k + 1]? = some y → Op.bytesLess x.name y.name = true := by
    intro k x y hx hy
    have := okB_next (state_ok h) hy (by omega) (by simpa using hx)
    simpa [geNV] using this
  intro j
  induction j with
  | zero => intro i x y hi; omega
  | succ j ih =>
    intro i x y hi hx hy
    obtain ⟨z, hz⟩ := get_some (xs := xs) (k := j) (by have := lt_of_get hy; omega)
    rcases Nat.lt_or_ge i j with h1 | h1
    · exact bytesLess_trans (ih i h1 hx hz) (step j hz hy)
    · obtain rfl : i = j := by omega
      rw [hx] at hz; obtain rfl := Option.some.inj hz
      exact step i hx hy
theorem state_uniq {xs : List NV} (h : okState xs = true) {i j : Nat} {x y : NV} (hx : xs[i]? = some x) (hy : xs[j]? = some y) (hn : x.name = y.name) : x = y := by
  rcases Nat.lt_trichotomy i j with h1 | h1 | h1
  · have := state_rise h j i h1 hx hy; rw [hn, bytesLess_irrefl] at this; cases this
  · subst h1; rw [hx] at hy; exact Option.some.inj hy
  · have := state_rise h i j h1 hy hx; rw [hn, bytesLess_irrefl] at this; cases this
theorem idx_found {α : Type} {p : α → Bool} {xs : List α} (h : ¬ idxOf p xs < 0) : ∃ (j : Nat) (y : α), idxOf p xs = (j : Int) ∧ xs[j]? = some y ∧ p y = true := by
  unfold idxOf at h ⊢
  cases hf : xs.findIdx? p with
  | none => rw [hf] at h; simp at h
  | some i =>
    rw [List.findIdx?_eq_some_iff_getElem] at hf
    obtain ⟨h1, h2, _⟩ := hf
    exact ⟨i, xs[i], rfl, List.getElem?_eq_getElem h1, h2⟩
theorem idx_none {α : Type} {p : α → Bool} {xs : List α} (h : idxOf p xs < 0) : ∀ x ∈ xs, p x = false := by
  unfold idxOf at h
  cases hf : xs.findIdx? p with
  | none => rw [List.findIdx?_eq_none_iff] at hf; intro x hx; simpa using hf x hx
  | some i => rw [hf] at h; simp at h; omega
theorem mem_none {xs : List NV} {x : NV} (h : idxOf (nameIs x.name) xs < 0) : x ∉ xs := fun hx => by
  have := idx_none h x hx; simp [nameIs] at this
theorem mem_at {xs : List NV} {x y : NV} {j : Nat} (hok : okState xs = true) (hy : xs[j]? = some y) (hn : nameIs x.name y = true) : x ∈ xs ↔ y = x := by
  constructor
  · intro hx
    obtain ⟨i, hi⟩ := List.getElem?_of_mem hx
    exact state_uniq hok hy hi (by simpa [nameIs] using hn)
  · rintro rfl; exact List.mem_of_getElem? hy

def drops (a b : List NV) (k : Nat) : List Chg := ((a.take k).filter fun x => decide (idxOf (nameIs x.name) b < 0)).map (Chg.mk 2)
def sets (a b : List NV) (k : Nat) : List Chg := ((b.take k).filter fun x => !decide (x ∈ a)).map (Chg.mk 1)
def diffStates (a b : List NV) : List Chg × Int := if okState a && okState b then (drops a b a.length ++ sets a b b.length, 0) else ([], 1)
section
variable {a b : List NV} {k : Nat} {x : NV}
theorem drops_T (hx : a[k]? = some x) (h : idxOf (nameIs x.name) b < 0) : drops a b (k + 1) = drops a b k ++ [⟨2, x⟩] := by simp [drops, take_snoc hx, List.filter_append, h]
theorem drops_F (hx : a[k]? = some x) (h : ¬ idxOf (nameIs x.name) b < 0) : drops a b (k + 1) = drops a b k := by simp [drops, take_snoc hx, List.filter_append, h]
theorem sets_T (hx : b[k]? = some x) (h : x ∉ a) : sets a b (k + 1) = sets a b k ++ [⟨1, x⟩] := by simp [sets, take_snoc hx, List.filter_append, h]
theorem sets_F (hx : b[k]? = some x) (h : x ∈ a) : sets a b (k + 1) = sets a b k := by simp [sets, take_snoc hx, List.filter_append, h]
theorem drops_len (k : Nat) : (drops a b k).length ≤ a.length := by
  simp only [drops, List.length_map]
  exact Nat.le_trans (List.length_filter_le ..) (by simp; omega)
theorem sets_len (k : Nat) : (sets a b k).length ≤ b.length := by
  simp only [sets, List.length_map]
  exact Nat.le_trans (List.length_filter_le ..) (by simp; omega)
end
theorem diff_len (a b : List NV) : (diffStates a b).1.length ≤ a.length + b.length := by
  unfold diffStates; split
  · have := drops_len (a := a) (b := b) a.length; have := sets_len (a := a) (b := b) b.length; simp; omega
  · simp

/-! Needs and loads. -/
def okNeed (ms xs : List NV) (i : Nat) (x : NV) : Bool :=
  !decide (lookup ms x.name = 0) && (decide (0 ≤ x.val) && decide (x.val ≤ 7200000)) && (match xs[i - 1]? with | some y => !(decide (0 < i) && decide (y.val > x.val)) | none => true) && !(xs.take i).any (nameIs x.name)
theorem any_take {α : Type} {p : α → Bool} {xs : List α} {j k : Nat} {y : α} (h : j < k) (hy : xs[j]? = some y) (hp : p y = true) : (xs.take k).any p = true := by
  rw [List.any_eq_true]
  exact ⟨y, List.mem_of_getElem? (i := j) (by rw [List.getElem?_take_of_lt h]; exact hy), hp⟩
def okNeeds (ms xs : List NV) : Bool := okMedias ms && (allI (okNeed ms xs) xs && decide (xs.length ≤ 16))
def loadT (ms : List NV) (b : Int) (x : NV) : Int := (1000 * lookup ms x.name + b - 1) / b
def lateTo (ms xs : List NV) (b : Int) : Nat → Int
  | 0 => -7200001
  | k + 1 => match xs[k]? with | some x => max (lateTo ms xs b k) (sumTo (loadT ms b) xs (k + 1) - x.val) | none => lateTo ms xs b k
theorem lateTo_succ {ms xs : List NV} {b : Int} {k : Nat} {x : NV} (hx : xs[k]? = some x) : lateTo ms xs b (k + 1) = max (lateTo ms xs b k) (sumTo (loadT ms b) xs (k + 1) - x.val) := by simp [lateTo, hx]
def planL (ms xs : List NV) (b : Int) (k : Nat) : List Int := (List.range k).map (sumTo (loadT ms b) xs)
theorem planL_succ (ms xs : List NV) (b : Int) (k : Nat) : planL ms xs b (k + 1) = planL ms xs b k ++ [sumTo (loadT ms b) xs k] := by simp [planL, List.range_succ]
theorem planL_len (ms xs : List NV) (b : Int) (k : Nat) : (planL ms xs b k).length = k := by simp [planL]
theorem planL_get {ms xs : List NV} {b : Int} {k n : Nat} (h : k < n) : (planL ms xs b n)[k]? = some (sumTo (loadT ms b) xs k) := by simp [planL, h]
def askNeeds (ms xs : List NV) (b : Int) : Int := if okNeeds ms xs = true then (if decide (1 ≤ b) && decide (b ≤ 100000) then 0 else 2) else 1
def loadPlan (ms xs : List NV) (b : Int) : List Int × Int := if askNeeds ms xs b = 0 then (planL ms xs b xs.length, 0) else ([], askNeeds ms xs b)
def latenessOf (ms xs : List NV) (b : Int) : Int × Int := if askNeeds ms xs b = 0 then (if xs.length = 0 then (0, 6) else (lateTo ms xs b xs.length, 0)) else (0, askNeeds ms xs b)
theorem needs_ok {ms xs : List NV} (h : okNeeds ms xs = true) : okMedias ms = true ∧ allI (okNeed ms xs) xs = true ∧ xs.length ≤ 16 := by
  simp only [okNeeds, Bool.and_eq_true, decide_eq_true_eq] at h; exact h
theorem need_lim {ms xs : List NV} {i : Nat} {x : NV} (h : okNeed ms xs i x = true) : lookup ms x.name ≠ 0 ∧ 0 ≤ x.val ∧ x.val ≤ 7200000 := by
  simp only [okNeed, Bool.and_eq_true, decide_eq_true_eq, Bool.not_eq_true', decide_eq_false_iff_not] at h; exact ⟨h.1.1.1, h.1.1.2.1, h.1.1.2.2⟩
theorem ask_needs {ms xs : List NV} {b : Int} (h : askNeeds ms xs b = 0) : okNeeds ms xs = true ∧ 1 ≤ b ∧ b ≤ 100000 := by
  unfold askNeeds at h
  split at h
  · next h1 =>
    split at h
    · next h2 => simp at h2; exact ⟨h1, h2.1, h2.2⟩
    · omega
  · omega
theorem loadT_lim {ms : List NV} (h : okMedias ms = true) {b : Int} (hb : 1 ≤ b) (x : NV) : 0 ≤ loadT ms b x ∧ loadT ms b x ≤ 100000000 := by
  have := lookup_lim h x.name
  unfold loadT
  refine ⟨Int.ediv_nonneg (by omega) (by omega), ?_⟩
  have h2 : (1000 * lookup ms x.name + b - 1) / b < 100000000 + 1 := by
    rw [Int.ediv_lt_iff_lt_mul (by omega)]
    have : (100000000 + 1) * b = 100000000 * b + b := by rw [Int.add_mul, Int.one_mul]
    omega
  omega
theorem sums_lim {ms xs : List NV} (h : okMedias ms = true) {b : Int} (hb : 1 ≤ b) (k : Nat) : 0 * (k : Int) ≤ sumTo (loadT ms b) xs k ∧ sumTo (loadT ms b) xs k ≤ 100000000 * k :=
  sumTo_lim (by omega) (by omega) (fun _ x _ => loadT_lim h hb x) k
theorem lateTo_lim {ms xs : List NV} (h : okNeeds ms xs = true) {b : Int} (hb : 1 ≤ b) (k : Nat) : -7200001 ≤ lateTo ms xs b k ∧ lateTo ms xs b k ≤ 100000000 * k := by
  obtain ⟨h1, h2, _⟩ := needs_ok h
  induction k with
  | zero => simp [lateTo]
  | succ k ih =>
    cases hx : xs[k]? with
    | none => simp only [lateTo, hx]; omega
    | some x =>
      rw [lateTo_succ hx]
      have := sums_lim (xs := xs) h1 hb (k + 1)
      have := need_lim (allI_at h2 hx)
      omega
theorem lateTo_one {ms xs : List NV} (h : okNeeds ms xs = true) {b : Int} (hb : 1 ≤ b) {x : NV} (hx : xs[0]? = some x) : lateTo ms xs b 1 = sumTo (loadT ms b) xs 1 - x.val := by
  obtain ⟨h1, h2, _⟩ := needs_ok h
  have e : lateTo ms xs b 1 = max (lateTo ms xs b 0) (sumTo (loadT ms b) xs 1 - x.val) := lateTo_succ hx
  rw [e]
  have := sums_lim (xs := xs) h1 hb 1
  have := need_lim (allI_at h2 hx)
  simp only [lateTo]; omega
/-- With more bandwidth nothing is loaded longer. -/
theorem ceil_anti {s b c : Int} (hs : 0 ≤ s) (hb : 1 ≤ b) (hc : b ≤ c) : (s + c - 1) / c ≤ (s + b - 1) / b := by
  have h1 : s ≤ b * ((s + b - 1) / b) := by
    have h2 := Int.mul_ediv_add_emod (s + b - 1) b
    have h3 := Int.emod_lt_of_pos (s + b - 1) (by omega : 0 < b)
    omega
  have h0 : 0 ≤ (s + b - 1) / b := Int.ediv_nonneg (by omega) (by omega)
  have h4 : b * ((s + b - 1) / b) ≤ c * ((s + b - 1) / b) := Int.mul_le_mul_of_nonneg_right hc h0
  have h5 : (s + c - 1) / c < (s + b - 1) / b + 1 := by
    rw [Int.ediv_lt_iff_lt_mul (by omega)]
    have : ((s + b - 1) / b + 1) * c = c * ((s + b - 1) / b) + c := by rw [Int.add_mul, Int.one_mul, Int.mul_comm]
    omega
  omega
theorem sums_anti {ms xs : List NV} (h : okMedias ms = true) {b c : Int} (hb : 1 ≤ b) (hc : b ≤ c) (k : Nat) : sumTo (loadT ms c) xs k ≤ sumTo (loadT ms b) xs k := by
  induction k with
  | zero => simp [sumTo]
  | succ k ih =>
    simp only [sumTo]
    split
    · next x _ =>
      have := lookup_lim h x.name
      have := ceil_anti (s := 1000 * lookup ms x.name) (by omega) hb hc
      simp only [loadT] at *; omega
    · exact ih
theorem late_anti {ms xs : List NV} (h : okMedias ms = true) {b c : Int} (hb : 1 ≤ b) (hc : b ≤ c) (k : Nat) : lateTo ms xs c k ≤ lateTo ms xs b k := by
  induction k with
  | zero => simp [lateTo]
  | succ k ih =>
    simp only [lateTo]
    split
    · next x _ => have := sums_anti (xs := xs) h hb hc (k + 1); omega
    · exact ih
/-- The least from lo on, below hi, by halves. -/
def halve (p : Int → Bool) (lo hi : Int) : Int := if h : lo < hi then (if p ((lo + hi) / 2) = true then halve p lo ((lo + hi) / 2) else halve p ((lo + hi) / 2 + 1) hi) else lo
termination_by (hi - lo).toNat
decreasing_by all_goals omega
section
variable {p : Int → Bool}
theorem halve_T {lo hi : Int} (h : lo < hi) (hp : p ((lo + hi) / 2) = true) : halve p lo hi = halve p lo ((lo + hi) / 2) := by rw [halve, dif_pos h, if_pos hp]
theorem halve_F {lo hi : Int} (h : lo < hi) (hp : p ((lo + hi) / 2) = false) : halve p lo hi = halve p ((lo + hi) / 2 + 1) hi := by rw [halve, dif_pos h, if_neg (by simp [hp])]
theorem halve_end {lo hi : Int} (h : ¬ lo < hi) : halve p lo hi = lo := by rw [halve, dif_neg h]
theorem halve_ind {Q : Int → Int → Prop} (hend : ∀ lo hi, lo = hi → Q lo hi) (hT : ∀ lo hi, lo < hi → p ((lo + hi) / 2) = true → Q lo ((lo + hi) / 2) → Q lo hi) (hF : ∀ lo hi, lo < hi → p ((lo + hi) / 2) = false → Q ((lo + hi) / 2 + 1) hi → Q lo hi) :
    ∀ (n : Nat) (lo hi : Int), (hi - lo).toNat ≤ n → lo ≤ hi → Q lo hi := by
  intro n
  induction n with
  | zero => intro lo hi h1 h2; exact hend lo hi (by omega)
  | succ n ih =>
    intro lo hi h1 h2
    by_cases h : lo < hi
    · cases hp : p ((lo + hi) / 2) with
      | true => exact hT lo hi h hp (ih _ _ (by omega) (by omega))
      | false => exact hF lo hi h hp (ih _ _ (by omega) (by omega))
    · exact hend lo hi (by omega)
theorem halve_range {lo hi : Int} (h : lo ≤ hi) : lo ≤ halve p lo hi ∧ halve p lo hi ≤ hi :=
  halve_ind (p := p) (Q := fun lo hi => lo ≤ halve p lo hi ∧ halve p lo hi ≤ hi) (fun lo hi e => by rw [halve_end (by omega)]; omega) (fun lo hi h hp q => by rw [halve_T h hp]; omega) (fun lo hi h hp q => by rw [halve_F h hp]; omega) _ lo hi (Nat.le_refl _) h
theorem halve_hit {lo hi : Int} (h : lo ≤ hi) (hp : p hi = true) : p (halve p lo hi) = true :=
  halve_ind (p := p) (Q := fun lo hi => p hi = true → p (halve p lo hi) = true) (fun lo hi e hp => by rw [halve_end (by omega), e]; exact hp) (fun lo hi h hp q _ => by rw [halve_T h hp]; exact q hp) (fun lo hi h hp q h2 => by rw [halve_F h hp]; exact q h2) _ lo hi (Nat.le_refl _) h hp
theorem halve_min (hm : ∀ m n, 1 ≤ m → m ≤ n → p m = true → p n = true) {lo hi : Int} (h1 : 1 ≤ lo) (h : lo ≤ hi) : ∀ m, lo ≤ m → m < halve p lo hi → p m = false :=
  halve_ind (p := p) (Q := fun lo hi => 1 ≤ lo → ∀ m, lo ≤ m → m < halve p lo hi → p m = false) (fun lo hi e _ m h1 h2 => by rw [halve_end (by omega)] at h2; omega) (fun lo hi h hp q h0 m h1 h2 => by rw [halve_T h hp] at h2; exact q h0 m h1 h2)
    (fun lo hi h hp q h0 m h1 h2 => by
      rw [halve_F h hp] at h2
      rcases Int.lt_or_le ((lo + hi) / 2) m with h3 | h3
      · exact q (by omega) m (by omega) h2
      · cases hpm : p m with
        | false => rfl
        | true => have := hm m _ (by omega) h3 hpm; rw [hp] at this; cases this) _ lo hi (Nat.le_refl _) h h1
end
def inTime (ms xs : List NV) (b : Int) : Bool := decide (lateTo ms xs b xs.length ≤ 0)
theorem inTime_up {ms xs : List NV} (h : okMedias ms = true) : ∀ m n, 1 ≤ m → m ≤ n → inTime ms xs m = true → inTime ms xs n = true := by
  intro m n h1 h2 h3
  simp only [inTime, decide_eq_true_eq] at h3 ⊢
  have := late_anti (xs := xs) h h1 h2 xs.length
  omega
def leastBandwidth (ms xs : List NV) : Int × Int :=
  if okNeeds ms xs = true then (if inTime ms xs 100000 = true then (halve (inTime ms xs) 1 100000, 0) else (0, 3)) else (0, 1)
theorem least_nil {ms xs : List NV} (h : okNeeds ms xs = true) (hl : xs.length = 0) : leastBandwidth ms xs = (1, 0) := by
  have ht : ∀ b, inTime ms xs b = true := fun b => by simp [inTime, hl, lateTo]
  have hh : halve (inTime ms xs) 1 100000 = 1 := halve_ind (p := inTime ms xs) (Q := fun lo hi => halve (inTime ms xs) lo hi = lo) (fun lo hi e => halve_end (by omega)) (fun lo hi h hp q => by rw [halve_T h hp]; exact q) (fun lo hi h hp q => by rw [ht] at hp; cases hp) 99999 1 100000 (by omega) (by omega)
  unfold leastBandwidth
  rw [if_pos h, if_pos (ht _), hh]
theorem least_bad {ms xs : List NV} (h : okNeeds ms xs = true) (hb : inTime ms xs (halve (inTime ms xs) 1 100000) = false) : leastBandwidth ms xs = (0, 3) := by
  unfold leastBandwidth
  rw [if_pos h, if_neg]
  intro h2
  rw [halve_hit (by omega) h2] at hb
  cases hb
theorem least_good {ms xs : List NV} (h : okNeeds ms xs = true) (hb : inTime ms xs (halve (inTime ms xs) 1 100000) = true) : leastBandwidth ms xs = (halve (inTime ms xs) 1 100000, 0) := by
  have hr := halve_range (p := inTime ms xs) (lo := 1) (hi := 100000) (by omega)
  have := inTime_up (xs := xs) (needs_ok h).1 _ 100000 hr.1 hr.2 hb
  unfold leastBandwidth
  rw [if_pos h, if_pos this]
end Go.V
namespace Go.V
theorem late_in {ms xs : List NV} {b : Int} (h : decide (lateTo ms xs b xs.length ≤ 0) = true) : inTime ms xs b = true := h
theorem late_out {ms xs : List NV} {b : Int} (h : decide (lateTo ms xs b xs.length ≤ 0) = false) : inTime ms xs b = false := h
theorem late0 {ms xs : List NV} {b : Int} : decide ((if xs.length = 0 then 0 else lateTo ms xs b xs.length) ≤ 0) = inTime ms xs b := by
  unfold inTime
  split
  · next h => rw [h]; rfl
  · rfl
theorem late_in0 {ms xs : List NV} {b : Int} (h : decide ((if xs.length = 0 then 0 else lateTo ms xs b xs.length) ≤ 0) = true) : inTime ms xs b = true := by rw [late0] at h; exact h
theorem late_out0 {ms xs : List NV} {b : Int} (h : decide ((if xs.length = 0 then 0 else lateTo ms xs b xs.length) ≤ 0) = false) : inTime ms xs b = false := by rw [late0] at h; exact h
theorem gt_le {n : Int} {c : Bool} (h : decide (n > 0) = c) : decide (n ≤ 0) = !c := by
  subst h
  by_cases e : n ≤ 0
  · rw [decide_eq_true e, decide_eq_false (by omega)]; rfl
  · rw [decide_eq_false e, decide_eq_true (by omega)]; rfl
theorem late_gt {ms xs : List NV} {b : Int} (h : decide (lateTo ms xs b xs.length > 0) = true) : inTime ms xs b = false := gt_le h
theorem late_ngt {ms xs : List NV} {b : Int} (h : decide (lateTo ms xs b xs.length > 0) = false) : inTime ms xs b = true := gt_le h
theorem late_gt0 {ms xs : List NV} {b : Int} (h : decide ((if xs.length = 0 then 0 else lateTo ms xs b xs.length) > 0) = true) : inTime ms xs b = false := by rw [← late0]; exact gt_le h
theorem late_ngt0 {ms xs : List NV} {b : Int} (h : decide ((if xs.length = 0 then 0 else lateTo ms xs b xs.length) > 0) = false) : inTime ms xs b = true := by rw [← late0]; exact gt_le h
theorem late_new {ms xs : List NV} {b : Int} {k : Nat} {x : NV} (hok : okNeeds ms xs = true) (hb : 1 ≤ b) (hx : xs[k]? = some x) (hs : sumTo (loadT ms b) xs (k + 1) = sumTo (loadT ms b) xs k + loadT ms b x) (h : k = 0 ∨ sumTo (loadT ms b) xs k + loadT ms b x - x.val > (if k = 0 then 0 else lateTo ms xs b k)) :
    some (AV.p (PV.v (Value.int IntKind.i64 (sumTo (loadT ms b) xs k + loadT ms b x - x.val)))) = some (AV.p (PV.v (Value.int IntKind.i64 (lateTo ms xs b (k + 1))))) := by
  by_cases h0 : k = 0
  · subst h0
    have e : lateTo ms xs b (0 + 1) = _ := lateTo_one hok hb hx
    rw [e, ← hs]
  · rcases h with h | h
    · exact absurd h h0
    · rw [if_neg h0] at h
      rw [lateTo_succ hx, hs, Int.max_eq_right (by omega)]
theorem late_old {ms xs : List NV} {b : Int} {k : Nat} {x : NV} (hok : okNeeds ms xs = true) (hb : 1 ≤ b) (hx : xs[k]? = some x) (hs : sumTo (loadT ms b) xs (k + 1) = sumTo (loadT ms b) xs k + loadT ms b x) (h0 : ¬ k = 0) (h : sumTo (loadT ms b) xs k + loadT ms b x - x.val ≤ (if k = 0 then 0 else lateTo ms xs b k)) :
    some (AV.p (PV.v (Value.int IntKind.i64 (if k = 0 then 0 else lateTo ms xs b k)))) = some (AV.p (PV.v (Value.int IntKind.i64 (lateTo ms xs b (k + 1))))) := by
  rw [if_neg h0] at h ⊢
  rw [lateTo_succ hx, hs, Int.max_eq_left (by omega)]
end Go.V
/- What the program's functions on plans, latest loads, lines of versions and heads answer. -/
namespace Go.V
open Go

/-- How late the loads may end, from the last need on: j needs are seen. -/
def endF (ms xs : List NV) (b : Int) : Nat → Int
  | 0 => 7200000
  | j + 1 => match xs[xs.length - 1 - j]? with | some x => min (endF ms xs b j) x.val - loadT ms b x | none => endF ms xs b j
def endV (ms xs : List NV) (b : Int) : Nat → List Int
  | 0 => []
  | j + 1 => endF ms xs b (j + 1) :: endV ms xs b j
def endOk (ms xs : List NV) (b : Int) : Nat → Bool
  | 0 => true
  | j + 1 => endOk ms xs b j && decide (0 ≤ endF ms xs b (j + 1))
theorem endF_succ {ms xs : List NV} {b : Int} {j : Nat} {x : NV} (h : xs[xs.length - 1 - j]? = some x) : endF ms xs b (j + 1) = min (endF ms xs b j) x.val - loadT ms b x := by simp [endF, h]
theorem endV_len (ms xs : List NV) (b : Int) (j : Nat) : (endV ms xs b j).length = j := by induction j with
  | zero => rfl
  | succ j ih => simp [endV, ih]
theorem endOk_mono {ms xs : List NV} {b : Int} {i j : Nat} (h : i ≤ j) (hj : endOk ms xs b j = true) : endOk ms xs b i = true := by
  induction j with
  | zero => obtain rfl : i = 0 := by omega
            rfl
  | succ j ih =>
    rcases Nat.lt_or_ge i (j + 1) with h1 | h1
    · simp only [endOk, Bool.and_eq_true] at hj; exact ih (by omega) hj.1
    · obtain rfl : i = j + 1 := by omega
      exact hj
theorem endOk_bad {ms xs : List NV} {b : Int} {j n : Nat} (h : endF ms xs b (j + 1) < 0) (hj : j < n) : endOk ms xs b n = false := by
  cases e : endOk ms xs b n with
  | false => rfl
  | true =>
    have := endOk_mono (i := j + 1) (by omega) e
    simp only [endOk, Bool.and_eq_true, decide_eq_true_eq] at this
    omega
def endRows (ms xs : List NV) (b : Int) (j : Nat) : List (List PV) := (List.replicate (xs.length - j) 0 ++ endV ms xs b j).map encI
theorem endRows_zero (ms xs : List NV) (b : Int) : endRows ms xs b 0 = List.replicate xs.length [.v (.int .i64 0)] := by simp [endRows, endV, encI]
theorem endRows_end (ms xs : List NV) (b : Int) : endRows ms xs b xs.length = (endV ms xs b xs.length).map encI := by simp [endRows]
theorem endRows_len (ms xs : List NV) (b : Int) {j : Nat} (h : j ≤ xs.length) : (endRows ms xs b j).length = xs.length := by simp [endRows, endV_len]; omega
theorem endRows_get {ms xs : List NV} {b : Int} {j : Nat} (h : j < xs.length) : (endRows ms xs b j)[xs.length - 1 - j]? = some [.v (.int .i64 0)] := by
  unfold endRows
  rw [List.getElem?_map, List.getElem?_append_left (by simp; omega)]
  rw [List.getElem?_replicate, if_pos (by omega)]; rfl
theorem endRows_set {ms xs : List NV} {b : Int} {j : Nat} (h : j < xs.length) : (endRows ms xs b j).set (xs.length - 1 - j) (encI (endF ms xs b (j + 1))) = endRows ms xs b (j + 1) := by
  unfold endRows
  rw [← List.map_set, List.set_append_left _ _ (by simp; omega)]
  congr 1
  have e : xs.length - j = (xs.length - 1 - j) + 1 := by omega
  have e2 : xs.length - (j + 1) = xs.length - 1 - j := by omega
  rw [e, e2, List.replicate_succ', List.set_append_right _ _ (by simp)]
  simp [endV]
theorem endF_lim {ms xs : List NV} (h : okNeeds ms xs = true) {b : Int} (hb : 1 ≤ b) (j : Nat) : -100000000 * (j : Int) ≤ endF ms xs b j ∧ endF ms xs b j ≤ 7200000 := by
  obtain ⟨h1, h2, _⟩ := needs_ok h
  induction j with
  | zero => simp [endF]
  | succ j ih =>
    cases hx : xs[xs.length - 1 - j]? with
    | none => simp only [endF, hx]; omega
    | some x =>
      rw [endF_succ hx]
      have := loadT_lim h1 hb x
      have := need_lim (allI_at h2 hx)
      omega
def latestLoads (ms xs : List NV) (b : Int) : List Int × Int := if askNeeds ms xs b = 0 then (if endOk ms xs b xs.length = true then (endV ms xs b xs.length, 0) else ([], 6)) else ([], askNeeds ms xs b)
theorem latest_bad {ms xs : List NV} {b : Int} {j : Nat} (hk : askNeeds ms xs b = 0) (h : endF ms xs b (j + 1) < 0) (hj : j < xs.length) : latestLoads ms xs b = ([], 6) := by
  unfold latestLoads; rw [if_pos hk, if_neg (by rw [endOk_bad h hj]; simp)]
theorem latest_good {ms xs : List NV} {b : Int} (hk : askNeeds ms xs b = 0) (h : endOk ms xs b xs.length = true) : latestLoads ms xs b = (endV ms xs b xs.length, 0) := by
  unfold latestLoads; rw [if_pos hk, if_pos h]
theorem latest_len (ms xs : List NV) (b : Int) : (latestLoads ms xs b).1.length ≤ xs.length := by unfold latestLoads; split <;> (try split) <;> simp [endV_len]
theorem plan_len (ms xs : List NV) (b : Int) : (loadPlan ms xs b).1.length ≤ xs.length := by unfold loadPlan; split <;> simp [planL_len]

/-! Lines of versions. -/
def par (xs : List Ver) (n : Int) : Int := ((xs[(n - 1).toNat]?).map Ver.parent).getD 0
theorem par_eq {xs : List Ver} {n : Int} {x : Ver} (h : xs[(n - 1).toNat]? = some x) : par xs n = x.parent := by unfold par; rw [h]; rfl
theorem par_lim {xs : List Ver} (h : okVers xs = true) {n : Int} (h1 : 0 < n) : 0 ≤ par xs n ∧ par xs n < n := by
  unfold par
  cases hx : xs[(n - 1).toNat]? with
  | none => simp; omega
  | some x => have := ver_lim (ver_at h hx); simp; omega
def line (xs : List Ver) (n : Int) : List Int := if h : 0 < n then (if h2 : par xs n < n then n :: line xs (par xs n) else [n]) else []
termination_by n.toNat
decreasing_by omega
theorem line_pos {xs : List Ver} (hok : okVers xs = true) {n : Int} (h : 0 < n) : line xs n = n :: line xs (par xs n) := by
  rw [line, dif_pos h, dif_pos (par_lim hok h).2]
theorem line_zero {xs : List Ver} {n : Int} (h : ¬ 0 < n) : line xs n = [] := by rw [line, dif_neg h]
theorem line_len {xs : List Ver} : ∀ (m : Nat) (n : Int), n.toNat ≤ m → (line xs n).length ≤ n.toNat := by
  intro m
  induction m with
  | zero => intro n h; rw [line_zero (by omega)]; simp
  | succ m ih =>
    intro n h
    rw [line]
    split
    · split
      · next h1 h2 => have := ih (par xs n) (by omega); simp only [List.length_cons]; omega
      · simp; omega
    · simp
theorem line_lim {xs : List Ver} (n : Int) : (line xs n).length ≤ n.toNat := line_len _ n (Nat.le_refl _)
def commonA (xs : List Ver) (a b : Int) : Int := ((line xs a).find? fun n => decide (n ∈ line xs b)).getD 0
def inVers (xs : List Ver) (n : Int) : Bool := decide (1 ≤ n) && decide (n ≤ (xs.length : Int))
def commonAncestor (xs : List Ver) (a b : Int) : Int × Int := if okVers xs = true then (if inVers xs a && inVers xs b then (commonA xs a b, 0) else (0, 3)) else (0, 1)
def findTo {α : Type} (p : α → Bool) (xs : List α) (k : Nat) : Option α := (xs.take k).find? p
theorem find_hit {p : Int → Bool} {xs : List Int} {k : Nat} {x : Int} (h : anyTo p xs k = false) (hx : xs[k]? = some x) (hp : p x = true) : (xs.find? p).getD 0 = x := by
  have : xs.find? p = some x := by
    rw [List.find?_eq_some_iff_getElem]
    have hk := lt_of_get hx
    refine ⟨hp, k, hk, by rw [List.getElem?_eq_getElem hk] at hx; exact Option.some.inj hx, ?_⟩
    intro j hj
    have hm : xs[j]'(by omega) ∈ xs.take k := by rw [List.mem_take_iff_getElem]; exact ⟨j, by omega, rfl⟩
    have := List.any_eq_false.1 h _ hm
    simpa using this
  simp [this]
theorem find_miss {p : Int → Bool} {xs : List Int} (h : anyTo p xs xs.length = false) : (xs.find? p).getD 0 = 0 := by
  rw [anyTo_all] at h
  have : xs.find? p = none := by
    rw [List.find?_eq_none]; intro x hx; simpa using List.any_eq_false.1 h x hx
  simp [this]
def isHead (xs : List Ver) (v : Ver) : Bool := !xs.any fun x => x.parent == v.number
theorem head_all {xs : List Ver} {v : Ver} : allTo (fun x => x.parent != v.number) xs xs.length = isHead xs v := by
  rw [allTo_all, isHead, List.not_any_eq_all_not]; rfl
def headsOf (xs : List Ver) : List Int × Int := if okVers xs = true then ((xs.filter (isHead xs)).map Ver.number, 0) else ([], 1)
theorem heads_len (xs : List Ver) : (headsOf xs).1.length ≤ xs.length := by
  unfold headsOf; split
  · simp only [List.length_map]; exact List.length_filter_le ..
  · simp
end Go.V
namespace Go.V
/-- The heads among the first k. -/
def headsTo (xs : List Ver) (k : Nat) : List Int := ((xs.take k).filter (isHead xs)).map Ver.number
theorem headsTo_end {xs : List Ver} : headsTo xs xs.length = (xs.filter (isHead xs)).map Ver.number := by simp [headsTo]
theorem headsTo_yes {xs : List Ver} {k : Nat} {x : Ver} (hx : xs[k]? = some x) (h : isHead xs x = true) : headsTo xs (k + 1) = headsTo xs k ++ [x.number] := by
  unfold headsTo; rw [take_snoc hx, List.filter_append, List.map_append]; simp [h]
theorem headsTo_no {xs : List Ver} {k : Nat} {x : Ver} (hx : xs[k]? = some x) (h : isHead xs x = false) : headsTo xs (k + 1) = headsTo xs k := by
  unfold headsTo; rw [take_snoc hx, List.filter_append]; simp [h]
theorem headsTo_len (xs : List Ver) (k : Nat) : (headsTo xs k).length ≤ k := by
  unfold headsTo; rw [List.length_map]
  refine Nat.le_trans (List.length_filter_le ..) ?_
  rw [List.length_take]; omega
end Go.V
/- Marks: what the laws write over a list, and read again. -/
namespace Go.V
open Go

/-- The decimal digits of a number, ahead of what is there. -/
def mt (k : Nat) (acc : List UInt8) : List UInt8 := if h : k = 0 then acc else mt (k / 10) (UInt8.ofNat (48 + k % 10) :: acc)
termination_by k
decreasing_by omega
theorem mt_zero (acc : List UInt8) : mt 0 acc = acc := by rw [mt]; simp
theorem mt_step {k : Nat} (h : k ≠ 0) (acc : List UInt8) : mt k acc = mt (k / 10) (UInt8.ofNat (48 + k % 10) :: acc) := by rw [mt]; simp [h]
def mText (k : Int) : List UInt8 := if k ≤ 0 then [109, 48] else 109 :: mt k.toNat []
theorem pow_step {k n : Nat} (h : k < 10 ^ (40 - n)) (h0 : k ≠ 0) : n < 40 ∧ k / 10 < 10 ^ (40 - (n + 1)) := by
  have hn : n < 40 := by
    rcases Nat.lt_or_ge n 40 with h1 | h1
    · exact h1
    · rw [show 40 - n = 0 by omega] at h; simp at h; omega
  refine ⟨hn, ?_⟩
  rw [Nat.div_lt_iff_lt_mul (by omega), ← Nat.pow_succ, show (40 - (n + 1)).succ = 40 - n by omega]
  exact h
theorem digit_u8 {k : Int} {n : Nat} (h : k = n) : IntKind.u8.wrap (48 + k.tmod 10) = ((UInt8.ofNat (48 + n % 10)).toNat : Int) := by
  subst h
  have e : ((n : Int)).tmod 10 = ((n % 10 : Nat) : Int) := by rw [Int.tmod_eq_emod_of_nonneg (by omega)]; omega
  rw [e, UInt8.toNat_ofNat']
  simp only [IntKind.wrap, IntKind.signed, IntKind.bits]
  simp
/-- A row of marks; true: a text, false: a number. -/
def mkRow : List Bool → Int → List PV
  | [], _ => []
  | true :: ks, k => .v (str (mText k)) :: mkRow ks (k + 1)
  | false :: ks, k => .v (.int .i64 k) :: mkRow ks (k + 1)
theorem mkRow_flat : ∀ (ks : List Bool) (k : Int), PV.FlatL (mkRow ks k)
  | [], _ => trivial
  | true :: ks, k => ⟨trivial, mkRow_flat ks (k + 1)⟩
  | false :: ks, k => ⟨trivial, mkRow_flat ks (k + 1)⟩
/-- The first j rows are marked. -/
def mkd (ks : List Bool) (k0 : Int) (rows : List (List PV)) (j : Nat) : List (List PV) := (List.range j).map (fun i => mkRow ks (k0 + ((i * ks.length : Nat) : Int))) ++ rows.drop j
def mkAll (ks : List Bool) (k0 : Int) (n : Nat) : List (List PV) := (List.range n).map (fun i => mkRow ks (k0 + ((i * ks.length : Nat) : Int)))
section
variable {ks : List Bool} {k0 : Int} {rows : List (List PV)} {j n : Nat}
theorem mkd_zero : mkd ks k0 rows 0 = rows := by simp [mkd]
theorem mkd_end : mkd ks k0 rows rows.length = mkAll ks k0 rows.length := by simp [mkd, mkAll]
theorem mkd_length (h : j ≤ rows.length) : (mkd ks k0 rows j).length = rows.length := by simp [mkd]; omega
theorem mkd_get {r : List PV} (h : rows[j]? = some r) : (mkd ks k0 rows j)[j]? = some r := by
  unfold mkd
  rw [List.getElem?_append_right (by simp)]
  simp [h]
theorem mkd_set (h : j < rows.length) : (mkd ks k0 rows j).set j (mkRow ks (k0 + ((j * ks.length : Nat) : Int))) = mkd ks k0 rows (j + 1) := by
  unfold mkd
  rw [List.set_append_right _ _ (by simp), List.range_succ, List.map_append, List.append_assoc]
  congr 1
  simp only [List.length_map, List.length_range, Nat.sub_self]
  rw [List.drop_eq_getElem_cons h, List.set_cons_zero]
  simp
theorem mkAll_length : (mkAll ks k0 n).length = n := by simp [mkAll]
theorem mkAll_get (h : j < n) : (mkAll ks k0 n)[j]? = some (mkRow ks (k0 + ((j * ks.length : Nat) : Int))) := by
  unfold mkAll
  rw [List.getElem?_map, List.getElem?_range h]; rfl
theorem mkAll_flat : ∀ r ∈ mkAll ks k0 n, PV.FlatL r := by
  intro r hr
  obtain ⟨i, _, rfl⟩ := List.mem_map.1 hr
  exact mkRow_flat ks _
theorem set_get {r : List PV} (h : j < rows.length) : (rows.set j r)[j]? = some r := by simp [h]
end
end Go.V
namespace Go.V
theorem tupE {i : Nat} {n m : Int} (h : n = m) : AV.tup [.h i, .p (.v (.int .i64 n))] = AV.tup [.h i, .p (.v (.int .i64 m))] := by rw [h]
end Go.V
/- The calculus' rules: rows that bear slices of their own. -/
namespace Go.V
open Go Go.RowKit

/-- Slices, each of one's own, with the values that are their handles. -/
def PoolR (ty : TypeId) (rs : Nat) (S : Nat → Prop) (w : World) : List (Value × Option (List (List PV))) → List Nat → Prop
  | [], F => F = []
  | (_, none) :: l, F => PoolR ty rs S w l F
  | (v, some rows) :: l, F => ∃ F1 F2, F = F1 ++ F2 ∧ (∀ k ∈ F1, k ∉ F2) ∧ RRes (fun _ => v) S w v F1 (.vec ty rs rows) ∧ PoolR ty rs S w l F2
section
variable {ty rs ity irs : Nat} {S S' : Nat → Prop} {w w' : World}
theorem PoolR.mono (hw : Same S w w') (hS : ∀ k, k < w.heap.size → S' k → S k) : ∀ (l : List (Value × Option (List (List PV)))) (F : List Nat), (∀ k ∈ F, w'.heap[k]? = w.heap[k]?) → PoolR ty rs S w l F → PoolR ty rs S' w' l F
  | [], F, _, h => h
  | (_, none) :: l, F, hF, h => PoolR.mono hw hS l F hF h
  | (v, some rows) :: l, F, hF, h => by
    obtain ⟨F1, F2, rfl, h2, h3, h4⟩ := h
    exact ⟨F1, F2, rfl, h2, RRes.mono hw hS (fun k hk => hF k (by simp [hk])) (.vec ty rs rows) (fun _ _ => rfl) h3, PoolR.mono hw hS l F2 (fun k hk => hF k (by simp [hk])) h4⟩
theorem PoolR.add : ∀ (l : List (Value × Option (List (List PV)))) (F : List Nat) (v : Value) (rows : List (List PV)) (F1 : List Nat), PoolR ty rs S w l F → (∀ k ∈ F1, k ∉ F) → RRes (fun _ => v) S w v F1 (.vec ty rs rows) → PoolR ty rs S w (l ++ [(v, some rows)]) (F ++ F1)
  | [], F, v, rows, F1, h, hd, hr => by
    simp only [PoolR] at h; subst h
    exact ⟨F1, [], by simp, by simp, hr, rfl⟩
  | (_, none) :: l, F, v, rows, F1, h, hd, hr => PoolR.add l F v rows F1 h hd hr
  | (v0, some rows0) :: l, F, v, rows, F1, h, hd, hr => by
    obtain ⟨G1, G2, rfl, h2, h3, h4⟩ := h
    refine ⟨G1, G2 ++ F1, by simp, fun k hk hm => ?_, h3, PoolR.add l G2 v rows F1 h4 (fun k hk hm => hd k hk (by simp [hm])) hr⟩
    rcases List.mem_append.1 hm with hm | hm
    · exact h2 k hk hm
    · exact hd k hm (by simp [hk])
theorem PoolR.take : ∀ (l : List (Value × Option (List (List PV)))) (F : List Nat) (j : Nat) (v : Value) (rows : List (List PV)), PoolR ty rs S w l F → l[j]? = some (v, some rows) →
    ∃ F1 F2, RRes (fun _ => v) S w v F1 (.vec ty rs rows) ∧ PoolR ty rs S w (l.set j (v, none)) F2 ∧ (∀ k, k ∈ F ↔ k ∈ F1 ∨ k ∈ F2) ∧ ∀ k ∈ F1, k ∉ F2
  | [], _, _, _, _, _, h => by simp at h
  | (v0, some rows0) :: l, F, 0, v, rows, h, hj => by
    simp only [List.getElem?_cons_zero, Option.some.injEq, Prod.mk.injEq] at hj
    obtain ⟨rfl, rfl⟩ := hj
    obtain ⟨F1, F2, rfl, h2, h3, h4⟩ := h
    exact ⟨F1, F2, h3, h4, fun k => List.mem_append, h2⟩
  | (v0, none) :: l, F, 0, v, rows, h, hj => by simp at hj
  | (v0, none) :: l, F, j + 1, v, rows, h, hj => by
    simp only [List.getElem?_cons_succ] at hj
    exact PoolR.take l F j v rows h hj
  | (v0, some rows0) :: l, F, j + 1, v, rows, h, hj => by
    simp only [List.getElem?_cons_succ] at hj
    obtain ⟨G1, G2, rfl, h2, h3, h4⟩ := h
    obtain ⟨F1, F2, e1, e2, e3, e4⟩ := PoolR.take l G2 j v rows h4 hj
    refine ⟨F1, G1 ++ F2, e1, ⟨G1, F2, rfl, fun k hk hm => h2 k hk ((e3 k).2 (.inr hm)), h3, e2⟩, fun k => ?_, fun k hk hm => ?_⟩
    · simp only [List.mem_append, e3 k]
      constructor
      · rintro (h | h | h) <;> simp [h]
      · rintro (h | h | h) <;> simp [h]
    · rcases List.mem_append.1 hm with hm | hm
      · exact h2 k hm ((e3 k).2 (.inl hk))
      · exact e4 k hk hm
theorem PoolR.give : ∀ (l : List (Value × Option (List (List PV)))) (F : List Nat) (j : Nat) (v : Value) (rows : List (List PV)) (F1 : List Nat), PoolR ty rs S w l F → l[j]? = some (v, none) → RRes (fun _ => v) S w v F1 (.vec ty rs rows) → (∀ k ∈ F1, k ∉ F) →
    ∃ F2, PoolR ty rs S w (l.set j (v, some rows)) F2 ∧ ∀ k, k ∈ F2 ↔ k ∈ F ∨ k ∈ F1
  | [], _, _, _, _, _, _, h, _, _ => by simp at h
  | (v0, none) :: l, F, 0, v, rows, F1, h, hj, hr, hd => by
    simp only [List.getElem?_cons_zero, Option.some.injEq, Prod.mk.injEq] at hj
    obtain ⟨rfl, _⟩ := hj
    exact ⟨F1 ++ F, ⟨F1, F, rfl, hd, hr, h⟩, fun k => by rw [List.mem_append]; exact Or.comm⟩
  | (v0, some rows0) :: l, F, 0, v, rows, F1, h, hj, _, _ => by simp at hj
  | (v0, none) :: l, F, j + 1, v, rows, F1, h, hj, hr, hd => by
    simp only [List.getElem?_cons_succ] at hj
    exact PoolR.give l F j v rows F1 h hj hr hd
  | (v0, some rows0) :: l, F, j + 1, v, rows, F1, h, hj, hr, hd => by
    simp only [List.getElem?_cons_succ] at hj
    obtain ⟨G1, G2, rfl, h2, h3, h4⟩ := h
    obtain ⟨F2, e1, e2⟩ := PoolR.give l G2 j v rows F1 h4 hj hr (fun k hk hm => hd k hk (by simp [hm]))
    refine ⟨G1 ++ F2, ⟨G1, F2, rfl, fun k hk hm => ?_, h3, e1⟩, fun k => ?_⟩
    · rcases (e2 k).1 hm with hm | hm
      · exact h2 k hk hm
      · exact hd k hm (by simp [hk])
    · simp only [List.mem_append, e2 k]
      constructor
      · rintro (h | h | h) <;> simp [h]
      · rintro ((h | h) | h) <;> simp [h]
theorem PoolR.at : ∀ (l : List (Value × Option (List (List PV)))) (F : List Nat) (j : Nat) (v : Value) (rows : List (List PV)), PoolR ty rs S w l F → l[j]? = some (v, some rows) → ∃ F1, RRes (fun _ => v) S w v F1 (.vec ty rs rows) := fun l F j v rows h hj => by
  obtain ⟨F1, _, h1, _⟩ := PoolR.take l F j v rows h hj
  exact ⟨F1, h1⟩
theorem vec_viewR {η : Nat → Value} {hd : Value} {F : List Nat} {rows : List (List PV)} (h : RRes η S w hd F (.vec ty rs rows)) : Rel (fun _ => False) w (.sl rs rows) hd := by
  have h0 := h
  obtain ⟨xs, h1, h2, h3, h4⟩ := h
  simp only [Rel]
  rcases h3.2 with ⟨e, hn⟩ | ⟨g, cap, cur, e, _, hgb, hnc, _⟩
  · exact ⟨none, 0, by rw [e, hn], by omega, .inl (List.eq_nil_of_length_eq_zero hn)⟩
  · refine ⟨_, cap, e, hnc, .inr ⟨g, 0, rfl, (fun h => h), (Array.getElem?_eq_some_iff.1 hgb).1, ?_⟩⟩
    refine RelRows.mono (S := S) (w := w) ⟨Nat.le_refl _, fun _ _ _ => rfl⟩ (fun _ _ h => h.elim) rfl 0 rows (relRows_of_at rows 0 h2 (fun i r hir => ?_))
    have := h0.row hir (b := g) (by rw [e]; rfl)
    simpa using this

def poolC (ty rs : Nat) (l : List (Value × Option (List (List PV)))) : Cust where
  R := fun S w hd F => hd = .pointer none ∧ PoolR ty rs S w l F
  view := none
  mono := fun hw hS hF ⟨h1, h2⟩ => ⟨h1, PoolR.mono hw hS l _ hF h2⟩
  shape := fun ⟨h1, _⟩ => .inl ⟨_, h1⟩
  ok := fun h => by cases h
/-- A slice of one's own, whose handle is that value. -/
def vecAt (v : Value) (ty rs : Nat) (rows : List (List PV)) : Cust where
  R := fun S w hd F => hd = v ∧ RRes (fun _ => v) S w v F (.vec ty rs rows)
  view := some (.sl rs rows)
  mono := fun hw hS hF ⟨h1, h2⟩ => ⟨h1, RRes.mono hw hS hF (.vec ty rs rows) (fun _ _ => rfl) h2⟩
  shape := fun ⟨h1, h2⟩ => by rw [h1]; exact hd_shape h2
  ok := fun h ⟨h1, h2⟩ => by cases h; rw [h1]; exact vec_viewR h2
/-- The rows: what they hold beside the slice, and its handle. -/
def rowsV (cs : List (List PV)) (vs : List Value) : List (List PV) := List.zipWith (fun c v => c ++ [.v v]) cs vs
def poolL (vs : List Value) (ins : List (List (List PV))) : List (Value × Option (List (List PV))) := List.zipWith (fun v r => (v, some r)) vs ins
def nestL (irs : Nat) (cs : List (List PV)) (ins : List (List (List PV))) : List (List PV) := List.zipWith (fun c r => c ++ [.sl irs r]) cs ins
theorem relAt_append {b : Nat} : ∀ (l : List PV) (o : Nat) (l' : List PV), RelAt S w b o (l ++ l') ↔ RelAt S w b o l ∧ RelAt S w b (o + l.length) l'
  | [], o, l' => by simp [RelAt]
  | c :: l, o, l' => by
    simp only [List.cons_append, RelAt, relAt_append l (o + 1) l', List.length_cons]
    rw [show o + 1 + l.length = o + (l.length + 1) by omega, and_assoc]
theorem nest_view {hd : Value} {F1 F2 : List Nat} {cs : List (List PV)} {ins : List (List (List PV))} {vs : List Value} (hl1 : vs.length = cs.length) (hl2 : ins.length = cs.length)
    (h1 : RRes (fun _ => hd) S w hd F1 (.vec ty rs (rowsV cs vs))) (h2 : PoolR ity irs S w (poolL vs ins) F2) : Rel (fun _ => False) w (.sl rs (nestL irs cs ins)) hd := by
  have h0 := h1
  obtain ⟨xs, e1, e2, e3, e4⟩ := h1
  have hn : (rowsV cs vs).length = cs.length := by simp [rowsV, hl1]
  have hm : (nestL irs cs ins).length = cs.length := by simp [nestL, hl2]
  simp only [Rel]
  rcases e3.2 with ⟨e, hz⟩ | ⟨g, cap, cur, e, _, hgb, hnc, _⟩
  · exact ⟨none, 0, by rw [e, hm, ← hn, hz], by omega, .inl (List.eq_nil_of_length_eq_zero (by omega))⟩
  · refine ⟨_, cap, by rw [hm, ← hn]; exact e, by omega, .inr ⟨g, 0, rfl, (fun h => h), (Array.getElem?_eq_some_iff.1 hgb).1, ?_⟩⟩
    refine relRows_of_at _ 0 (fun r hr => ?_) (fun i r hir => ?_)
    · obtain ⟨i, hi⟩ := List.getElem?_of_mem hr
      have hic : i < cs.length := by have := (List.getElem?_eq_some_iff.1 hi).1; omega
      have e5 : (rowsV cs vs)[i]? = some (cs[i] ++ [.v (vs[i]'(by omega))]) := by
        simp only [rowsV, List.getElem?_zipWith, List.getElem?_eq_getElem hic, List.getElem?_eq_getElem (show i < vs.length by omega)]
      have := e2 _ (List.mem_of_getElem? e5)
      simp only [nestL, List.getElem?_zipWith, List.getElem?_eq_getElem hic, List.getElem?_eq_getElem (show i < ins.length by omega), Option.some.injEq] at hi
      subst hi
      simpa using this
    · have hic : i < cs.length := by have := (List.getElem?_eq_some_iff.1 hir).1; omega
      have e5 : (rowsV cs vs)[i]? = some (cs[i] ++ [.v (vs[i]'(by omega))]) := by
        simp only [rowsV, List.getElem?_zipWith, List.getElem?_eq_getElem hic, List.getElem?_eq_getElem (show i < vs.length by omega)]
      have hrow := h0.row e5 (b := g) (by rw [e]; rfl)
      simp only [nestL, List.getElem?_zipWith, List.getElem?_eq_getElem hic, List.getElem?_eq_getElem (show i < ins.length by omega), Option.some.injEq] at hir
      subst hir
      have hrow' := RelAt.mono (S' := fun _ => False) (S := S) (w := w) (w' := w) ⟨Nat.le_refl _, fun _ _ _ => rfl⟩ (fun _ _ h => h.elim) rfl _ _ hrow
      rw [relAt_append] at hrow' ⊢
      rw [show 0 + i * rs = i * rs by omega]
      refine ⟨hrow'.1, ?_⟩
      obtain ⟨⟨u, hu1, hu2⟩, _⟩ := hrow'.2
      refine ⟨⟨u, hu1, ?_⟩, trivial⟩
      simp only [Rel] at hu2; subst hu2
      have e6 : (poolL vs ins)[i]? = some (vs[i]'(by omega), some (ins[i]'(by omega))) := by
        simp only [poolL, List.getElem?_zipWith, List.getElem?_eq_getElem (show i < vs.length by omega), List.getElem?_eq_getElem (show i < ins.length by omega)]
      obtain ⟨G, hG⟩ := PoolR.at _ _ i _ _ h2 e6
      exact vec_viewR hG
/-- Rows that each bear a slice of their own in the last place. -/
def nestC (ty rs ity irs : Nat) (cs : List (List PV)) (ins : List (List (List PV))) (V : List (List PV)) (hV : nestL irs cs ins = V) : Cust where
  R := fun S w hd F => ∃ vs F1 F2, vs.length = cs.length ∧ ins.length = cs.length ∧ RRes (fun _ => hd) S w hd F1 (.vec ty rs (rowsV cs vs)) ∧ PoolR ity irs S w (poolL vs ins) F2 ∧ F = F1 ++ F2 ∧ ∀ k ∈ F1, k ∉ F2
  view := some (.sl rs V)
  mono := by
    intro S S' w w' hd F hw hS hF h
    obtain ⟨vs, F1, F2, h1, h2, h3, h4, h5, h6⟩ := h
    exact ⟨vs, F1, F2, h1, h2, RRes.mono hw hS (fun k hk => hF k (by rw [h5]; simp [hk])) (.vec ty rs (rowsV cs vs)) (fun _ _ => rfl) h3, PoolR.mono hw hS _ _ (fun k hk => hF k (by rw [h5]; simp [hk])) h4, h5, h6⟩
  shape := fun ⟨_, _, _, _, _, h3, _⟩ => hd_shape h3
  ok := fun h ⟨vs, F1, F2, h1, h2, h3, h4, _, _⟩ => by cases h; rw [← hV]; exact nest_view h1 h2 h3 h4
end

section
variable {P : Program} {fr : Fr} {st : St}
/-- The same world, seen otherwise. -/
theorem RepE.re {η η' : Nat → Value} {φ φ' : Nat → List Nat} {a : Act} {w : World} (hr : RepE fr η φ st a w) {st' : St}
    (hsub : ∀ id r k, get st'.hp id = some r → k ∈ φ' id → SOf φ st.hp k)
    (hslots : ∀ i av, get st'.tm i = some av → ∃ u, a.tmps[i]? = some u ∧ ARel η' (SOf φ' st'.hp) w av u)
    (hres : ∀ id r, get st'.hp id = some r → RRes η' (SOf φ' st'.hp) w (η' id) (φ' id) r)
    (hdisj : ∀ id id' r r' k, get st'.hp id = some r → get st'.hp id' = some r' → k ∈ φ' id → k ∈ φ' id' → id = id')
    (hpin : ∀ i v, get fr.pin i = some v → η' i = η i) : RepE fr η' φ' st' a w := by
  refine ⟨hr.defers, hr.size, hslots, hres, hdisj, ?_, ?_, hr.keep, fun i v hi => (hpin i v hi).trans (hr.pin i v hi)⟩
  · intro id r k h1 h2
    obtain ⟨i, q, h3, h4⟩ := hsub id r k h1 h2
    exact hr.low i q k h3 h4
  · intro id r k h1 h2
    obtain ⟨i, q, h3, h4⟩ := hsub id r k h1 h2
    exact hr.lt i q k h3 h4

theorem RRes.handle {η : Nat → Value} {S : Nat → Prop} {w : World} {hd : Value} {F : List Nat} {ty rs : Nat} {rows : List (List PV)} (h : RRes η S w hd F (.vec ty rs rows)) (η' : Nat → Value) : RRes η' S w hd F (.vec ty rs rows) := h

/-- A slice of one's own is laid by, with the value that is its handle. -/
theorem RepE.poolAdd {η : Nat → Value} {φ : Nat → List Nat} {a : Act} {w : World} (hr : RepE fr η φ st a w) (id1 id2 : Nat) {ty rs : Nat} {rows : List (List PV)} {l : List (Value × Option (List (List PV)))}
    (hg1 : get st.hp id1 = some (.vec ty rs rows)) (hg2 : get st.hp id2 = some (.cust (poolC ty rs l))) (hne : id1 ≠ id2) :
    RepE fr η (upd φ id2 (φ id2 ++ φ id1)) ⟨substT id1 (.v (η id1)) st.tm, setR id2 (.cust (poolC ty rs (l ++ [(η id1, some rows)]))) (substH id1 (.v (η id1)) st.hp)⟩ a w := by
  have hg2' : get (substH id1 (.v (η id1)) st.hp) id2 = some (.cust (poolC ty rs l)) := by rw [get_substH, if_neg (fun e => hne e.symm), hg2]; rfl
  have hget : ∀ i r, get (setR id2 (.cust (poolC ty rs (l ++ [(η id1, some rows)]))) (substH id1 (.v (η id1)) st.hp)) i = some r →
      (i = id2 ∧ r = .cust (poolC ty rs (l ++ [(η id1, some rows)]))) ∨ (i ≠ id2 ∧ i ≠ id1 ∧ ∃ r0, get st.hp i = some r0 ∧ r = r0.subst id1 (.v (η id1))) := by
    intro i r h
    rw [get_setR id2 _ _ _ hg2'] at h
    by_cases e : i = id2
    · rw [if_pos e] at h; exact .inl ⟨e, (Option.some.inj h).symm⟩
    · rw [if_neg e, get_substH] at h
      by_cases e1 : i = id1
      · rw [if_pos e1] at h; cases h
      · rw [if_neg e1] at h
        obtain ⟨r0, h1, rfl⟩ := Option.map_eq_some_iff.1 h
        exact .inr ⟨e, e1, r0, h1, rfl⟩
  have hS : ∀ k, SOf (upd φ id2 (φ id2 ++ φ id1)) (setR id2 (.cust (poolC ty rs (l ++ [(η id1, some rows)]))) (substH id1 (.v (η id1)) st.hp)) k → SOf φ st.hp k := by
    rintro k ⟨i, r, h1, h2⟩
    rcases hget i r h1 with ⟨rfl, rfl⟩ | ⟨e, _, r0, h3, _⟩
    · rw [upd_self] at h2
      rcases List.mem_append.1 h2 with h2 | h2
      · exact ⟨_, _, hg2, h2⟩
      · exact ⟨_, _, hg1, h2⟩
    · rw [upd_ne _ _ e] at h2; exact ⟨i, r0, h3, h2⟩
  have hw : ∀ {S}, Same S w w := ⟨Nat.le_refl _, fun _ _ _ => rfl⟩
  have hx : Rel (SOf (upd φ id2 (φ id2 ++ φ id1)) (setR id2 (.cust (poolC ty rs (l ++ [(η id1, some rows)]))) (substH id1 (.v (η id1)) st.hp))) w (.v (η id1)) (η id1) := by simp [Rel]
  refine hr.re (fun id r k h1 h2 => hS k ⟨id, r, h1, h2⟩) ?_ ?_ ?_ (fun _ _ _ => rfl)
  · intro i av h
    simp only [get_substT] at h
    obtain ⟨a0, h1, rfl⟩ := Option.map_eq_some_iff.1 h
    obtain ⟨u, h2, h3⟩ := hr.slots i a0 h1
    exact ⟨u, h2, ARel.subst hS hx a0 u h3⟩
  · intro i r h
    rcases hget i r h with ⟨rfl, rfl⟩ | ⟨e, _, r0, h3, rfl⟩
    · rw [upd_self]
      obtain ⟨h4, h5⟩ := hr.res _ _ hg2
      refine ⟨h4, PoolR.mono hw (fun k _ h => hS k h) _ _ (fun _ _ => rfl) (PoolR.add l _ _ rows _ h5 (fun k hk hm => hne (hr.disj _ _ _ _ k hg1 hg2 hk hm)) (hr.res _ _ hg1))⟩
    · rw [upd_ne _ _ e]
      have hres := hr.res i r0 h3
      cases r0 with
      | box ty cs =>
        obtain ⟨b, arr, e1, e2, e3, e4⟩ := hres
        exact ⟨b, arr, e1, e2, e3, ARelL.subst hS hx cs _ e4⟩
      | vec ty rs rows => exact RRes.mono hw (fun k _ h => hS k h) (fun _ _ => rfl) (.vec ty rs rows) (fun _ _ => rfl) hres
      | cust C => exact RRes.mono hw (fun k _ h => hS k h) (fun _ _ => rfl) (.cust C) (fun _ _ => rfl) hres
  · intro i j r r' k h1 h2 h3 h4
    rcases hget i r h1 with ⟨rfl, rfl⟩ | ⟨e, e', r0, f3, _⟩
    · rw [upd_self] at h3
      rcases hget j r' h2 with ⟨rfl, rfl⟩ | ⟨e2, e2', r2, f4, _⟩
      · rfl
      · rw [upd_ne _ _ e2] at h4
        rcases List.mem_append.1 h3 with h3 | h3
        · exact absurd (hr.disj _ _ _ _ k f4 hg2 h4 h3) e2
        · exact absurd (hr.disj _ _ _ _ k f4 hg1 h4 h3) e2'
    · rw [upd_ne _ _ e] at h3
      rcases hget j r' h2 with ⟨rfl, rfl⟩ | ⟨e2, e2', r2, f4, _⟩
      · rw [upd_self] at h4
        rcases List.mem_append.1 h4 with h4 | h4
        · exact absurd (hr.disj _ _ _ _ k f3 hg2 h3 h4) e
        · exact absurd (hr.disj _ _ _ _ k f3 hg1 h3 h4) e'
      · rw [upd_ne _ _ e2] at h4
        exact hr.disj _ _ _ _ k f3 f4 h3 h4

/-- The rows and what was laid by become one thing. -/
theorem RepE.nestJoin {η : Nat → Value} {φ : Nat → List Nat} {a : Act} {w : World} (hr : RepE fr η φ st a w) (id1 id2 : Nat) {ty rs ity irs : Nat} {rows : List (List PV)} {l : List (Value × Option (List (List PV)))}
    {cs : List (List PV)} {ins : List (List (List PV))} {V : List (List PV)} {hV : nestL irs cs ins = V} {vs : List Value} (hg1 : get st.hp id1 = some (.vec ty rs rows)) (hg2 : get st.hp id2 = some (.cust (poolC ity irs l))) (hne : id1 ≠ id2)
    (h1 : rows = rowsV cs vs) (h2 : l = poolL vs ins) (hl1 : vs.length = cs.length) (hl2 : ins.length = cs.length) :
    RepE fr η (upd φ id1 (φ id1 ++ φ id2)) ⟨st.tm, remH [id2] (setR id1 (.cust (nestC ty rs ity irs cs ins V hV)) st.hp)⟩ a w := by
  have hget : ∀ i r, get (remH [id2] (setR id1 (.cust (nestC ty rs ity irs cs ins V hV)) st.hp)) i = some r → (i = id1 ∧ r = .cust (nestC ty rs ity irs cs ins V hV)) ∨ (i ≠ id1 ∧ i ≠ id2 ∧ get st.hp i = some r) := by
    intro i r h
    rw [get_remH] at h
    by_cases e : i ∈ [id2]
    · rw [if_pos e] at h; cases h
    · rw [if_neg e, get_setR id1 _ _ _ hg1] at h
      by_cases e1 : i = id1
      · rw [if_pos e1] at h; exact .inl ⟨e1, (Option.some.inj h).symm⟩
      · rw [if_neg e1] at h; exact .inr ⟨e1, by simpa using e, h⟩
  have hS : ∀ k, SOf (upd φ id1 (φ id1 ++ φ id2)) (remH [id2] (setR id1 (.cust (nestC ty rs ity irs cs ins V hV)) st.hp)) k → SOf φ st.hp k := by
    rintro k ⟨i, r, h1, h2⟩
    rcases hget i r h1 with ⟨rfl, rfl⟩ | ⟨e, _, h3⟩
    · rw [upd_self] at h2
      rcases List.mem_append.1 h2 with h2 | h2
      · exact ⟨_, _, hg1, h2⟩
      · exact ⟨_, _, hg2, h2⟩
    · rw [upd_ne _ _ e] at h2; exact ⟨i, r, h3, h2⟩
  have hw : ∀ {S}, Same S w w := ⟨Nat.le_refl _, fun _ _ _ => rfl⟩
  refine hr.re (fun id r k h1 h2 => hS k ⟨id, r, h1, h2⟩) ?_ ?_ ?_ (fun _ _ _ => rfl)
  · intro i av h
    obtain ⟨u, h2, h3⟩ := hr.slots i av h
    exact ⟨u, h2, ARel.mono hw (fun k _ h => hS k h) av u (fun _ _ => rfl) h3⟩
  · intro i r h
    rcases hget i r h with ⟨rfl, rfl⟩ | ⟨e, _, h3⟩
    · rw [upd_self]
      obtain ⟨_, h5⟩ := hr.res _ _ hg2
      have h6 := hr.res _ _ hg1
      subst h1 h2
      refine ⟨vs, φ i, φ id2, hl1, hl2, RRes.mono hw (fun k _ h => hS k h) (fun _ _ => rfl) (.vec ty rs (rowsV cs vs)) (fun _ _ => rfl) (RRes.handle h6 _), PoolR.mono hw (fun k _ h => hS k h) _ _ (fun _ _ => rfl) h5, rfl, fun k hk hm => hne (hr.disj _ _ _ _ k hg1 hg2 hk hm)⟩
    · rw [upd_ne _ _ e]
      exact RRes.mono hw (fun k _ h => hS k h) (fun _ _ => rfl) r (fun _ _ => rfl) (hr.res i r h3)
  · intro i j r r' k h1 h2 h3 h4
    rcases hget i r h1 with ⟨rfl, rfl⟩ | ⟨e, e', f3⟩
    · rw [upd_self] at h3
      rcases hget j r' h2 with ⟨rfl, rfl⟩ | ⟨e2, e2', f4⟩
      · rfl
      · rw [upd_ne _ _ e2] at h4
        rcases List.mem_append.1 h3 with h3 | h3
        · exact absurd (hr.disj _ _ _ _ k f4 hg1 h4 h3) e2
        · exact absurd (hr.disj _ _ _ _ k f4 hg2 h4 h3) e2'
    · rw [upd_ne _ _ e] at h3
      rcases hget j r' h2 with ⟨rfl, rfl⟩ | ⟨e2, e2', f4⟩
      · rw [upd_self] at h4
        rcases List.mem_append.1 h4 with h4 | h4
        · exact absurd (hr.disj _ _ _ _ k f3 hg1 h3 h4) e
        · exact absurd (hr.disj _ _ _ _ k f3 hg2 h3 h4) e'
      · rw [upd_ne _ _ e2] at h4
        exact hr.disj _ _ _ _ k f3 f4 h3 h4

/-- The other way. -/
theorem RepE.nestSplit {η : Nat → Value} {φ : Nat → List Nat} {a : Act} {w : World} (hr : RepE fr η φ st a w) (id1 id2 : Nat) {ty rs ity irs : Nat} {cs : List (List PV)} {ins : List (List (List PV))} {V : List (List PV)} {hV : nestL irs cs ins = V}
    (hg1 : get st.hp id1 = some (.cust (nestC ty rs ity irs cs ins V hV))) (hf : st.fresh id2 = true) (hpin : get fr.pin id2 = none) :
    ∃ vs : List Value, vs.length = cs.length ∧ ins.length = cs.length ∧ ∃ η' φ', RepE fr η' φ' ⟨st.tm, (id2, .cust (poolC ity irs (poolL vs ins))) :: setR id1 (.vec ty rs (rowsV cs vs)) st.hp⟩ a w := by
  obtain ⟨vs, F1, F2, hl1, hl2, h3, h4, h5, h6⟩ := hr.res _ _ hg1
  refine ⟨vs, hl1, hl2, upd η id2 (.pointer none), upd (upd φ id1 F1) id2 F2, ?_⟩
  obtain ⟨hft, hfh⟩ := fresh_parts hf
  have hfT := freshT_spec hft
  obtain ⟨hno, hfH⟩ := freshH_spec hfh
  have hne : id1 ≠ id2 := fun e => by subst e; rw [hno] at hg1; cases hg1
  have hget : ∀ i r, get ((id2, .cust (poolC ity irs (poolL vs ins))) :: setR id1 (.vec ty rs (rowsV cs vs)) st.hp) i = some r →
      (i = id2 ∧ r = .cust (poolC ity irs (poolL vs ins))) ∨ (i = id1 ∧ r = .vec ty rs (rowsV cs vs)) ∨ (i ≠ id1 ∧ i ≠ id2 ∧ get st.hp i = some r) := by
    intro i r h
    rw [get_cons] at h
    by_cases e : id2 = i
    · rw [if_pos e] at h; exact .inl ⟨e.symm, (Option.some.inj h).symm⟩
    · rw [if_neg e, get_setR id1 _ _ _ hg1] at h
      by_cases e1 : i = id1
      · rw [if_pos e1] at h; exact .inr (.inl ⟨e1, (Option.some.inj h).symm⟩)
      · rw [if_neg e1] at h; exact .inr (.inr ⟨e1, fun h => e h.symm, h⟩)
  have hφ1 : upd (upd φ id1 F1) id2 F2 id1 = F1 := by rw [upd_ne _ _ hne, upd_self]
  have hφ2 : upd (upd φ id1 F1) id2 F2 id2 = F2 := upd_self _ _ _
  have hφ : ∀ i, i ≠ id1 → i ≠ id2 → upd (upd φ id1 F1) id2 F2 i = φ i := fun i h1 h2 => by rw [upd_ne _ _ h2, upd_ne _ _ h1]
  have hin1 : ∀ k ∈ F1, k ∈ φ id1 := fun k hk => by rw [h5]; simp [hk]
  have hin2 : ∀ k ∈ F2, k ∈ φ id1 := fun k hk => by rw [h5]; simp [hk]
  have hS : ∀ k, SOf (upd (upd φ id1 F1) id2 F2) ((id2, .cust (poolC ity irs (poolL vs ins))) :: setR id1 (.vec ty rs (rowsV cs vs)) st.hp) k → SOf φ st.hp k := by
    rintro k ⟨i, r, h1, h2⟩
    rcases hget i r h1 with ⟨rfl, rfl⟩ | ⟨rfl, rfl⟩ | ⟨e, e', h3⟩
    · rw [hφ2] at h2; exact ⟨_, _, hg1, hin2 k h2⟩
    · rw [hφ1] at h2; exact ⟨_, _, hg1, hin1 k h2⟩
    · rw [hφ i e e'] at h2; exact ⟨i, r, h3, h2⟩
  have hw : ∀ {S}, Same S w w := ⟨Nat.le_refl _, fun _ _ _ => rfl⟩
  refine hr.re (fun id r k h1 h2 => hS k ⟨id, r, h1, h2⟩) ?_ ?_ ?_ (fun i v hi => upd_ne _ _ (fun e => by subst e; rw [hpin] at hi; cases hi))
  · intro i av h
    obtain ⟨u, h2, h3⟩ := hr.slots i av h
    exact ⟨u, h2, ARel.mono hw (fun k _ h => hS k h) av u (fun j hj => upd_ne _ _ (fun e => by subst e; rw [hfT i av h] at hj; cases hj)) h3⟩
  · intro i r h
    rcases hget i r h with ⟨rfl, rfl⟩ | ⟨rfl, rfl⟩ | ⟨e, e', h3'⟩
    · rw [hφ2, upd_self]
      exact ⟨rfl, PoolR.mono hw (fun k _ h => hS k h) _ _ (fun _ _ => rfl) h4⟩
    · rw [hφ1, upd_ne _ _ hne]
      exact RRes.mono hw (fun k _ h => hS k h) (fun _ _ => rfl) (.vec ty rs (rowsV cs vs)) (fun _ _ => rfl) (RRes.handle h3 _)
    · rw [hφ i e e', upd_ne _ _ e']
      exact RRes.mono hw (fun k _ h => hS k h) (fun _ _ => rfl) r (fun j hj => upd_ne _ _ (fun e2 => by subst e2; rw [hfH i r h3'] at hj; cases hj)) (hr.res i r h3')
  · intro i j r r' k h1 h2 f3 f4
    rcases hget i r h1 with ⟨rfl, rfl⟩ | ⟨rfl, rfl⟩ | ⟨e, e', g3⟩
    · rw [hφ2] at f3
      rcases hget j r' h2 with ⟨rfl, rfl⟩ | ⟨rfl, rfl⟩ | ⟨e2, e2', g4⟩
      · rfl
      · rw [hφ1] at f4; exact absurd f3 (h6 k f4)
      · rw [hφ j e2 e2'] at f4; exact absurd (hr.disj _ _ _ _ k g4 hg1 f4 (hin2 k f3)) e2
    · rw [hφ1] at f3
      rcases hget j r' h2 with ⟨rfl, rfl⟩ | ⟨rfl, rfl⟩ | ⟨e2, e2', g4⟩
      · rw [hφ2] at f4; exact absurd f4 (h6 k f3)
      · rfl
      · rw [hφ j e2 e2'] at f4; exact absurd (hr.disj _ _ _ _ k g4 hg1 f4 (hin1 k f3)) e2
    · rw [hφ i e e'] at f3
      rcases hget j r' h2 with ⟨rfl, rfl⟩ | ⟨rfl, rfl⟩ | ⟨e2, e2', g4⟩
      · rw [hφ2] at f4; exact absurd (hr.disj _ _ _ _ k g3 hg1 f3 (hin2 k f4)) e
      · rw [hφ1] at f4; exact absurd (hr.disj _ _ _ _ k g3 hg1 f3 (hin1 k f4)) e
      · rw [hφ j e2 e2'] at f4; exact hr.disj _ _ _ _ k g3 g4 f3 f4

/-- One of what was laid by is taken. -/
theorem RepE.poolTake {η : Nat → Value} {φ : Nat → List Nat} {a : Act} {w : World} (hr : RepE fr η φ st a w) (d id2 id3 : Nat) {ity irs : Nat} {l : List (Value × Option (List (List PV)))} {j : Nat} {v : Value} {rows : List (List PV)}
    (hd : get st.tm d = some (.p (.v v))) (hg2 : get st.hp id2 = some (.cust (poolC ity irs l))) (hj : l[j]? = some (v, some rows)) (hf : st.fresh id3 = true) (hpin : get fr.pin id3 = none) :
    ∃ η' φ', RepE fr η' φ' ⟨(d, .h id3) :: st.tm, (id3, .cust (vecAt v ity irs rows)) :: setR id2 (.cust (poolC ity irs (l.set j (v, none)))) st.hp⟩ a w := by
  obtain ⟨hp1, hp2⟩ := hr.res _ _ hg2
  obtain ⟨F1, F2, h3, h4, h5, h6⟩ := PoolR.take l _ j v rows hp2 hj
  refine ⟨upd η id3 v, upd (upd φ id2 F2) id3 F1, ?_⟩
  obtain ⟨hft, hfh⟩ := fresh_parts hf
  have hfT := freshT_spec hft
  obtain ⟨hno, hfH⟩ := freshH_spec hfh
  have hne : id2 ≠ id3 := fun e => by subst e; rw [hno] at hg2; cases hg2
  have hget : ∀ i r, get ((id3, .cust (vecAt v ity irs rows)) :: setR id2 (.cust (poolC ity irs (l.set j (v, none)))) st.hp) i = some r →
      (i = id3 ∧ r = .cust (vecAt v ity irs rows)) ∨ (i = id2 ∧ r = .cust (poolC ity irs (l.set j (v, none)))) ∨ (i ≠ id2 ∧ i ≠ id3 ∧ get st.hp i = some r) := by
    intro i r h
    rw [get_cons] at h
    by_cases e : id3 = i
    · rw [if_pos e] at h; exact .inl ⟨e.symm, (Option.some.inj h).symm⟩
    · rw [if_neg e, get_setR id2 _ _ _ hg2] at h
      by_cases e1 : i = id2
      · rw [if_pos e1] at h; exact .inr (.inl ⟨e1, (Option.some.inj h).symm⟩)
      · rw [if_neg e1] at h; exact .inr (.inr ⟨e1, fun h => e h.symm, h⟩)
  have hφ1 : upd (upd φ id2 F2) id3 F1 id2 = F2 := by rw [upd_ne _ _ hne, upd_self]
  have hφ2 : upd (upd φ id2 F2) id3 F1 id3 = F1 := upd_self _ _ _
  have hφ : ∀ i, i ≠ id2 → i ≠ id3 → upd (upd φ id2 F2) id3 F1 i = φ i := fun i h1 h2 => by rw [upd_ne _ _ h2, upd_ne _ _ h1]
  have hin1 : ∀ k ∈ F1, k ∈ φ id2 := fun k hk => (h5 k).2 (.inl hk)
  have hin2 : ∀ k ∈ F2, k ∈ φ id2 := fun k hk => (h5 k).2 (.inr hk)
  have hS : ∀ k, SOf (upd (upd φ id2 F2) id3 F1) ((id3, .cust (vecAt v ity irs rows)) :: setR id2 (.cust (poolC ity irs (l.set j (v, none)))) st.hp) k → SOf φ st.hp k := by
    rintro k ⟨i, r, h1, h2⟩
    rcases hget i r h1 with ⟨rfl, rfl⟩ | ⟨rfl, rfl⟩ | ⟨e, e', h3⟩
    · rw [hφ2] at h2; exact ⟨_, _, hg2, hin1 k h2⟩
    · rw [hφ1] at h2; exact ⟨_, _, hg2, hin2 k h2⟩
    · rw [hφ i e e'] at h2; exact ⟨i, r, h3, h2⟩
  have hw : ∀ {S}, Same S w w := ⟨Nat.le_refl _, fun _ _ _ => rfl⟩
  refine hr.re (fun id r k h1 h2 => hS k ⟨id, r, h1, h2⟩) ?_ ?_ ?_ (fun i v hi => upd_ne _ _ (fun e => by subst e; rw [hpin] at hi; cases hi))
  · intro i av h
    simp only [get_cons] at h
    by_cases e : d = i
    · subst e
      rw [if_pos rfl] at h
      obtain rfl := Option.some.inj h
      obtain ⟨u, h2, h3⟩ := hr.slots _ _ hd
      simp only [ARel, Rel] at h3
      exact ⟨u, h2, by simp only [ARel]; rw [upd_self, h3]⟩
    · rw [if_neg e] at h
      obtain ⟨u, h2, h3⟩ := hr.slots i av h
      exact ⟨u, h2, ARel.mono hw (fun k _ h => hS k h) av u (fun j hj => upd_ne _ _ (fun e => by subst e; rw [hfT i av h] at hj; cases hj)) h3⟩
  · intro i r h
    rcases hget i r h with ⟨rfl, rfl⟩ | ⟨rfl, rfl⟩ | ⟨e, e', h3'⟩
    · rw [hφ2, upd_self]
      exact ⟨rfl, RRes.mono hw (fun k _ h => hS k h) (fun _ _ => rfl) (.vec ity irs rows) (fun _ _ => rfl) h3⟩
    · rw [hφ1, upd_ne _ _ hne]
      exact ⟨hp1, PoolR.mono hw (fun k _ h => hS k h) _ _ (fun _ _ => rfl) h4⟩
    · rw [hφ i e e', upd_ne _ _ e']
      exact RRes.mono hw (fun k _ h => hS k h) (fun _ _ => rfl) r (fun j hj => upd_ne _ _ (fun e2 => by subst e2; rw [hfH i r h3'] at hj; cases hj)) (hr.res i r h3')
  · intro i j r r' k h1 h2 f3 f4
    rcases hget i r h1 with ⟨rfl, rfl⟩ | ⟨rfl, rfl⟩ | ⟨e, e', g3⟩
    · rw [hφ2] at f3
      rcases hget j r' h2 with ⟨rfl, rfl⟩ | ⟨rfl, rfl⟩ | ⟨e2, e2', g4⟩
      · rfl
      · rw [hφ1] at f4; exact absurd f4 (h6 k f3)
      · rw [hφ j e2 e2'] at f4; exact absurd (hr.disj _ _ _ _ k g4 hg2 f4 (hin1 k f3)) e2
    · rw [hφ1] at f3
      rcases hget j r' h2 with ⟨rfl, rfl⟩ | ⟨rfl, rfl⟩ | ⟨e2, e2', g4⟩
      · rw [hφ2] at f4; exact absurd f3 (h6 k f4)
      · rfl
      · rw [hφ j e2 e2'] at f4; exact absurd (hr.disj _ _ _ _ k g4 hg2 f4 (hin2 k f3)) e2
    · rw [hφ i e e'] at f3
      rcases hget j r' h2 with ⟨rfl, rfl⟩ | ⟨rfl, rfl⟩ | ⟨e2, e2', g4⟩
      · rw [hφ2] at f4; exact absurd (hr.disj _ _ _ _ k g3 hg2 f3 (hin1 k f4)) e
      · rw [hφ1] at f4; exact absurd (hr.disj _ _ _ _ k g3 hg2 f3 (hin2 k f4)) e
      · rw [hφ j e2 e2'] at f4; exact hr.disj _ _ _ _ k g3 g4 f3 f4

/-- And given back. -/
theorem RepE.poolGive {η : Nat → Value} {φ : Nat → List Nat} {a : Act} {w : World} (hr : RepE fr η φ st a w) (id2 id3 : Nat) {ity irs : Nat} {l : List (Value × Option (List (List PV)))} {j : Nat} {v : Value} {rows : List (List PV)}
    (hg2 : get st.hp id2 = some (.cust (poolC ity irs l))) (hg3 : get st.hp id3 = some (.cust (vecAt v ity irs rows))) (hne : id2 ≠ id3) (hj : l[j]? = some (v, none)) :
    ∃ φ', RepE fr η φ' ⟨st.tm, remH [id3] (setR id2 (.cust (poolC ity irs (l.set j (v, some rows)))) st.hp)⟩ a w := by
  obtain ⟨hp1, hp2⟩ := hr.res _ _ hg2
  obtain ⟨hv1, hv2⟩ := hr.res _ _ hg3
  obtain ⟨F2, h4, h5⟩ := PoolR.give l _ j v rows _ hp2 hj hv2 (fun k hk hm => hne (hr.disj _ _ _ _ k hg2 hg3 hm hk))
  refine ⟨upd φ id2 F2, ?_⟩
  have hget : ∀ i r, get (remH [id3] (setR id2 (.cust (poolC ity irs (l.set j (v, some rows)))) st.hp)) i = some r → (i = id2 ∧ r = .cust (poolC ity irs (l.set j (v, some rows)))) ∨ (i ≠ id2 ∧ i ≠ id3 ∧ get st.hp i = some r) := by
    intro i r h
    rw [get_remH] at h
    by_cases e : i ∈ [id3]
    · rw [if_pos e] at h; cases h
    · rw [if_neg e, get_setR id2 _ _ _ hg2] at h
      by_cases e1 : i = id2
      · rw [if_pos e1] at h; exact .inl ⟨e1, (Option.some.inj h).symm⟩
      · rw [if_neg e1] at h; exact .inr ⟨e1, by simpa using e, h⟩
  have hS : ∀ k, SOf (upd φ id2 F2) (remH [id3] (setR id2 (.cust (poolC ity irs (l.set j (v, some rows)))) st.hp)) k → SOf φ st.hp k := by
    rintro k ⟨i, r, h1, h2⟩
    rcases hget i r h1 with ⟨rfl, rfl⟩ | ⟨e, _, h3⟩
    · rw [upd_self] at h2
      rcases (h5 k).1 h2 with h2 | h2
      · exact ⟨_, _, hg2, h2⟩
      · exact ⟨_, _, hg3, h2⟩
    · rw [upd_ne _ _ e] at h2; exact ⟨i, r, h3, h2⟩
  have hw : ∀ {S}, Same S w w := ⟨Nat.le_refl _, fun _ _ _ => rfl⟩
  refine hr.re (fun id r k h1 h2 => hS k ⟨id, r, h1, h2⟩) ?_ ?_ ?_ (fun _ _ _ => rfl)
  · intro i av h
    obtain ⟨u, h2, h3⟩ := hr.slots i av h
    exact ⟨u, h2, ARel.mono hw (fun k _ h => hS k h) av u (fun _ _ => rfl) h3⟩
  · intro i r h
    rcases hget i r h with ⟨rfl, rfl⟩ | ⟨e, _, h3⟩
    · rw [upd_self]
      exact ⟨hp1, PoolR.mono hw (fun k _ h => hS k h) _ _ (fun _ _ => rfl) h4⟩
    · rw [upd_ne _ _ e]
      exact RRes.mono hw (fun k _ h => hS k h) (fun _ _ => rfl) r (fun _ _ => rfl) (hr.res i r h3)
  · intro i j r r' k h1 h2 h3 h4
    rcases hget i r h1 with ⟨rfl, rfl⟩ | ⟨e, e', f3⟩
    · rw [upd_self] at h3
      rcases hget j r' h2 with ⟨rfl, rfl⟩ | ⟨e2, e2', f4⟩
      · rfl
      · rw [upd_ne _ _ e2] at h4
        rcases (h5 k).1 h3 with h3 | h3
        · exact absurd (hr.disj _ _ _ _ k f4 hg2 h4 h3) e2
        · exact absurd (hr.disj _ _ _ _ k f4 hg3 h4 h3) e2'
    · rw [upd_ne _ _ e] at h3
      rcases hget j r' h2 with ⟨rfl, rfl⟩ | ⟨e2, e2', f4⟩
      · rw [upd_self] at h4
        rcases (h5 k).1 h4 with h4 | h4
        · exact absurd (hr.disj _ _ _ _ k f3 hg2 h3 h4) e
        · exact absurd (hr.disj _ _ _ _ k f3 hg3 h3 h4) e'
      · rw [upd_ne _ _ e2] at h4
        exact hr.disj _ _ _ _ k f3 f4 h3 h4

variable {ops : Array Oper} {rest : List Oper} {k : List It}
theorem AC.poolNew (id ty rs : Nat) (hf : st.fresh id = true) (hk : AC P fr k ⟨st.tm, (id, .cust (poolC ty rs [])) :: st.hp⟩) (hpin : get fr.pin id = none := by rfl) : AC P fr k st :=
  fun a w ⟨_, _, hr⟩ => hk a w ⟨_, _, hr.add (Below.refl _ _) id hf (.cust (poolC ty rs [])) (.pointer none) [] (by simp) ⟨rfl, rfl⟩ hpin⟩
theorem AO.poolAdd (id1 id2 : Nat) {ty rs : Nat} {rows : List (List PV)} {l : List (Value × Option (List (List PV)))} (hg1 : get st.hp id1 = some (.vec ty rs rows)) (hg2 : get st.hp id2 = some (.cust (poolC ty rs l))) (hne : Nat.beq id1 id2 = false)
    (hk : ∀ a n c, AO P fr ops rest k false ⟨substT id1 (.v (.slice a n c)) st.tm, setR id2 (.cust (poolC ty rs (l ++ [(.slice a n c, some rows)]))) (substH id1 (.v (.slice a n c)) st.hp)⟩) : AO P fr ops rest k false st :=
  fun a w ⟨η, φ, hr⟩ => by
    have h := hr.poolAdd id1 id2 hg1 hg2 (fun e => by subst e; simp at hne)
    obtain ⟨xs, _, _, h3, _⟩ := hr.res id1 _ hg1
    rcases h3.2 with ⟨e, _⟩ | ⟨g, cap, cur, e, _⟩
    · rw [e] at h; exact hk _ _ _ a w ⟨_, _, h⟩
    · rw [e] at h; exact hk _ _ _ a w ⟨_, _, h⟩
theorem AC.nestJoin (id1 id2 : Nat) {ty rs ity irs : Nat} {rows : List (List PV)} {l : List (Value × Option (List (List PV)))} {cs : List (List PV)} {ins : List (List (List PV))} {V : List (List PV)} {hV : nestL irs cs ins = V} {vs : List Value}
    (hg1 : get st.hp id1 = some (.vec ty rs rows)) (hg2 : get st.hp id2 = some (.cust (poolC ity irs l))) (hne : Nat.beq id1 id2 = false)
    (h1 : rows = rowsV cs vs) (h2 : l = poolL vs ins) (hl1 : vs.length = cs.length) (hl2 : ins.length = cs.length)
    (hk : AC P fr k ⟨st.tm, remH [id2] (setR id1 (.cust (nestC ty rs ity irs cs ins V hV)) st.hp)⟩) : AC P fr k st :=
  fun a w ⟨_, _, hr⟩ => hk a w ⟨_, _, hr.nestJoin id1 id2 hg1 hg2 (fun e => by subst e; simp at hne) h1 h2 hl1 hl2⟩
theorem AC.nestSplit (id1 id2 : Nat) {ty rs ity irs : Nat} {cs : List (List PV)} {ins : List (List (List PV))} {V : List (List PV)} {hV : nestL irs cs ins = V} (hg1 : get st.hp id1 = some (.cust (nestC ty rs ity irs cs ins V hV))) (hf : st.fresh id2 = true)
    (hk : ∀ vs : List Value, vs.length = cs.length → ins.length = cs.length → AC P fr k ⟨st.tm, (id2, .cust (poolC ity irs (poolL vs ins))) :: setR id1 (.vec ty rs (rowsV cs vs)) st.hp⟩) (hpin : get fr.pin id2 = none := by rfl) : AC P fr k st :=
  fun a w ⟨_, _, hr⟩ => by
    obtain ⟨vs, h1, h2, η', φ', h3⟩ := hr.nestSplit id1 id2 hg1 hf hpin
    exact hk vs h1 h2 a w ⟨η', φ', h3⟩
theorem AO.poolTake (d id2 id3 : Nat) {ity irs : Nat} {l : List (Value × Option (List (List PV)))} {j : Nat} {v : Value} {rows : List (List PV)}
    (hd : get st.tm d = some (.p (.v v))) (hg2 : get st.hp id2 = some (.cust (poolC ity irs l))) (hj : l[j]? = some (v, some rows)) (hf : st.fresh id3 = true)
    (hk : AO P fr ops rest k false ⟨(d, .h id3) :: st.tm, (id3, .cust (vecAt v ity irs rows)) :: setR id2 (.cust (poolC ity irs (l.set j (v, none)))) st.hp⟩) (hpin : get fr.pin id3 = none := by rfl) : AO P fr ops rest k false st :=
  fun a w ⟨_, _, hr⟩ => by
    obtain ⟨η', φ', h3⟩ := hr.poolTake d id2 id3 hd hg2 hj hf hpin
    exact hk a w ⟨η', φ', h3⟩
theorem AO.poolGive (id2 id3 : Nat) {ity irs : Nat} {l : List (Value × Option (List (List PV)))} {j : Nat} {v : Value} {rows : List (List PV)}
    (hg2 : get st.hp id2 = some (.cust (poolC ity irs l))) (hg3 : get st.hp id3 = some (.cust (vecAt v ity irs rows))) (hne : Nat.beq id2 id3 = false) (hj : l[j]? = some (v, none))
    (hk : AO P fr ops rest k false ⟨st.tm, remH [id3] (setR id2 (.cust (poolC ity irs (l.set j (v, some rows)))) st.hp)⟩) : AO P fr ops rest k false st :=
  fun a w ⟨_, _, hr⟩ => by
    obtain ⟨φ', h3⟩ := hr.poolGive id2 id3 hg2 hg3 (fun e => by subst e; simp at hne) hj
    exact hk a w ⟨_, φ', h3⟩

/-- A contract on a slice of one's own, with the handle named. -/
theorem FnE.at {α : Type} {f : FuncId} {args : List AV} {ty rs : Nat} {rows : List (List PV)} {R : α → Prop} {r : α → AV} {rows' : α → List (List PV)} (hp : FnE P f args [(0, .vec ty rs rows)] [0] R r (fun x => [(0, .vec ty rs (rows' x))])) (v : Value) :
    FnE P f args [(0, .cust (vecAt v ty rs rows))] [0] R r (fun x => [(0, .cust (vecAt v ty rs (rows' x)))]) := by
  intro w0 F0 η φ w us hok hargs
  have hS : ∀ (φ : Nat → List Nat) (A B : Res) (C : Res), SOf φ [(900, C), (0, A)] = SOf φ [(900, C), (0, B)] := by
    intro φ A B C; funext k; apply propext
    simp only [SOf, get_cons]
    constructor
    · rintro ⟨i, r, h1, h2⟩
      by_cases e : 900 = i
      · exact ⟨i, C, by rw [if_pos e], h2⟩
      · by_cases e0 : 0 = i
        · exact ⟨i, B, by rw [if_neg e, if_pos e0], h2⟩
        · rw [if_neg e, if_neg e0] at h1; cases h1
    · rintro ⟨i, r, h1, h2⟩
      by_cases e : 900 = i
      · exact ⟨i, C, by rw [if_pos e], h2⟩
      · by_cases e0 : 0 = i
        · exact ⟨i, A, by rw [if_neg e, if_pos e0], h2⟩
        · rw [if_neg e, if_neg e0] at h1; cases h1
  have g0 : ∀ (A B C : Res) i r, get [(900, C), (0, A)] i = some r → (i = 900 ∧ r = C) ∨ (i = 0 ∧ r = A) := by
    intro A B C i r h
    simp only [get_cons] at h
    by_cases e : 900 = i
    · rw [if_pos e] at h; exact .inl ⟨e.symm, (Option.some.inj h).symm⟩
    · rw [if_neg e] at h
      by_cases e0 : 0 = i
      · rw [if_pos e0] at h; exact .inr ⟨e0.symm, (Option.some.inj h).symm⟩
      · rw [if_neg e0] at h; cases h
  have some0 : ∀ (A C : Res), get [(900, C), (0, A)] 0 = some A := fun A C => rfl
  have some9 : ∀ (A C : Res), get [(900, C), (0, A)] 900 = some C := fun A C => rfl
  have other : ∀ (A B C : Res) i r, get [(900, C), (0, A)] i = some r → ∃ r', get [(900, C), (0, B)] i = some r' := by
    intro A B C i r h
    rcases g0 A B C i r h with ⟨rfl, _⟩ | ⟨rfl, _⟩
    · exact ⟨_, some9 B C⟩
    · exact ⟨_, some0 B C⟩
  obtain ⟨hv1, hv2⟩ := hok.res 0 _ (some0 _ _)
  rw [hS φ _ (.vec ty rs rows)] at hargs
  refine (hp w0 F0 η φ w us ⟨?_, ?_, ?_⟩ hargs).mono ?_
  · intro id r h
    rcases g0 _ (.vec ty rs rows) _ id r h with ⟨rfl, rfl⟩ | ⟨rfl, rfl⟩
    · rw [hS φ _ (.cust (vecAt v ty rs rows))]; exact hok.res 900 _ (some9 _ _)
    · rw [hS φ _ (.cust (vecAt v ty rs rows)), hv1]; exact RRes.handle hv2 _
  · intro id id' r r' k h1 h2 h3 h4
    obtain ⟨_, h1'⟩ := other _ (.cust (vecAt v ty rs rows)) _ id r h1
    obtain ⟨_, h2'⟩ := other _ (.cust (vecAt v ty rs rows)) _ id' r' h2
    exact hok.disj id id' _ _ k h1' h2' h3 h4
  · intro id r k h1 h2
    obtain ⟨_, h1'⟩ := other _ (.cust (vecAt v ty rs rows)) _ id r h1
    exact hok.lt id _ k h1' h2
  · rintro e w' ⟨x, hR, u, η', φ', e1, hok', hrel, hkp, hblk, hkeep⟩
    refine ⟨x, hR, u, η', φ', e1, ⟨?_, ?_, ?_⟩, ?_, hkp, ?_, ?_⟩
    · intro id r h
      rcases g0 _ (.vec ty rs (rows' x)) _ id r h with ⟨rfl, rfl⟩ | ⟨rfl, rfl⟩
      · rw [hS φ' _ (.vec ty rs (rows' x))]; exact hok'.res 900 _ (some9 _ _)
      · rw [hS φ' _ (.vec ty rs (rows' x))]
        have h0 := hkp 0 (by simp)
        refine ⟨h0.trans hv1, ?_⟩
        have h5 := hok'.res 0 _ (some0 (.vec ty rs (rows' x)) _)
        rw [h0, hv1] at h5
        exact RRes.handle h5 _
    · intro id id' r r' k h1 h2 h3 h4
      obtain ⟨_, h1'⟩ := other _ (.vec ty rs (rows' x)) _ id r h1
      obtain ⟨_, h2'⟩ := other _ (.vec ty rs (rows' x)) _ id' r' h2
      exact hok'.disj id id' _ _ k h1' h2' h3 h4
    · intro id r k h1 h2
      obtain ⟨_, h1'⟩ := other _ (.vec ty rs (rows' x)) _ id r h1
      exact hok'.lt id _ k h1' h2
    · rw [hS φ' _ (.vec ty rs (rows' x))]; exact hrel
    · intro i r k h1 h2
      obtain ⟨_, h1'⟩ := other _ (.vec ty rs (rows' x)) _ i r h1
      rw [hS φ _ (.vec ty rs rows)]
      exact hblk i _ k h1' h2
    · rw [hS φ _ (.vec ty rs rows)]; exact hkeep

theorem PoolR.append {ty rs : Nat} {S : Nat → Prop} {w : World} : ∀ (l l' : List (Value × Option (List (List PV)))) (F F' : List Nat), PoolR ty rs S w l F → PoolR ty rs S w l' F' → (∀ k ∈ F, k ∉ F') → PoolR ty rs S w (l ++ l') (F ++ F')
  | [], l', F, F', h, h', _ => by simp only [PoolR] at h; subst h; simpa using h'
  | (_, none) :: l, l', F, F', h, h', hd => PoolR.append l l' F F' h h' hd
  | (v, some rows) :: l, l', F, F', h, h', hd => by
    obtain ⟨F1, F2, rfl, h2, h3, h4⟩ := h
    refine ⟨F1, F2 ++ F', by simp, fun k hk hm => ?_, h3, PoolR.append l l' F2 F' h4 h' (fun k hk => hd k (by simp [hk]))⟩
    rcases List.mem_append.1 hm with hm | hm
    · exact h2 k hk hm
    · exact hd k (by simp [hk]) hm
/-- Two such heaps become one. -/
theorem RepE.poolMerge {η : Nat → Value} {φ : Nat → List Nat} {a : Act} {w : World} (hr : RepE fr η φ st a w) (id1 id2 : Nat) {ty rs : Nat} {l l' : List (Value × Option (List (List PV)))}
    (hg1 : get st.hp id1 = some (.cust (poolC ty rs l))) (hg2 : get st.hp id2 = some (.cust (poolC ty rs l'))) (hne : id1 ≠ id2) :
    RepE fr η (upd φ id1 (φ id1 ++ φ id2)) ⟨st.tm, remH [id2] (setR id1 (.cust (poolC ty rs (l ++ l'))) st.hp)⟩ a w := by
  have hget : ∀ i r, get (remH [id2] (setR id1 (.cust (poolC ty rs (l ++ l'))) st.hp)) i = some r → (i = id1 ∧ r = .cust (poolC ty rs (l ++ l'))) ∨ (i ≠ id1 ∧ i ≠ id2 ∧ get st.hp i = some r) := by
    intro i r h
    rw [get_remH] at h
    by_cases e : i ∈ [id2]
    · rw [if_pos e] at h; cases h
    · rw [if_neg e, get_setR id1 _ _ _ hg1] at h
      by_cases e1 : i = id1
      · rw [if_pos e1] at h; exact .inl ⟨e1, (Option.some.inj h).symm⟩
      · rw [if_neg e1] at h; exact .inr ⟨e1, by simpa using e, h⟩
  have hS : ∀ k, SOf (upd φ id1 (φ id1 ++ φ id2)) (remH [id2] (setR id1 (.cust (poolC ty rs (l ++ l'))) st.hp)) k → SOf φ st.hp k := by
    rintro k ⟨i, r, h1, h2⟩
    rcases hget i r h1 with ⟨rfl, rfl⟩ | ⟨e, _, h3⟩
    · rw [upd_self] at h2
      rcases List.mem_append.1 h2 with h2 | h2
      · exact ⟨_, _, hg1, h2⟩
      · exact ⟨_, _, hg2, h2⟩
    · rw [upd_ne _ _ e] at h2; exact ⟨i, r, h3, h2⟩
  have hw : ∀ {S}, Same S w w := ⟨Nat.le_refl _, fun _ _ _ => rfl⟩
  refine hr.re (fun id r k h1 h2 => hS k ⟨id, r, h1, h2⟩) ?_ ?_ ?_ (fun _ _ _ => rfl)
  · intro i av h
    obtain ⟨u, h2, h3⟩ := hr.slots i av h
    exact ⟨u, h2, ARel.mono hw (fun k _ h => hS k h) av u (fun _ _ => rfl) h3⟩
  · intro i r h
    rcases hget i r h with ⟨rfl, rfl⟩ | ⟨e, _, h3⟩
    · rw [upd_self]
      obtain ⟨h4, h5⟩ := hr.res _ _ hg1
      obtain ⟨_, h6⟩ := hr.res _ _ hg2
      exact ⟨h4, PoolR.mono hw (fun k _ h => hS k h) _ _ (fun _ _ => rfl) (PoolR.append _ _ _ _ h5 h6 (fun k hk hm => hne (hr.disj _ _ _ _ k hg1 hg2 hk hm)))⟩
    · rw [upd_ne _ _ e]
      exact RRes.mono hw (fun k _ h => hS k h) (fun _ _ => rfl) r (fun _ _ => rfl) (hr.res i r h3)
  · intro i j r r' k h1 h2 h3 h4
    rcases hget i r h1 with ⟨rfl, rfl⟩ | ⟨e, e', f3⟩
    · rw [upd_self] at h3
      rcases hget j r' h2 with ⟨rfl, rfl⟩ | ⟨e2, e2', f4⟩
      · rfl
      · rw [upd_ne _ _ e2] at h4
        rcases List.mem_append.1 h3 with h3 | h3
        · exact absurd (hr.disj _ _ _ _ k f4 hg1 h4 h3) e2
        · exact absurd (hr.disj _ _ _ _ k f4 hg2 h4 h3) e2'
    · rw [upd_ne _ _ e] at h3
      rcases hget j r' h2 with ⟨rfl, rfl⟩ | ⟨e2, e2', f4⟩
      · rw [upd_self] at h4
        rcases List.mem_append.1 h4 with h4 | h4
        · exact absurd (hr.disj _ _ _ _ k f3 hg1 h3 h4) e
        · exact absurd (hr.disj _ _ _ _ k f3 hg2 h3 h4) e'
      · rw [upd_ne _ _ e2] at h4
        exact hr.disj _ _ _ _ k f3 f4 h3 h4
theorem AC.poolMerge (id1 id2 : Nat) {ty rs : Nat} {l l' : List (Value × Option (List (List PV)))} (hg1 : get st.hp id1 = some (.cust (poolC ty rs l))) (hg2 : get st.hp id2 = some (.cust (poolC ty rs l'))) (hne : Nat.beq id1 id2 = false)
    (hk : AC P fr k ⟨st.tm, remH [id2] (setR id1 (.cust (poolC ty rs (l ++ l'))) st.hp)⟩) : AC P fr k st :=
  fun a w ⟨_, _, hr⟩ => hk a w ⟨_, _, hr.poolMerge id1 id2 hg1 hg2 (fun e => by subst e; simp at hne)⟩
theorem AO.poolNew (id ty rs : Nat) (hf : st.fresh id = true) (hk : AO P fr ops rest k false ⟨st.tm, (id, .cust (poolC ty rs [])) :: st.hp⟩) (hpin : get fr.pin id = none := by rfl) : AO P fr ops rest k false st :=
  fun a w ⟨_, _, hr⟩ => hk a w ⟨_, _, hr.add (Below.refl _ _) id hf (.cust (poolC ty rs [])) (.pointer none) [] (by simp) ⟨rfl, rfl⟩ hpin⟩
end

theorem PoolR.flat {ty rs : Nat} {S S' : Nat → Prop} {w : World} : ∀ (l : List (Value × Option (List (List PV)))) (F : List Nat), (∀ p ∈ l, ∀ rows, p.2 = some rows → ∀ r ∈ rows, PV.FlatL r) → PoolR ty rs S w l F → PoolR ty rs S' w l F
  | [], F, _, h => h
  | (_, none) :: l, F, hl, h => PoolR.flat l F (fun p hp => hl p (by simp [hp])) h
  | (v, some rows) :: l, F, hl, h => by
    obtain ⟨F1, F2, rfl, h2, h3, h4⟩ := h
    exact ⟨F1, F2, rfl, h2, vec_flat (hl (v, some rows) (by simp) rows rfl) h3, PoolR.flat l F2 (fun p hp => hl p (by simp [hp])) h4⟩
theorem flatL_v : ∀ (c : List PV) (v : Value), PV.FlatL c → PV.FlatL (c ++ [.v v])
  | [], v, _ => ⟨trivial, trivial⟩
  | x :: c, v, h => ⟨h.1, flatL_v c v h.2⟩
theorem nest_flat {ty rs ity irs : Nat} {cs : List (List PV)} {ins : List (List (List PV))} {V : List (List PV)} {hV : nestL irs cs ins = V} (hc : ∀ c ∈ cs, PV.FlatL c) (hi : ∀ rows ∈ ins, ∀ r ∈ rows, PV.FlatL r) : Res.Flat (.cust (nestC ty rs ity irs cs ins V hV)) := by
  intro S S' w hd F h
  obtain ⟨vs, F1, F2, h1, h2, h3, h4, h5, h6⟩ := h
  refine ⟨vs, F1, F2, h1, h2, vec_flat (fun r hr => ?_) h3, PoolR.flat _ _ (fun p hp rows he => ?_) h4, h5, h6⟩
  · obtain ⟨i, hi'⟩ := List.getElem?_of_mem hr
    simp only [rowsV, List.getElem?_zipWith] at hi'
    cases h7 : cs[i]? with
    | none => rw [h7] at hi'; simp at hi'
    | some c =>
      cases h8 : vs[i]? with
      | none => rw [h7, h8] at hi'; simp at hi'
      | some v =>
        rw [h7, h8] at hi'
        simp only [Option.some.injEq] at hi'
        subst hi'
        exact flatL_v c v (hc c (List.mem_of_getElem? h7))
  · obtain ⟨i, hi'⟩ := List.getElem?_of_mem hp
    simp only [poolL, List.getElem?_zipWith] at hi'
    cases h7 : vs[i]? with
    | none => rw [h7] at hi'; simp at hi'
    | some v =>
      cases h8 : ins[i]? with
      | none => rw [h7, h8] at hi'; simp at hi'
      | some c =>
        rw [h7, h8] at hi'
        simp only [Option.some.injEq] at hi'
        subst hi'
        simp only [Option.some.injEq] at he
        subst he
        exact hi c (List.mem_of_getElem? h8)
end Go.V
/- The calculus' rules: what append, literals and calls do, in whatever order a region's operations are carried out; bits. -/
namespace Go.V
open Go Go.RowKit

section
variable {P : Program} {fr : Fr} {st st' : St} {ops : Array Oper} {rest : List Oper} {k : List It} {o : Oper}
/-- What an operation does; what it hands back may be one of several. -/
def EffX (P : Program) (fr : Fr) (o : Oper) (st : St) (T : St → Prop) : Prop := ∀ a w, Rep fr st a w →
  ∃ f args w', (execOp a.eval o).run P w = .ok (.enter f args) w' ∧ Calls P f args w' fun e w'' => ∃ u, e = .returned u ∧ ∃ s, T s ∧ Rep fr s (a.put o.dst u) w''
theorem EffX.wp {T : St → Prop} (h : EffX P fr o st T) {K : Act → World → Prop} {Q : Exit → Act → World → Prop} {a : Act} {w : World} (hr : Rep fr st a w) (hK : ∀ s, T s → ∀ a' w', Rep fr s a' w' → K a' w') : o.wp P a w K Q := by
  unfold Oper.wp
  obtain ⟨f, args, w', e, h'⟩ := h a w hr
  rw [e]; exact Calls.mono h' (fun e w'' ⟨u, e1, s, h1, h2⟩ => by subst e1; exact hK s h1 _ _ h2)
/-! Orders; what stands at the end may be one of several. -/
def ANx {α : Type} (P : Program) (fr : Fr) (ops : Array Oper) (fin : α → St) (fuel : Nat) (listed : Array Bool) (st : St) : Prop :=
  ∀ a w, Rep fr st a w → wpAny P .any ops (qn fun a w => ∃ x, Rep fr (fin x) a w) fuel listed a w
def Stpx {α : Type} (P : Program) (fr : Fr) (ops : Array Oper) (fin : α → St) (fuel : Nat) (listed : Array Bool) (st : St) (i : Nat) : Prop :=
  ∀ a w, Rep fr st a w → wpOp P ops (qn fun a w => ∃ x, Rep fr (fin x) a w) i (wpAny P .any ops (qn fun a w => ∃ x, Rep fr (fin x) a w) fuel (listed.setIfInBounds i true)) a w
variable {α : Type} {fin : α → St} {fuel : Nat} {listed : Array Bool}
theorem AC.drawAnyX {α : Type} {id : Nat} {l : List Oper} (fin : α → St) (hm : P.follows .mixedOrders = true) (h : ANx P fr l.toArray fin l.length (Array.replicate l.length false) st) (hk : ∀ x, AC P fr k (fin x)) :
    AC P fr (.code (.region id l.toArray true) :: k) st := by
  rintro a w ⟨η, φ, hr⟩
  have hd : Below w.heap.size w { w with drawn := w.drawn + 1 } := Below.drew (Below.refl _ _)
  refine wp_mono (wp_region_any (Q := qn fun a w => ∃ x, Rep fr (fin x) a w) hm ?_) (fun e a w ⟨e1, x, h'⟩ => by subst e1; exact hk x a w h')
  have := h a _ ⟨η, φ, hr.below hd⟩
  simpa using this
theorem AC.drawAnyC {α : Type} {id : Nat} {l : List Oper} (C : List (Nat × AV)) (CH : List (Nat × Res)) (V : α → List (Nat × AV)) (H : α → List (Nat × Res)) (hm : P.follows .mixedOrders = true)
    (h : ANx P fr l.toArray (fun x => ⟨V x ++ C, H x ++ CH⟩) l.length (Array.replicate l.length false) st) (hk : ∀ x, AC P fr k ⟨V x ++ C, H x ++ CH⟩) : AC P fr (.code (.region id l.toArray true) :: k) st := AC.drawAnyX _ hm h hk
theorem ANx.take (i : Nat) {o : Oper} {d : Nat} {av : AV} (ho : ops[i]? = some o) (hs : Region.noSelect ops = true) (hf : Region.free .any ops listed i = true) (hr : (Region.ready .any ops listed).contains i = true)
    (hd : o.dst = some d) (hg : o.guard = none) (hlt : Nat.blt d fr.nt = true) (hy : YldA P fr o st av) (h : ANx P fr ops fin fuel (listed.setIfInBounds i true) (st.put d av)) : ANx P fr ops fin (fuel + 1) listed st := by
  rintro a w ⟨η, φ, hr'⟩
  obtain ⟨u, h1, h2⟩ := hy η φ a w hr'
  exact wpAny_take ho hs hf hr (fun c a w h => by cases h.1) (.inl ⟨wanted_none hg _, h1⟩) (h _ _ ⟨η, φ, by rw [hd]; exact hr'.put hlt h2⟩)
theorem ANx.all {rs : List Nat} (hr : Region.ready .any ops listed = rs) (hne : rs.isEmpty = false) (h : AllI (Stpx P fr ops fin fuel listed st) rs) : ANx P fr ops fin (fuel + 1) listed st :=
  fun a w hr' => wpAny_all hr (by intro e; rw [e] at hne; cases hne) (fun i hi => h.spec i hi a w hr')
theorem Stpx.eff {i : Nat} {o : Oper} (ho : ops[i]? = some o) (hg : o.guard = none) (he : Eff P fr o st st') (h : ANx P fr ops fin fuel (listed.setIfInBounds i true) st') : Stpx P fr ops fin fuel listed st i := by
  intro a w hr
  unfold wpOp
  simp only [ho, wanted_none hg, if_true]
  exact .inl (he.wp hr h)
theorem Stpx.effX {i : Nat} {o : Oper} {T : St → Prop} (ho : ops[i]? = some o) (hg : o.guard = none) (he : EffX P fr o st T) (h : ∀ s, T s → ANx P fr ops fin fuel (listed.setIfInBounds i true) s) : Stpx P fr ops fin fuel listed st i := by
  intro a w hr
  unfold wpOp
  simp only [ho, wanted_none hg, if_true]
  exact .inl (he.wp hr h)
theorem ANx.doneC {C : List (Nat × AV)} {CH : List (Nat × Res)} {V : α → List (Nat × AV)} {H : α → List (Nat × Res)} (x : α) (hr : Region.ready .any ops listed = []) (hV : SubT st.tm (V x)) (hH : SubH st.hp (H x)) (hC : SubT st.tm C) (hCH : SubH st.hp CH) :
    ANx P fr ops (fun x => ⟨V x ++ C, H x ++ CH⟩) fuel listed st := by
  have subT : ∀ {tm l l' : List (Nat × AV)}, SubT tm l → SubT tm l' → SubT tm (l ++ l') := by
    intro tm l l' h h'
    induction l with
    | nil => exact h'
    | cons a l ih => exact ⟨h.1, ih h.2⟩
  have subH : ∀ {tm l l' : List (Nat × Res)}, SubH tm l → SubH tm l' → SubH tm (l ++ l') := by
    intro tm l l' h h'
    induction l with
    | nil => exact h'
    | cons a l ih => exact ⟨h.1, ih h.2⟩
  exact fun a w h => wpAny_done hr ⟨rfl, x, Le.intro (st' := ⟨V x ++ C, H x ++ CH⟩) (subT hV hC) (subH hH hCH) a w h⟩ fuel
theorem ANx.done (x : α) (hr : Region.ready .any ops listed = []) (hl : Le fr st (fin x)) : ANx P fr ops fin fuel listed st :=
  fun a w h => wpAny_done hr ⟨rfl, x, hl a w h⟩ fuel
end
section
variable {P : Program} {fr : Fr} {st : St} {d : Nat} {t : TypeId} {pos : String} {aft : Array Edge}

theorem Eff.append {ty e : TypeId} {x y : Operand} (id : Nat) {z : Value} {rs bytes : Nat} {av : AV} {rows rows2 : List (List PV)} (hs : P.underlying ty = some (.slice e)) (hi : TyIs P e z rs bytes)
    (hzs : Nat.beq z.cells.size rs = true) (hrs : Nat.blt 0 rs = true) (hx : st.ev x = some (.h id)) (hid : get st.hp id = some (.vec e rs rows)) (hy : st.ev y = some av) (hav : av.names id = false) (hrows : st.rowsOf av = some (rs, rows2))
    (hone : ∀ r ∈ rows2, ∀ q ∈ r, pvOne q = true)
    (hbytes : (2 * (rows.length + rows2.length) + 1000) * bytes ≤ 281474976710656) (hnm : rows.length + rows2.length ≤ 4611686018427387904) (hlt : Nat.blt d fr.nt = true) (hpin : get fr.pin id = none := by rfl) :
    Eff P fr ⟨some d, .call { callee := .builtin .append, args := #[x, y], argTypes := #[ty, ty] }, t, pos, aft, none⟩ st ⟨(d, .h id) :: dropT id st.tm, setR id (.vec e rs (rows ++ rows2)) (dropH id st.hp)⟩ := by
  rintro a w ⟨η, φ, hr⟩
  refine .inl ?_
  · skip
    have ex := hr.ev hx
    simp only [ARel] at ex
    obtain ⟨hr2, p, cap, us, ey, hul, hrel2, hcells⟩ := rowsOf_rel hrows hr (hr.ev hy)
    obtain ⟨xs, f1, f2, f3, f4⟩ := hr.res id _ hid
    obtain ⟨v', w', g1, g2, g3, g4, g5, g6, g7, g8⟩ := run_append (tr := t) (c := cap) hs hi (Nat.eq_of_beq_eq_true hzs) (Nat.le_of_ble_eq_true hrs) f3 (a := p) (m := rows2.length) (news := us) hul
      (by rcases hcells with h | ⟨b, o, h1, _, h2⟩
          · exact .inl (by rw [h]; rfl)
          · exact .inr ⟨b, o, h1, h2⟩)
      (pvOnes_spec _ us hrel2 (fun q hq => by obtain ⟨r, hr1, hr2⟩ := List.mem_flatten.1 hq; exact hone r hr1 q hr2)) hbytes hnm
    refine ⟨v', w', exec_append (by rw [ex, ey]; exact g1), ?_⟩
    have hd := hr.drop id
    have hg0 : get (dropH id st.hp) id = some (.vec e rs rows) := by rw [get_dropH, hid]; rfl
    rw [← f4] at g7
    have hch := hd.change id hg0 (.vec e rs (rows ++ rows2)) v' v'.ownBlock.toList g3 g4 g5 g6 g7 (by rw [← f4] at g8; exact g8)
      (.inr ⟨freshT_drop id st.tm, fun j r _ hg => by rw [get_dropH] at hg; obtain ⟨r0, _, rfl⟩ := Option.map_eq_some_iff.1 hg; exact Res.drop_names id r0, hpin⟩) (by
        have hSame : Same (SOf φ st.hp) w w' := ⟨g6, fun k hk hn => g7 k hk (fun h => hn ⟨id, _, hid, h⟩)⟩
        have hS : ∀ k, k < w.heap.size → SOf (upd φ id v'.ownBlock.toList) (setR id (.vec e rs (rows ++ rows2)) (dropH id st.hp)) k → SOf φ st.hp k := by
          rintro k hk ⟨i, r', hg, hm⟩
          rw [get_setR id _ _ _ hg0] at hg
          by_cases e1 : i = id
          · subst e1; rw [upd_self] at hm
            rcases (g8 k hm).1 with h | h
            · exact ⟨i, _, hid, by rw [f4]; exact h⟩
            · omega
          · rw [if_neg e1, get_dropH] at hg
            obtain ⟨r0, h0, _⟩ := Option.map_eq_some_iff.1 hg
            rw [upd_ne _ _ e1] at hm; exact ⟨i, r0, h0, hm⟩
        refine ⟨xs ++ us, ?_, ?_, ?_, rfl⟩
        · rw [List.flatten_append]
          exact relL_append _ _ _ _ (RelL.mono hSame hS _ _ f1) (RelL.mono hSame hS _ _ hrel2)
        · intro r hr'
          rcases List.mem_append.1 hr' with h | h
          · exact f2 r h
          · exact hr2 r h
        · rw [List.length_append]; exact g2)
    exact ⟨_, _, hch.put hlt (av := .h id) (by simp only [ARel]; rw [upd_self])⟩

theorem Eff.appendNil {ty e : TypeId} {x y : Operand} (id : Nat) {z : Value} {rs bytes : Nat} {av : AV} {rows2 : List (List PV)} (hs : P.underlying ty = some (.slice e)) (hi : TyIs P e z rs bytes)
    (hzs : Nat.beq z.cells.size rs = true) (hrs : Nat.blt 0 rs = true) (hx : st.ev x = some (.p (.v (.slice none 0 0)))) (hy : st.ev y = some av) (hrows : st.rowsOf av = some (rs, rows2))
    (hone : ∀ r ∈ rows2, ∀ q ∈ r, pvOne q = true)
    (hbytes : (2 * (0 + rows2.length) + 1000) * bytes ≤ 281474976710656) (hnm : 0 + rows2.length ≤ 4611686018427387904) (hf : st.fresh id = true) (hlt : Nat.blt d fr.nt = true) (hpin : get fr.pin id = none := by rfl) :
    Eff P fr ⟨some d, .call { callee := .builtin .append, args := #[x, y], argTypes := #[ty, ty] }, t, pos, aft, none⟩ st ⟨(d, .h id) :: st.tm, (id, .vec e rs rows2) :: st.hp⟩ := by
  rintro a w ⟨η, φ, hr⟩
  refine .inl ?_
  · skip
    have ex := hr.ev hx
    simp only [ARel, Rel] at ex
    obtain ⟨hr2, p, cap, us, ey, hul, hrel2, hcells⟩ := rowsOf_rel hrows hr (hr.ev hy)
    obtain ⟨v', w', g1, g2, g3, g4, g5, g6, g7, g8⟩ := run_append (tr := t) (c := cap) hs hi (Nat.eq_of_beq_eq_true hzs) (Nat.le_of_ble_eq_true hrs) (World.ownsRow_nil w 0 e rs) (a := p) (m := rows2.length) (news := us) hul
      (by rcases hcells with h | ⟨b, o, h1, _, h2⟩
          · exact .inl (by rw [h]; rfl)
          · exact .inr ⟨b, o, h1, h2⟩)
      (pvOnes_spec _ us hrel2 (fun q hq => by obtain ⟨r, hr1, hr2⟩ := List.mem_flatten.1 hq; exact hone r hr1 q hr2)) hbytes hnm
    refine ⟨v', w', exec_append (by rw [ex, ey]; exact g1), ?_⟩
    have hb : Below w.heap.size w w' := ⟨g3, g4, g5, g6, fun k hk => g7 k hk (by simp [Value.ownBlock])⟩
    have hres := hr.addPut hb id hf (.vec e rs rows2) v' v'.ownBlock.toList (fun k hk => by
        have := g8 k hk
        simpa [Value.ownBlock] using this) (by
        have hSame : Same (SOf φ st.hp) w w' := Same.of_below hb
        have hS : ∀ k, k < w.heap.size → SOf (upd φ id v'.ownBlock.toList) ((id, .vec e rs rows2) :: st.hp) k → SOf φ st.hp k := by
          rintro k hk ⟨i, r', hg, hm⟩
          rw [get_cons] at hg
          split at hg
          · next e1 =>
            subst e1; rw [upd_self] at hm
            have := (g8 k hm).1
            simp [Value.ownBlock] at this
            omega
          · next e1 => rw [upd_ne _ _ (fun h => e1 h.symm)] at hm; exact ⟨i, r', hg, hm⟩
        refine ⟨us, RelL.mono hSame hS _ _ hrel2, hr2, ?_, rfl⟩
        simpa using g2) hlt hpin
    exact ⟨_, _, hres⟩

theorem Eff.buildSlice {dd : Nat} {ty e' : TypeId} {n : Nat} {l : List (Nat × Operand)} (id : Nat) {z : Value} {rs bytes : Nat} {cs : List AV} {xs : List PV} {rows : List (List PV)} (hs : P.underlying ty = some (.slice e')) (hi : TyIs P e' z rs bytes) (_hzs : Nat.beq z.cells.size rs = true)
    (hrs : Nat.blt 0 rs = true) (hn : Nat.blt (n * rs) 1000000 = true) (hf : st.fillA (fun i => some (i * rs, rs)) (List.replicate (n * rs) .junk) l = some cs) (hp : pvs cs = some xs) (hxl : Nat.beq xs.length (n * rs) = true) (hch : chunk rs n xs = rows)
    (hfr : st.fresh id = true) (hlt : Nat.blt dd fr.nt = true) (hpin : get fr.pin id = none := by rfl) :
    Eff P fr ⟨some dd, .buildSlice ty n l.toArray, t, pos, aft, none⟩ st ⟨(dd, .h id) :: st.tm, (id, .vec e' rs rows) :: st.hp⟩ := by
  rintro a w ⟨η, φ, hr⟩
  refine .inl ?_
  · skip
    obtain ⟨i, h1, h2, h3, h4⟩ := info_parts hi
    obtain ⟨hrows, hnl, hrl⟩ := chunk_spec (rs := rs) n xs (Nat.eq_of_beq_eq_true hxl)
    rw [hch] at hrows hnl hrl
    have hn' : n * rs < 1000000 := Nat.le_of_ble_eq_true hn
    have hrs0 : 0 < rs := Nat.le_of_ble_eq_true hrs
    have hnn : n < 1000000 := by
      have : n * 1 ≤ n * rs := Nat.mul_le_mul_left n hrs0
      omega
    have e : (l.toArray.map (fun (i, x) => (i, a.eval x))).toList = l.map (fun (i, x) => (i, a.eval x)) := by simp
    have main : ∃ us : Array Value, (Instr.buildSlice ty n (l.toArray.map fun (i, x) => (i, a.eval x))).run P w = .ok (.slice (some ⟨w.heap.size, 0, none⟩) n n) (w.alloc (.cells us e')) ∧ ARelL η (SOf φ st.hp) w cs us.toList := by
      rcases Nat.eq_zero_or_pos n with h0 | h0
      · subst h0
        obtain ⟨us, g1, g2⟩ := fillA_rel hr l (List.replicate (0 * rs) .junk) cs #[] hf (by simp [ARelL])
        exact ⟨us, run_buildSlice0 hs h1 _ us w (by rw [h3, e]; exact g1), g2⟩
      · obtain ⟨us, g1, g2⟩ := fillA_rel hr l (List.replicate (n * rs) .junk) cs ((Array.range (n * rs)).map (z.cells[· % z.cells.size]!)) hf (by
          have := junkL (η := η) (S := SOf φ st.hp) (w := w) ((Array.range (n * rs)).map (z.cells[· % z.cells.size]!)).toList
          simpa using this)
        refine ⟨us, ?_, g2⟩
        have hpos : ¬ n * i.size = 0 := by rw [h3]; have := Nat.mul_pos h0 hrs0; omega
        exact run_buildSlice w ty e' n _ us i z hs h1 h2 (by rw [h3]; omega) hpos (by rw [h3, e]; exact g1)
    obtain ⟨us, g1, g2⟩ := main
    have hrel := pvs_rel cs xs _ hp g2
    rw [← hrows] at hrel
    have husl : us.size = n * rs := by
      have := relL_length _ _ hrel
      rw [flatten_length rows hrl, hnl] at this
      simpa using this
    have hb : Below w.heap.size w (w.alloc (.cells us e')) := (Below.refl _ _).alloc (Nat.le_refl _) _
    refine ⟨_, _, by simp only [execOp, Sem.run_bind, g1]; rfl, _, _, hr.addPut hb id hfr (.vec e' rs rows) (.slice (some ⟨w.heap.size, 0, none⟩) n n) [w.heap.size] (by simp) ⟨us.toList, ?_, hrl, ⟨?_, .inr ⟨w.heap.size, n, us, by rw [hnl], Nat.zero_le _, heap_alloc_new w _, by omega, by simp only [maxLen]; omega, husl, ?_⟩⟩, rfl⟩ hlt hpin⟩
    · refine RelL.mono (Same.of_below hb) ?_ _ _ hrel
      rintro k hk ⟨i, r', hg, hm⟩
      rw [get_cons] at hg
      split at hg
      · next e => subst e; rw [upd_self] at hm; simp at hm; omega
      · next e => rw [upd_ne _ _ (fun h => e h.symm)] at hm; exact ⟨i, r', hg, hm⟩
    · simp [husl, hnl]
    · rw [hnl, List.take_of_length_le (by simp [husl])]

end
section
variable {P : Program} {fr : Fr} {st : St} {d : Option Nat} {t : TypeId} {pos : String} {aft : Array Edge} {g : Option (Nat × Bool)}
theorem EffX.callW {α : Type} {x : Operand} {args : List Operand} {argTypes : Array TypeId} {f : FuncId} {cv : AV} {avs caps cargs : List AV} {hi : List (Nat × Res)} {kp : List Nat} {R : α → Prop} {r : α → AV} {ho : α → List (Nat × Res)}
    (ρ his hos : List Nat) (hx : st.ev x = some cv) (hcv : cv.fn = some (f, caps)) (hf : Enters P f) (ha : st.evL args = some avs) (hp : FnE P f cargs hi kp R r ho) (hmode : Mode st (rn ρ) hi cargs (avs ++ caps) r ho)
    (hhis : hi.map (·.1) = his) (hhos : ∀ x, (ho x).map (·.1) = hos) (hh : HasH st.hp (rn ρ) hi)
    (hb : (nodupB his && nodupB hos && nodupB (his.map (rn ρ)) && nodupB ((his ++ hos.filter fun i => !his.contains i).map (rn ρ)) && freshAll st ((hos.filter fun i => !his.contains i).map (rn ρ))
      && noneB fr.pin (((his.filter fun i => !kp.contains i) ++ hos.filter fun i => !his.contains i).map (rn ρ)) && !his.contains 900 && !hos.contains 900 && inBH his hi && AV.inBL his cargs && !kp.contains 900 && ltO fr.nt d) = true)
    (hino : ∀ x, inBH hos (ho x) = true) (hinr : ∀ x, (r x).inB hos = true) :
    EffX P fr ⟨d, .call { callee := .value x, args := args.toArray, argTypes := argTypes }, t, pos, aft, g⟩ st (fun s => ∃ x, R x ∧ s = (st.behindCall (rn ρ) his hos kp (ho x)).putO d ((r x).rnm (rn ρ))) := by
  intro a w ⟨η, φ, hr⟩
  simp only [Bool.and_eq_true, Bool.not_eq_true'] at hb
  obtain ⟨⟨⟨⟨⟨⟨⟨⟨⟨⟨⟨b1, b2⟩, b3⟩, b4⟩, b5⟩, b6⟩, b7⟩, b8⟩, b9⟩, b10⟩, b11⟩, b12⟩ := hb
  obtain ⟨us, e1, e2⟩ := fn_rel hcv (hr.ev hx)
  refine ⟨_, _, _, by rw [exec_call hf e1], ?_⟩
  have h1 := aRelL_append _ _ _ _ (evL_rel hr args avs ha) e2
  have hSall : ∀ k, SOf (fun i => φ (rn ρ i)) hi k → SOf φ st.hp k := by
    rintro k ⟨i, q, hg, hm⟩; exact ⟨_, _, hh.spec i q hg, hm⟩
  have hsame : ∀ {S}, Same S w w := ⟨Nat.le_refl _, fun _ _ _ => rfl⟩
  -- the blocks that the call is not to touch, and what follows
  have main : ∀ F0 : List Nat, (∀ k ∈ F0, st.Oth φ (his.map (rn ρ)) k) → ARelL (fun i => η (rn ρ i)) (fun k => SOf (fun i => φ (rn ρ i)) hi k ∨ k ∈ F0) w cargs (args.map a.eval ++ us.toList) →
      (∀ x (η' : Nat → Value) φ' w' i q, get (ho x) i = some q → RRes η' (fun k => SOf φ' (ho x) k ∨ k ∈ F0) w' (η' i) (φ' i) q → RRes η' (fun k => SOf φ' (ho x) k ∨ st.Oth φ (his.map (rn ρ)) k) w' (η' i) (φ' i) q) →
      (∀ x (η' : Nat → Value) φ' w' u, ARel η' (fun k => SOf φ' (ho x) k ∨ k ∈ F0) w' (r x) u → ARel η' (fun k => SOf φ' (ho x) k ∨ st.Oth φ (his.map (rn ρ)) k) w' (r x) u) →
      Calls P f ((args.map a.eval) ++ us.toList).toArray w (fun e w' => ∃ v, e = .returned v ∧ ∃ s, (∃ x, R x ∧ s = (st.behindCall (rn ρ) his hos kp (ho x)).putO d ((r x).rnm (rn ρ))) ∧ Rep fr s (a.put d v) w') := by
    intro F0 hF0 hargs hc1 hc2
    refine (FnE.use hp hr hhis hhos hh b3 b7 b8 b9 b10 b11 F0 hF0 hargs).mono fun e w' ⟨x, hR, u, η', φ', g1, g2, g3, g4, g5, g6, g7⟩ => ?_
    refine ⟨u, g1, ?_⟩
    have hcd := hr.called (ρ := rn ρ) (his := his) (hos := hos) (kp := kp) hhis (hhos x) hh b4 b2 b1 b5 b6 (hino x) g2 g5 g6 g7 (fun i q hg => hc1 x η' φ' w' i q hg (g4 i q hg))
    refine ⟨_, ⟨x, hR, rfl⟩, pickN (rn ρ) hos η' η, pickN (rn ρ) hos φ' φ, ?_⟩
    cases d with
    | none => simpa only [St.putO, Act.put] using hcd.1
    | some d => exact hcd.1.put b12 (hcd.2 (r x) (hinr x) u (hc2 x η' φ' w' u g3))
  cases hmode with
  | flat hpass hfr hfh =>
    refine main [] (by simp) ?_ (fun x η' φ' w' i q hg h => RRes.flat ((hfh x).spec i q hg) h) (fun x η' φ' w' u h => ARel.flat _ _ (hfr x) h)
    exact ARelL.mono hsame (fun k _ h => by rcases h with h | h; exact h; cases h) _ _ (fun _ _ => rfl) (hpass.rel hh hr _ h1)
  | own hav =>
    have hF : ∀ k, k ∈ ((st.hp.map (·.1)).filter fun j => !(his.map (rn ρ)).contains j).flatMap φ ↔ st.Oth φ (his.map (rn ρ)) k := by
      intro k
      rw [List.mem_flatMap]
      constructor
      · rintro ⟨j, h1, h2⟩
        obtain ⟨h3, h4⟩ := List.mem_filter.1 h1
        obtain ⟨q, hq⟩ := mem_map_get h3
        exact ⟨j, q, hq, by simpa using h4, h2⟩
      · rintro ⟨j, q, h1, h2, h3⟩
        exact ⟨j, List.mem_filter.2 ⟨List.mem_map.2 ⟨(j, q), mem_of_get h1, rfl⟩, by simpa using h2⟩, h3⟩
    refine main (((st.hp.map (·.1)).filter fun j => !(his.map (rn ρ)).contains j).flatMap φ) (fun k hk => (hF k).1 hk) ?_ ?_ ?_
    · rw [← hav] at h1
      refine (ARelL.rnm _ _).2 (ARelL.mono hsame (fun k _ h => ?_) _ _ (fun _ _ => rfl) h1)
      rcases h with h | h
      · exact hSall k h
      · obtain ⟨j, q, h1, _, h2⟩ := (hF k).1 h; exact ⟨j, q, h1, h2⟩
    · intro x η' φ' w' i q hg h
      exact RRes.mono ⟨Nat.le_refl _, fun _ _ _ => rfl⟩ (fun k _ h => h.imp (fun h => h) (fun h => (hF k).2 h)) (fun _ _ => rfl) q (fun _ _ => rfl) h
    · intro x η' φ' w' u h
      exact ARel.mono ⟨Nat.le_refl _, fun _ _ _ => rfl⟩ (fun k _ h => h.imp (fun h => h) (fun h => (hF k).2 h)) _ _ (fun _ _ => rfl) h


/-- Bits. -/
theorem Yld.shr {ty ty2 : TypeId} {x y : Operand} {kk : IntKind} {a b : Int} {yk : IntKind} (hx : st.ev x = some (.p (.v (.int kk a)))) (hy : st.ev y = some (.p (.v (.int yk b)))) (hb : ¬ b < 0) :
    Yld P fr ⟨d, .binOp .shr ty x y ty2, t, pos, aft, g⟩ st (.p (.v (.int kk (a.fdiv (2 ^ min b.toNat kk.bits))))) :=
  Yld.of_run fun _ _ A _ hr => ⟨.int kk (a.fdiv (2 ^ min b.toNat kk.bits)), fun w' _ => by
    have h1 := hr.ev hx
    have h2 := hr.ev hy
    simp only [ARel, Rel] at h1 h2
    simp [execOp, h1, h2, eqGuard, binOp, Op.shift, hb], by simp [ARel, Rel]⟩
theorem Yld.and {ty ty2 : TypeId} {x y : Operand} {kk : IntKind} {a b : Int} (hx : st.ev x = some (.p (.v (.int kk a)))) (hy : st.ev y = some (.p (.v (.int kk b)))) :
    Yld P fr ⟨d, .binOp .and ty x y ty2, t, pos, aft, g⟩ st (.p (.v (.int kk (kk.wrap ((BitVec.ofInt kk.bits a &&& BitVec.ofInt kk.bits b).toNat : Int))))) :=
  Yld.of_run fun _ _ A _ hr => ⟨.int kk (kk.wrap ((BitVec.ofInt kk.bits a &&& BitVec.ofInt kk.bits b).toNat : Int)), fun w' _ => by
    have h1 := hr.ev hx
    have h2 := hr.ev hy
    simp only [ARel, Rel] at h1 h2
    simp [execOp, h1, h2, eqGuard, binOp, Op.intBits], by simp [ARel, Rel]⟩
theorem byte_of (x : Int) : 0 ≤ IntKind.i64.wrap (IntKind.u64.wrap ((BitVec.ofInt IntKind.u64.bits x &&& BitVec.ofInt IntKind.u64.bits 255).toNat : Int)) ∧ IntKind.i64.wrap (IntKind.u64.wrap ((BitVec.ofInt IntKind.u64.bits x &&& BitVec.ofInt IntKind.u64.bits 255).toNat : Int)) ≤ 255 := by
  have h : (BitVec.ofInt IntKind.u64.bits x &&& BitVec.ofInt IntKind.u64.bits 255).toNat ≤ 255 := by
    rw [BitVec.toNat_and]
    refine Nat.le_trans Nat.and_le_right ?_
    decide
  have e1 : IntKind.u64.wrap ((BitVec.ofInt IntKind.u64.bits x &&& BitVec.ofInt IntKind.u64.bits 255).toNat : Int) = ((BitVec.ofInt IntKind.u64.bits x &&& BitVec.ofInt IntKind.u64.bits 255).toNat : Int) := by
    generalize (BitVec.ofInt IntKind.u64.bits x &&& BitVec.ofInt IntKind.u64.bits 255).toNat = n at h
    simp only [IntKind.wrap, IntKind.signed, IntKind.bits]
    simp; omega
  rw [e1, wrap_id (by omega) (by omega)]
  omega
end
end Go.V
/- The calculus' rules: an own slice of numbers that begins behind its block's first cell. -/
namespace Go.V
open Go Go.RowKit

def TailR (v : Value) (ty : TypeId) (xs : List Int) (w : World) (F : List Nat) : Prop :=
  ((∃ a c, v = .slice a 0 c) ∧ xs = []) ∨
  ∃ b c cur, v = .slice (some ⟨b, 1, none⟩) xs.length c ∧ F = [b] ∧ w.heap[b]? = some (.cells cur ty (0, 0)) ∧ xs.length ≤ c ∧ 1 + xs.length ≤ cur.size ∧ ∀ i z, xs[i]? = some z → cur[1 + i]? = some (.int .i64 z)
theorem TailR.mono {v : Value} {ty : TypeId} {xs : List Int} {w w' : World} {F : List Nat} (hF : ∀ k ∈ F, w'.heap[k]? = w.heap[k]?) (h : TailR v ty xs w F) : TailR v ty xs w' F := by
  rcases h with h | ⟨b, c, cur, h1, h2, h3, h4⟩
  · exact .inl h
  · exact .inr ⟨b, c, cur, h1, h2, (hF b (by rw [h2]; simp)).trans h3, h4⟩
theorem tail_cell {w : World} {b o : Nat} {cur : Array Value} {ty : TypeId} {u : Value} (h : w.heap[b]? = some (.cells cur ty (0, 0))) (hu : cur[o]? = some u) : w.cell? ⟨b, o, none⟩ = some u := by
  simp [World.cell?, h, hu]
theorem tail_view {v : Value} {ty : TypeId} {xs : List Int} {w : World} {F : List Nat} (h : TailR v ty xs w F) : Rel (fun _ => False) w (.sl 1 (xs.map encI)) v := by
  simp only [Rel, List.length_map]
  rcases h with ⟨⟨a, c, h1⟩, h2⟩ | ⟨b, c, cur, h1, h2, h3, h4, h5, h6⟩
  · exact ⟨a, c, by rw [h1, h2]; rfl, by rw [h2]; simp, .inl (by rw [h2]; rfl)⟩
  · refine ⟨_, c, h1, h4, .inr ⟨b, 1, rfl, (fun h => h), (Array.getElem?_eq_some_iff.1 h3).1, ?_⟩⟩
    refine relRows_of_at _ 1 (fun r hr => by obtain ⟨x, _, rfl⟩ := List.mem_map.1 hr; rfl) (fun i r hir => ?_)
    rw [List.getElem?_map] at hir
    obtain ⟨z, hz, rfl⟩ := Option.map_eq_some_iff.1 hir
    refine ⟨⟨.int .i64 z, ?_, by simp only [Rel]⟩, trivial⟩
    exact tail_cell h3 (by rw [Nat.mul_one]; exact h6 i z hz)
theorem tail_shape {v : Value} {ty : TypeId} {xs : List Int} {w : World} {F : List Nat} (h : TailR v ty xs w F) : ∃ a n c, v = .slice a n c := by
  rcases h with ⟨⟨a, c, h1⟩, _⟩ | ⟨b, c, cur, h1, _⟩
  · exact ⟨_, _, _, h1⟩
  · exact ⟨_, _, _, h1⟩
def tailC (ty : TypeId) (xs : List Int) (V : List (List PV)) (hV : xs.map encI = V) : Cust where
  R := fun _ w hd F => TailR hd ty xs w F
  view := some (.sl 1 V)
  mono := fun _ _ hF h => TailR.mono hF h
  shape := fun h => .inr (tail_shape h)
  ok := fun h h1 => by cases h; rw [← hV]; exact tail_view h1
def tailAt (v : Value) (ty : TypeId) (xs : List Int) : Cust where
  R := fun _ w hd F => hd = v ∧ TailR v ty xs w F
  view := none
  mono := fun _ _ hF ⟨h0, h⟩ => ⟨h0, TailR.mono hF h⟩
  shape := fun ⟨h0, h⟩ => by rw [h0]; exact .inr (tail_shape h)
  ok := fun h => by cases h

section
variable {P : Program} {fr : Fr} {st : St} {ops : Array Oper} {rest : List Oper} {k : List It} {t : TypeId} {pos : String} {aft : Array Edge} {g : Option (Nat × Bool)} {d : Option Nat}
theorem SOf_get {φ : Nat → List Nat} {hp hp' : List (Nat × Res)} (h : ∀ i, (∃ r, get hp' i = some r) → ∃ r, get hp i = some r) : ∀ k, SOf φ hp' k → SOf φ hp k := by
  rintro k ⟨i, r, h1, h2⟩
  obtain ⟨r', h3⟩ := h i ⟨r, h1⟩
  exact ⟨i, r', h3, h2⟩
theorem AC.tailOpen (id : Nat) {ty : TypeId} {xs : List Int} {V : List (List PV)} {hV : xs.map encI = V} (hg : get st.hp id = some (.cust (tailC ty xs V hV)))
    (hk : ∀ a c, (xs ≠ [] → ∃ b, a = some ⟨b, 1, none⟩) → AC P fr k ⟨substT id (.v (.slice a xs.length c)) st.tm, (id, .cust (tailAt (.slice a xs.length c) ty xs)) :: substH id (.v (.slice a xs.length c)) st.hp⟩) : AC P fr k st := by
  rintro a w ⟨η, φ, hr⟩
  have hres : TailR (η id) ty xs w (φ id) := hr.res id _ hg
  have main : ∀ ad c, η id = .slice ad xs.length c → RepE fr η φ ⟨substT id (.v (.slice ad xs.length c)) st.tm, (id, .cust (tailAt (.slice ad xs.length c) ty xs)) :: substH id (.v (.slice ad xs.length c)) st.hp⟩ a w := by
    intro ad c he
    have hget : ∀ i r, get ((id, .cust (tailAt (.slice ad xs.length c) ty xs)) :: substH id (.v (.slice ad xs.length c)) st.hp) i = some r → (i = id ∧ r = .cust (tailAt (.slice ad xs.length c) ty xs)) ∨ (i ≠ id ∧ ∃ r0, get st.hp i = some r0 ∧ r = r0.subst id (.v (.slice ad xs.length c))) := by
      intro i r h
      rw [get_cons] at h
      by_cases e : id = i
      · rw [if_pos e] at h; exact .inl ⟨e.symm, (Option.some.inj h).symm⟩
      · rw [if_neg e, get_substH, if_neg (fun h => e h.symm)] at h
        obtain ⟨r0, h1, rfl⟩ := Option.map_eq_some_iff.1 h
        exact .inr ⟨fun h => e h.symm, r0, h1, rfl⟩
    have hS : ∀ k, SOf φ ((id, .cust (tailAt (.slice ad xs.length c) ty xs)) :: substH id (.v (.slice ad xs.length c)) st.hp) k → SOf φ st.hp k := by
      refine SOf_get (fun i ⟨r, h⟩ => ?_)
      rcases hget i r h with ⟨rfl, _⟩ | ⟨_, r0, h1, _⟩
      · exact ⟨_, hg⟩
      · exact ⟨_, h1⟩
    have hw : ∀ {S}, Same S w w := ⟨Nat.le_refl _, fun _ _ _ => rfl⟩
    have hx : Rel (SOf φ ((id, .cust (tailAt (.slice ad xs.length c) ty xs)) :: substH id (.v (.slice ad xs.length c)) st.hp)) w (.v (.slice ad xs.length c)) (η id) := by simp only [Rel]; exact he
    refine hr.re (fun i r k h1 h2 => hS k ⟨i, r, h1, h2⟩) ?_ ?_ ?_ (fun _ _ _ => rfl)
    · intro i av h
      simp only [get_substT] at h
      obtain ⟨a0, h1, rfl⟩ := Option.map_eq_some_iff.1 h
      obtain ⟨u, h2, h3⟩ := hr.slots i a0 h1
      exact ⟨u, h2, ARel.subst hS hx a0 u h3⟩
    · intro i r h
      rcases hget i r h with ⟨rfl, rfl⟩ | ⟨e, r0, h3, rfl⟩
      · exact ⟨he, by rw [← he]; exact hres⟩
      · have hr0 := hr.res i r0 h3
        cases r0 with
        | box ty cs =>
          obtain ⟨b, arr, e1, e2, e3, e4⟩ := hr0
          exact ⟨b, arr, e1, e2, e3, ARelL.subst hS hx cs _ e4⟩
        | vec ty rs rows => exact RRes.mono hw (fun k _ h => hS k h) (fun _ _ => rfl) (.vec ty rs rows) (fun _ _ => rfl) hr0
        | cust C => exact RRes.mono hw (fun k _ h => hS k h) (fun _ _ => rfl) (.cust C) (fun _ _ => rfl) hr0
    · intro i j r r' k h1 h2 h3 h4
      have e1 : ∃ q, get st.hp i = some q := by
        rcases hget i r h1 with ⟨rfl, _⟩ | ⟨_, r0, h, _⟩
        · exact ⟨_, hg⟩
        · exact ⟨_, h⟩
      have e2 : ∃ q, get st.hp j = some q := by
        rcases hget j r' h2 with ⟨rfl, _⟩ | ⟨_, r0, h, _⟩
        · exact ⟨_, hg⟩
        · exact ⟨_, h⟩
      obtain ⟨q1, e1⟩ := e1
      obtain ⟨q2, e2⟩ := e2
      exact hr.disj i j q1 q2 k e1 e2 h3 h4
  rcases hres with ⟨⟨a0, c0, h1⟩, h2⟩ | ⟨b, c, cur, h1, h2, h3, h4, h5, h6⟩
  · exact hk a0 c0 (fun h => absurd h2 h) a w ⟨η, φ, main a0 c0 (by rw [h1, h2]; rfl)⟩
  · exact hk _ c (fun _ => ⟨b, rfl⟩) a w ⟨η, φ, main _ c h1⟩
theorem RepE.recust {η : Nat → Value} {φ : Nat → List Nat} {a : Act} {w : World} (hr : RepE fr η φ st a w) (id : Nat) {r r' : Res} (hg : get st.hp id = some r) (hres : RRes η (SOf φ st.hp) w (η id) (φ id) r') : RepE fr η φ ⟨st.tm, setR id r' st.hp⟩ a w := by
  have h := hr.change id hg r' (η id) (φ id) rfl rfl rfl (Nat.le_refl _) (fun _ _ _ => rfl) (fun k hk => ⟨.inl hk, hr.lt id _ k hg hk⟩) (.inl rfl) (by rw [upd_same, upd_same, SOf_setR φ id r' r st.hp hg]; exact hres)
  rwa [upd_same, upd_same] at h
theorem AC.tailClose (id : Nat) {v : Value} {ty : TypeId} {xs : List Int} {V : List (List PV)} (hV : xs.map encI = V) (hg : get st.hp id = some (.cust (tailAt v ty xs))) (hk : AC P fr k ⟨st.tm, setR id (.cust (tailC ty xs V hV)) st.hp⟩) : AC P fr k st :=
  fun a w ⟨_, _, hr⟩ => hk a w ⟨_, _, hr.recust id hg (by obtain ⟨h1, h2⟩ := hr.res id _ hg; show TailR _ _ _ _ _; rw [h1]; exact h2)⟩
theorem Yld.lenC {ty e : TypeId} {x : Operand} {a : Option Addr} {n c : Nat} (hs : P.underlying ty = some (.slice e)) (hx : st.ev x = some (.p (.v (.slice a n c)))) :
    Yld P fr ⟨d, .call { callee := .builtin .len, args := #[x], argTypes := #[ty] }, t, pos, aft, g⟩ st (.p (.v (.int .i64 n))) :=
  Yld.of_run fun _ _ A w hr => by
    have h1 := hr.ev hx
    simp only [ARel, Rel] at h1
    exact ⟨.int .i64 n, fun w' hw' => by simp [execOp, resolve, invoke, builtin, h1, Builtin.len_, run_underlying hs, goInt], by simp [ARel, Rel]⟩
theorem Yld.idxC {ty e : TypeId} {x i : Operand} {b o n c m : Nat} {kk : IntKind} {j : Int} (hs : P.underlying ty = some (.slice e)) (hsz : ∀ w, (sizeOf e).run P w = .ok 1 w) (hx : st.ev x = some (.p (.v (.slice (some ⟨b, o, none⟩) n c))))
    (hi : st.ev i = some (.p (.v (.int kk j)))) (hj : j = m) (hm : m < n) : Yld P fr ⟨d, .indexAddr ty x i, t, pos, aft, g⟩ st (.p (.v (.pointer (some ⟨b, o + m, none⟩)))) :=
  Yld.of_run fun _ _ A w hr => by
    subst hj
    have h1 := hr.ev hx
    have h2 := hr.ev hi
    simp only [ARel, Rel] at h1 h2
    refine ⟨.pointer (some ⟨b, o + m, none⟩), fun w' hw' => ?_, by simp [ARel, Rel]⟩
    have h0 : (0 : Int) ≤ (m : Int) := by omega
    have h3 : (m : Int) < (n : Int) := by omega
    simp [execOp, h1, h2, Instr.indexAt, asIntOf, run_underlying hs, h0, h3, hsz, add_plain]
    intro h; omega
theorem AO.storeC {ty : TypeId} {x y : Operand} (id : Nat) {b n c m : Nat} {xs : List Int} {z : Int} {e : TypeId} (hsz : ∀ w, (sizeOf ty).run P w = .ok 1 w) (hx : st.ev x = some (.p (.v (.pointer (some ⟨b, 1 + m, none⟩))))) (hy : st.ev y = some (.p (.v (.int .i64 z))))
    (hg : get st.hp id = some (.cust (tailAt (.slice (some ⟨b, 1, none⟩) n c) e xs))) (hm : m < xs.length)
    (hk : AO P fr ops rest k false ⟨st.tm, setR id (.cust (tailAt (.slice (some ⟨b, 1, none⟩) n c) e (xs.set m z))) st.hp⟩) : AO P fr ops (⟨none, .store ty x y, t, pos, aft, none⟩ :: rest) k false st :=
  AO.of_run0 rfl rfl (fun a w ⟨η, φ, hr⟩ => by
    have h1 := hr.ev hx
    have h2 := hr.ev hy
    simp only [ARel, Rel] at h1 h2
    obtain ⟨hv, hres⟩ := hr.res id _ hg
    rcases hres with ⟨_, e1⟩ | ⟨b', c', cur, e1, e2, e3, e4, e5, e6⟩
    · subst e1; simp at hm
    · have eb : b' = b := by simp only [Value.slice.injEq, Option.some.injEq, Addr.mk.injEq] at e1; exact e1.1.1.symm
      subst eb
      have hrun : (Instr.storeAt ty (.pointer (some ⟨b', 1 + m, none⟩)) (.int .i64 z)).run P w = .ok () (w.setRow b' (spl cur.toList (1 + m) (Value.int .i64 z).cells.toList).toArray) := by
        simp [Instr.storeAt, Instr.sureAddr, run_storeVar hsz w b' (1 + m) e cur (.int .i64 z) e3 rfl (by omega) (by intro u hu; simp [Value.cells] at hu; subst hu; rfl)]
      refine ⟨w.setRow b' (spl cur.toList (1 + m) (Value.int .i64 z).cells.toList).toArray, by simp [execOp, h1, h2, hrun], η, φ, ?_⟩
      have hblk : ∀ k, k < w.heap.size → k ∉ φ id → (w.setRow b' (spl cur.toList (1 + m) (Value.int .i64 z).cells.toList).toArray).heap[k]? = w.heap[k]? := fun k _ hk =>
        setRow_other w b' k _ (fun e => hk (by rw [e2]; simp [e]))
      have hch := hr.change id hg (.cust (tailAt (.slice (some ⟨b', 1, none⟩) n c) e (xs.set m z))) (η id) (φ id) (setRow_os _ _ _) (setRow_tape _ _ _) (setRow_output _ _ _) (by simp) hblk
        (fun k hk => ⟨.inl hk, by simpa using hr.lt id _ k hg hk⟩) (.inl rfl) (by
          rw [upd_same, upd_same, SOf_setR φ id _ _ st.hp hg]
          refine ⟨hv, .inr ⟨b', c', _, by rw [List.length_set]; exact e1, e2, setRow_heap w b' cur _ e (0, 0) e3, by rw [List.length_set]; exact e4, ?_, ?_⟩⟩
          · rw [List.length_set]; simp [spl, Value.cells]; omega
          · intro i u hu
            have hc : (Value.int .i64 z).cells.toList = [Value.int .i64 z] := rfl
            rw [hc]
            have hspl : spl cur.toList (1 + m) [Value.int .i64 z] = cur.toList.set (1 + m) (.int .i64 z) := by
              unfold spl
              rw [List.set_eq_take_append_cons_drop, if_pos (by simp; omega)]
              simp
            rw [hspl]
            simp only [List.getElem?_toArray]
            by_cases him : i = m
            · subst him
              rw [List.getElem?_set_self (by simpa using hm)] at hu
              obtain rfl := Option.some.inj hu
              rw [List.getElem?_set_self (by simp; omega)]
            · rw [List.getElem?_set_ne (fun h => him h.symm)] at hu
              rw [List.getElem?_set_ne (by omega)]
              simpa using e6 i u hu)
      rwa [upd_same, upd_same] at hch) hk
/-- All but the first. -/
theorem AO.tail {dd : Nat} {ty e : TypeId} {x : Operand} (id : Nat) {lo : Option Operand} {n0 : Int} {xs : List Int} {rows : List (List PV)} {V : List (List PV)} (hV : xs.map encI = V) (hs : P.underlying ty = some (.slice e)) (hsz : ∀ w, (sizeOf e).run P w = .ok 1 w)
    (hx : st.ev x = some (.h id)) (hid : get st.hp id = some (.vec e 1 rows)) (hrows : rows = (n0 :: xs).map encI) (hlo : Bnd st 0 lo 1) (hlt : Nat.blt dd fr.nt = true)
    (hk : AO P fr ops rest k false ⟨(dd, .h id) :: dropT id st.tm, setR id (.cust (tailC e xs V hV)) (dropH id st.hp)⟩) (hpin : get fr.pin id = none := by rfl) :
    AO P fr ops (⟨some dd, .slice ty x lo none none, t, pos, aft, none⟩ :: rest) k false st :=
  AO.of_run rfl rfl (fun a w ⟨η, φ, hr⟩ => by
    subst hrows
    have ex := hr.ev hx
    simp only [ARel] at ex
    obtain ⟨us, f1, f2, f3, f4⟩ := hr.res id _ hid
    rcases f3.2 with ⟨e0, hn0⟩ | ⟨gb, cap, cur, e0, hb0, hgb, hnc, hcm, hcs, htk⟩
    · simp at hn0
    · simp only [List.length_map, List.length_cons] at hnc htk e0
      have hb := bnds_run (P := P) (w' := w) hr hlo (n := xs.length + 1) (cap := cap) (Bnd.none (st := st) (dflt := xs.length + 1)) (by omega) (by omega) true
      obtain ⟨a', c', hv', hc'⟩ : ∃ a' c', (Instr.sliceAt ty (η id) (lo.map a.eval) (Option.map a.eval none) none).run P w = .ok (.slice a' xs.length c') w ∧ (xs ≠ [] → a' = some ⟨gb, 1, none⟩ ∧ xs.length ≤ c') := by
        by_cases hcap : cap = 1
        · refine ⟨some ⟨gb, 0, none⟩, 0, ?_, fun h => ?_⟩
          · have hx0 : xs = [] := List.eq_nil_of_length_eq_zero (by omega)
            rw [e0, run_sliceAt hs hsz hb]
            simp [add_plain, hcap, hx0]
          · have : 0 < xs.length := List.length_pos_iff.2 h
            omega
        · refine ⟨some ⟨gb, 1, none⟩, cap - 1, ?_, fun _ => ⟨rfl, by omega⟩⟩
          rw [e0, run_sliceAt hs hsz hb]
          simp [add_plain]; omega
      refine ⟨.slice a' xs.length c', w, by simp only [execOp, ex, Sem.run_bind, Option.map_none] at hv' ⊢; rw [hv']; rfl, ?_⟩
      have hd := hr.drop id
      have hg0 : get (dropH id st.hp) id = some (.vec e 1 ((n0 :: xs).map encI)) := by rw [get_dropH, hid]; rfl
      have hF : φ id = [gb] := by rw [f4, e0]; rfl
      have hul : us.length = xs.length + 1 := by rw [f3.1]; simp
      have hch := hd.change id hg0 (.cust (tailC e xs V hV)) (.slice a' xs.length c') [gb] rfl rfl rfl (Nat.le_refl _) (fun _ _ _ => rfl) (fun k hk => ⟨.inl (by rw [hF]; exact hk), hr.lt id _ k hid (by rw [hF]; exact hk)⟩)
        (.inr ⟨freshT_drop id st.tm, fun j r _ hg => by rw [get_dropH] at hg; obtain ⟨r0, _, rfl⟩ := Option.map_eq_some_iff.1 hg; exact Res.drop_names id r0, hpin⟩) (by
          by_cases hne : xs = []
          · exact .inl ⟨⟨a', c', by rw [hne]; rfl⟩, hne⟩
          obtain ⟨ha', hc2⟩ := hc' hne
          refine .inr ⟨gb, c', cur, by rw [ha'], rfl, hgb, hc2, by omega, fun i z hz => ?_⟩
          have hi := lt_of_get hz
          have hus : us[1 + i]? = some (.int .i64 z) := by
            have hl := relL_getElem _ _ (1 + i) (.v (.int .i64 z)) f1 (by
              have hfl : ((n0 :: xs).map encI).flatten = (n0 :: xs).map fun n => PV.v (.int .i64 n) := by
                generalize n0 :: xs = l
                induction l with
                | nil => rfl
                | cons a l ih => simp only [List.map_cons, List.flatten_cons, ih]; rfl
              rw [hfl, List.getElem?_map, Nat.add_comm, List.getElem?_cons_succ, hz]; rfl)
            obtain ⟨u, hu1, hu2⟩ := hl
            simp only [Rel] at hu2; subst hu2; exact hu1
          rw [← htk, List.getElem?_take_of_lt (by omega)] at hus
          simpa using hus)
      exact ⟨_, _, hch.put hlt (av := .h id) (by simp only [ARel]; rw [upd_self])⟩) hk
theorem AC.vecTail (id : Nat) {ty : TypeId} (hg : get st.hp id = some (.vec ty 1 [])) (hk : AC P fr k ⟨st.tm, setR id (.cust (tailC ty [] [] rfl)) st.hp⟩) : AC P fr k st :=
  fun a w ⟨_, _, hr⟩ => hk a w ⟨_, _, hr.recust id hg (by
    obtain ⟨us, _, _, f3, _⟩ := hr.res id _ hg
    rcases f3.2 with ⟨e0, _⟩ | ⟨gb, cap, cur, e0, _⟩
    · exact .inl ⟨⟨_, _, e0⟩, rfl⟩
    · exact .inl ⟨⟨_, _, e0⟩, rfl⟩)⟩
end
theorem tailE {ty : TypeId} {xs ys : List Int} (h : xs = ys) : Res.cust (tailC ty xs (xs.map encI) rfl) = .cust (tailC ty ys (ys.map encI) rfl) := by subst h; rfl
end Go.V
/- Ancestors; marks over a tail. -/
namespace Go.V
open Go
def ancOf (xs : List Ver) (n : Int) : List Int × Int := if okVers xs = true then (if inVers xs n = true then ((line xs n).tail, 0) else ([], 3)) else ([], 1)
theorem anc_len {xs : List Ver} (h : xs.length ≤ 1048576) (n : Int) : (ancOf xs n).1.length ≤ 1048576 := by
  unfold ancOf
  split
  · split
    · next h2 =>
      have := line_lim (xs := xs) n
      simp only [inVers, Bool.and_eq_true, decide_eq_true_eq] at h2
      simp only [List.length_tail]; omega
    · simp
  · simp
def tmk (k0 : Int) (xs : List Int) (j : Nat) : List Int := (List.range j).map (fun i => k0 + ((i * 1 : Nat) : Int)) ++ xs.drop j
section
variable {k0 : Int} {xs : List Int} {j : Nat}
theorem tmk_zero : tmk k0 xs 0 = xs := by simp [tmk]
theorem tmk_len (h : j ≤ xs.length) : (tmk k0 xs j).length = xs.length := by simp [tmk]; omega
theorem tmk_set (h : j < xs.length) : (tmk k0 xs j).set j (k0 + ((j * 1 : Nat) : Int)) = tmk k0 xs (j + 1) := by
  unfold tmk
  rw [List.set_append_right _ _ (by simp), List.range_succ, List.map_append, List.append_assoc]
  congr 1
  simp only [List.length_map, List.length_range, Nat.sub_self]
  rw [List.drop_eq_getElem_cons h, List.set_cons_zero]
  simp
theorem tmk_end : (tmk k0 xs xs.length).map encI = mkAll [false] k0 xs.length := by
  unfold tmk mkAll
  rw [List.drop_length, List.append_nil, List.map_map]
  rfl
end
end Go.V
/- Versions that are one's own: their cells, their states, their marks. -/
namespace Go.V
open Go

def verC (x : Ver) : List PV := [.v (.int .i64 x.number), .v (.int .i64 x.parent), .v (str x.memo)]
def verI (x : Ver) : List (List PV) := x.state.map encNV
theorem ver_nest {xs : List Ver} : nestL 2 (xs.map verC) (xs.map verI) = xs.map encVer := by
  unfold nestL
  induction xs with
  | nil => rfl
  | cons x xs ih => simp only [List.map_cons, List.zipWith_cons_cons, ih]; rfl
theorem zip_snoc {α β γ : Type} (f : α → β → γ) : ∀ (l : List α) (m : List β) (k : Nat) (x : α) (y : β), l[k]? = some x → m.length = k → List.zipWith f l (m ++ [y]) = List.zipWith f l m ++ [f x y]
  | [], _, _, _, _, h, _ => by simp at h
  | a :: l, [], k, x, y, h, hm => by
    simp only [List.length_nil] at hm; subst hm
    simp only [List.getElem?_cons_zero, Option.some.injEq] at h; subst h
    simp
  | a :: l, b :: m, k, x, y, h, hm => by
    simp only [List.length_cons] at hm; subst hm
    simp only [List.getElem?_cons_succ] at h
    simp only [List.cons_append, List.zipWith_cons_cons, zip_snoc f l m m.length x y h rfl]
theorem zip_snoc2 {α β γ : Type} (f : α → β → γ) : ∀ (l : List α) (m : List β) (x : α) (y : β), l.length = m.length → List.zipWith f (l ++ [x]) (m ++ [y]) = List.zipWith f l m ++ [f x y]
  | [], [], _, _, _ => rfl
  | [], b :: m, _, _, h => by simp at h
  | a :: l, [], _, _, h => by simp at h
  | a :: l, b :: m, x, y, h => by simp only [List.cons_append, List.zipWith_cons_cons, zip_snoc2 f l m x y (by simpa using h)]

/-- Rows of which the first are filled. -/
def nfill (z : List PV) (xs : List Ver) (vs : List Value) : List (List PV) := rowsV (xs.map verC) vs ++ List.replicate (xs.length - vs.length) z
section
variable {z : List PV} {xs : List Ver} {vs : List Value} {k : Nat} {x : Ver} {v : Value}
theorem nfill_zero : nfill z xs [] = List.replicate xs.length z := by simp [nfill, rowsV]
theorem nfill_end (h : vs.length = xs.length) : nfill z xs vs = rowsV (xs.map verC) vs := by simp [nfill, h]
theorem rowsV_length (h : vs.length ≤ xs.length) : (rowsV (xs.map verC) vs).length = vs.length := by simp [rowsV]; omega
theorem nfill_length (h : vs.length ≤ xs.length) : (nfill z xs vs).length = xs.length := by simp [nfill, rowsV_length h]; omega
theorem nfill_get (h : vs.length = k) (hk : k < xs.length) : (nfill z xs vs)[k]? = some z := by
  unfold nfill
  rw [List.getElem?_append_right (by rw [rowsV_length (by omega)]; omega), rowsV_length (by omega), List.getElem?_replicate, if_pos (by omega)]
theorem nfill_set (h : vs.length = k) (hx : xs[k]? = some x) : (nfill z xs vs).set k (verC x ++ [.v v]) = nfill z xs (vs ++ [v]) := by
  have hk := lt_of_get hx
  unfold nfill
  rw [List.set_append_right _ _ (by rw [rowsV_length (by omega)]; omega), rowsV_length (by omega)]
  have e1 : rowsV (xs.map verC) (vs ++ [v]) = rowsV (xs.map verC) vs ++ [verC x ++ [.v v]] := zip_snoc _ _ _ k (verC x) v (by simp [hx]) h
  rw [e1, h, Nat.sub_self, List.length_append, List.length_singleton]
  have e2 : xs.length - k = (xs.length - (k + 1)) + 1 := by omega
  rw [e2, List.replicate_succ, List.set_cons_zero, h]
  simp
theorem pool_snoc (h : vs.length = k) (hx : xs[k]? = some x) : poolL vs ((xs.take k).map verI) ++ [(v, some (verI x))] = poolL (vs ++ [v]) ((xs.take (k + 1)).map verI) := by
  have hk := lt_of_get hx
  unfold poolL
  rw [take_snoc hx, List.map_append, List.map_singleton, zip_snoc2 _ _ _ _ _ (by simp; omega)]
end

/-! Marks. -/
def mkC : Int → List Nat → List (List PV)
  | _, [] => []
  | k, n :: l => [.v (.int .i64 k), .v (.int .i64 (k + 1)), .v (str (mText (k + 2)))] :: mkC (k + 3 + ((n * 2 : Nat) : Int)) l
def mkI : Int → List Nat → List (List (List PV))
  | _, [] => []
  | k, n :: l => mkAll [true, false] (k + 3) n :: mkI (k + 3 + ((n * 2 : Nat) : Int)) l
def mkK (k : Int) : List Nat → Int
  | [] => k
  | n :: l => mkK (k + 3 + ((n * 2 : Nat) : Int)) l
theorem mkC_length : ∀ (l : List Nat) (k : Int), (mkC k l).length = l.length
  | [], _ => rfl
  | n :: l, k => by simp [mkC, mkC_length l]
theorem mkI_length : ∀ (l : List Nat) (k : Int), (mkI k l).length = l.length
  | [], _ => rfl
  | n :: l, k => by simp [mkI, mkI_length l]
theorem mkK_snoc : ∀ (l : List Nat) (k : Int) (n : Nat), mkK k (l ++ [n]) = mkK k l + 3 + ((n * 2 : Nat) : Int)
  | [], _, _ => rfl
  | m :: l, k, n => by simp only [List.cons_append, mkK, mkK_snoc l]
theorem mkC_get : ∀ (l : List Nat) (k : Int) (j : Nat), j < l.length → (mkC k l)[j]? = some [.v (.int .i64 (mkK k (l.take j))), .v (.int .i64 (mkK k (l.take j) + 1)), .v (str (mText (mkK k (l.take j) + 2)))]
  | [], _, _, h => by simp at h
  | n :: l, k, 0, _ => by simp [mkC, mkK]
  | n :: l, k, j + 1, h => by
    simp only [mkC, List.getElem?_cons_succ, List.take_succ_cons, mkK]
    exact mkC_get l _ j (by simpa using h)
theorem mkI_get : ∀ (l : List Nat) (k : Int) (j : Nat) (n : Nat), l[j]? = some n → (mkI k l)[j]? = some (mkAll [true, false] (mkK k (l.take j) + 3) n)
  | [], _, _, _, h => by simp at h
  | m :: l, k, 0, n, h => by simp at h; subst h; simp [mkI, mkK]
  | m :: l, k, j + 1, n, h => by
    simp only [mkI, List.getElem?_cons_succ, List.take_succ_cons, mkK]
    exact mkI_get l _ j n (by simpa using h)
def stL (xs : List Ver) : List Nat := xs.map fun x => x.state.length
theorem mkK_le : ∀ (l : List Nat) (k : Int) (B : Nat), (∀ n ∈ l, n ≤ B) → k ≤ mkK k l ∧ mkK k l ≤ k + ((l.length * (3 + B * 2) : Nat) : Int)
  | [], k, B, _ => by simp [mkK]
  | n :: l, k, B, h => by
    have ih := mkK_le l (k + 3 + ((n * 2 : Nat) : Int)) B (fun m hm => h m (by simp [hm]))
    have hn := h n (by simp)
    simp only [mkK, List.length_cons]
    have e : (l.length + 1) * (3 + B * 2) = l.length * (3 + B * 2) + (3 + B * 2) := by rw [Nat.add_mul, Nat.one_mul]
    rw [e]
    omega
/-- The first are marked, the rest are as they were. -/
def mixV {α : Type} (ms os : List α) (j : Nat) : List α := ms.take j ++ os.drop j
section
variable {α : Type} {ms os : List α} {j : Nat} {m o : α}
theorem mixV_zero : mixV ms os 0 = os := by simp [mixV]
theorem mixV_end (h : ms.length = os.length) : mixV ms os os.length = ms := by simp [mixV, ← h]
theorem mixV_length (h : ms.length = os.length) (hj : j ≤ os.length) : (mixV ms os j).length = os.length := by simp [mixV]; omega
theorem mixV_get (h : ms.length = os.length) (ho : os[j]? = some o) : (mixV ms os j)[j]? = some o := by
  have hj := lt_of_get ho
  unfold mixV
  rw [List.getElem?_append_right (by simp; omega)]
  have e : j - (ms.take j).length = 0 := by simp; omega
  rw [e]; simp [ho]
theorem mixV_set (h : ms.length = os.length) (hm : ms[j]? = some m) : (mixV ms os j).set j m = mixV ms os (j + 1) := by
  have hj := lt_of_get hm
  have hx : ms[j] = m := by rw [List.getElem?_eq_getElem hj] at hm; exact Option.some.inj hm
  unfold mixV
  rw [List.set_append_right _ _ (by simp; omega)]
  have e : j - (ms.take j).length = 0 := by simp; omega
  rw [e, List.drop_eq_getElem_cons (show j < os.length by omega), List.set_cons_zero, take_snoc hm]
  simp
end
theorem zip_set {α β γ : Type} (f : α → β → γ) : ∀ (l : List α) (m : List β) (j : Nat) (x : α) (y : β), m[j]? = some y → (List.zipWith f l m).set j (f x y) = List.zipWith f (l.set j x) m
  | [], _, _, _, _, _ => by simp
  | a :: l, [], j, x, y, h => by simp at h
  | a :: l, b :: m, 0, x, y, h => by simp at h; subst h; simp
  | a :: l, b :: m, j + 1, x, y, h => by simp only [List.zipWith_cons_cons, List.set_cons_succ, zip_set f l m j x y (by simpa using h)]
theorem zip_set2 {α β γ : Type} (f : α → β → γ) : ∀ (l : List α) (m : List β) (j : Nat) (x : α) (y : β), l[j]? = some x → (List.zipWith f l m).set j (f x y) = List.zipWith f l (m.set j y)
  | [], _, _, _, _, h => by simp at h
  | a :: l, [], j, x, y, h => by simp
  | a :: l, b :: m, 0, x, y, h => by simp at h; subst h; simp
  | a :: l, b :: m, j + 1, x, y, h => by simp only [List.zipWith_cons_cons, List.set_cons_succ, zip_set2 f l m j x y (by simpa using h)]
def markC (k0 : Int) (xs : List Ver) (j : Nat) : List (List PV) := mixV (mkC k0 (stL xs)) (xs.map verC) j
def markI (k0 : Int) (xs : List Ver) (j : Nat) : List (List (List PV)) := mixV (mkI k0 (stL xs)) (xs.map verI) j
def markK (k0 : Int) (xs : List Ver) (j : Nat) : Int := mkK k0 (stL (xs.take j))
section
variable {k0 : Int} {xs : List Ver} {vs : List Value} {k : Nat} {x : Ver} {v : Value}
theorem stL_len (xs : List Ver) : (stL xs).length = xs.length := by simp [stL]
theorem markC_len0 : (mkC k0 (stL xs)).length = (xs.map verC).length := by rw [mkC_length, stL_len, List.length_map]
theorem markI_len0 : (mkI k0 (stL xs)).length = (xs.map verI).length := by rw [mkI_length, stL_len, List.length_map]
theorem markC_len (hk : k ≤ xs.length) : (markC k0 xs k).length = xs.length := by unfold markC; rw [mixV_length markC_len0 (by simpa using hk), List.length_map]
theorem markRows_len (hv : vs.length = xs.length) (hk : k ≤ xs.length) : (rowsV (markC k0 xs k) vs).length = xs.length := by simp [rowsV, markC_len hk, hv]
theorem markRows_get (hx : xs[k]? = some x) (hv : vs[k]? = some v) : (rowsV (markC k0 xs k) vs)[k]? = some (verC x ++ [.v v]) := by
  have : (markC k0 xs k)[k]? = some (verC x) := mixV_get markC_len0 (by simp [hx])
  simp [rowsV, List.getElem?_zipWith, this, hv]
theorem markRows_set (hx : xs[k]? = some x) (hv : vs[k]? = some v) : (rowsV (markC k0 xs k) vs).set k ([.v (.int .i64 (markK k0 xs k)), .v (.int .i64 (markK k0 xs k + 1)), .v (str (mText (markK k0 xs k + 2)))] ++ [.v v]) = rowsV (markC k0 xs (k + 1)) vs := by
  have hk := lt_of_get hx
  unfold rowsV
  rw [zip_set (fun (c : List PV) (v : Value) => c ++ [PV.v v]) _ _ _ _ _ hv]
  congr 1
  refine mixV_set markC_len0 ?_
  rw [mkC_get _ _ _ (by rw [stL_len]; exact hk)]
  simp only [markK, stL, List.map_take]
theorem markPool_get (hx : xs[k]? = some x) (hv : vs[k]? = some v) : (poolL vs (markI k0 xs k))[k]? = some (v, some (verI x)) := by
  have : (markI k0 xs k)[k]? = some (verI x) := mixV_get markI_len0 (by simp [hx])
  simp [poolL, List.getElem?_zipWith, this, hv]
theorem pool_get_set {l : List (Value × Option (List (List PV)))} (hk : k < l.length) {y : Value × Option (List (List PV))} : (l.set k y)[k]? = some y := by simp [hk]
theorem markPool_len (hv : vs.length = xs.length) (hk : k ≤ xs.length) : (poolL vs (markI k0 xs k)).length = xs.length := by
  have : (markI k0 xs k).length = xs.length := by unfold markI; rw [mixV_length markI_len0 (by simpa using hk), List.length_map]
  simp [poolL, this, hv]
theorem markPool_set (hx : xs[k]? = some x) (hv : vs[k]? = some v) : ((poolL vs (markI k0 xs k)).set k (v, none)).set k (v, some (mkAll [true, false] (markK k0 xs k + 3) x.state.length)) = poolL vs (markI k0 xs (k + 1)) := by
  have hk := lt_of_get hx
  rw [List.set_set]
  unfold poolL
  rw [zip_set2 (fun (v : Value) (r : List (List PV)) => (v, some r)) _ _ _ _ _ hv]
  congr 1
  refine mixV_set markI_len0 ?_
  rw [mkI_get _ _ k x.state.length (by simp [stL, hx])]
  simp only [markK, stL, List.map_take]
theorem markK_zero : markK k0 xs 0 = k0 := by simp [markK, stL, mkK]
theorem markK_succ (hx : xs[k]? = some x) : markK k0 xs (k + 1) = markK k0 xs k + 3 + ((x.state.length * 2 : Nat) : Int) := by
  unfold markK stL
  rw [take_snoc hx, List.map_append, List.map_singleton, mkK_snoc]
theorem markK_lim (hg : VersGood xs) : k0 ≤ markK k0 xs k ∧ markK k0 xs k ≤ k0 + 2199026401280 := by
  have h := mkK_le (stL (xs.take k)) k0 1048576 (fun n hn => by
    obtain ⟨x, hx, rfl⟩ := List.mem_map.1 hn
    exact (hg.2 x (List.mem_of_mem_take hx)).2.1)
  have hl : (stL (xs.take k)).length ≤ 1048576 := by rw [stL_len, List.length_take]; have := hg.1; omega
  refine ⟨h.1, Int.le_trans h.2 ?_⟩
  have := Nat.mul_le_mul_right (3 + 1048576 * 2) hl
  omega
theorem markC_zero : markC k0 xs 0 = xs.map verC := mixV_zero
theorem markI_zero : markI k0 xs 0 = xs.map verI := mixV_zero
theorem markC_end : markC k0 xs xs.length = mkC k0 (stL xs) := by have := mixV_end (markC_len0 (k0 := k0) (xs := xs)); rwa [List.length_map] at this
theorem markI_end : markI k0 xs xs.length = mkI k0 (stL xs) := by have := mixV_end (markI_len0 (k0 := k0) (xs := xs)); rwa [List.length_map] at this
end
/-- What marked versions show. -/
def mkV (k0 : Int) (ns : List Nat) : List (List PV) := nestL 2 (mkC k0 ns) (mkI k0 ns)
theorem mkK_nonneg : ∀ (l : List Nat) (k : Int), 0 ≤ k → 0 ≤ mkK k l
  | [], _, h => h
  | n :: l, k, h => mkK_nonneg l _ (by omega)
end Go.V
/- Versions that are added. -/
namespace Go.V
open Go

def newVer (xs : List Ver) (p : Int) (memo : List UInt8) (st : List NV) : Ver := ⟨((xs.map encVer).length : Int) + 1, p, memo, st⟩
def addV (xs : List Ver) (p : Int) (memo : List UInt8) (st : List NV) : List Ver × Int := if xs.length = 32 then ([], 5) else (xs ++ [newVer xs p memo st], 0)
def commitState (xs : List Ver) (p : Int) (memo : List UInt8) (st : List NV) : List Ver × Int :=
  if okVers xs && okMemo memo && okState st then (if decide (0 ≤ p) && decide (p ≤ (xs.length : Int)) then addV xs p memo st else ([], 3)) else ([], 1)
theorem nestE {vt st : Nat} {r r' : List Ver} (h : r = r') : Res.cust (nestC vt 4 st 2 (r.map verC) (r.map verI) (r.map encVer) ver_nest) = .cust (nestC vt 4 st 2 (r'.map verC) (r'.map verI) (r'.map encVer) ver_nest) := by
  subst h; rfl
theorem add_good {xs : List Ver} {p : Int} {memo : List UInt8} {st : List NV} (hg : VersGood xs) (h0 : xs.length ≤ 40) (hm : memo.length ≤ 1048576) (hs : st.length ≤ 1048576) (hn : ∀ s ∈ st, s.name.length ≤ 1048576) : VersGood (addV xs p memo st).1 := by
  unfold addV
  split
  · exact ⟨by simp, by simp⟩
  · refine ⟨by simp; omega, fun v hv => ?_⟩
    rcases List.mem_append.1 hv with hv | hv
    · exact hg.2 v hv
    · simp only [List.mem_singleton] at hv; subst hv
      exact ⟨hm, hs, hn⟩
theorem commit_good {xs : List Ver} {p : Int} {memo : List UInt8} {st : List NV} (hg : VersGood xs) (hm : memo.length ≤ 1048576) (hs : st.length ≤ 1048576) (hn : ∀ s ∈ st, s.name.length ≤ 1048576) : VersGood (commitState xs p memo st).1 := by
  unfold commitState
  split
  · next h =>
    split
    · simp only [Bool.and_eq_true] at h
      have := vers_len h.1.1
      exact add_good hg (by omega) hm hs hn
    · exact ⟨by simp, by simp⟩
  · exact ⟨by simp, by simp⟩
section
variable {xs : List Ver} {vs : List Value} {k : Nat} {x : Ver} {v : Value} {y : Ver}
theorem rows_snoc (h : vs.length = k) (hx : xs[k]? = some x) : rowsV ((xs.take k).map verC) vs ++ [verC x ++ [.v v]] = rowsV ((xs.take (k + 1)).map verC) (vs ++ [v]) := by
  have hk := lt_of_get hx
  unfold rowsV
  rw [take_snoc hx, List.map_append, List.map_singleton, zip_snoc2 (fun (c : List PV) (v : Value) => c ++ [PV.v v]) _ _ _ _ (by simp; omega)]
theorem rowsT_len (h : vs.length = k) (hk : k ≤ xs.length) : (rowsV ((xs.take k).map verC) vs).length = k := by simp [rowsV]; omega
theorem rows_add (h : vs.length = xs.length) : rowsV (xs.map verC) vs ++ [verC y ++ [.v v]] = rowsV ((xs ++ [y]).map verC) (vs ++ [v]) := by
  unfold rowsV
  rw [List.map_append, List.map_singleton, zip_snoc2 (fun (c : List PV) (v : Value) => c ++ [PV.v v]) _ _ _ _ (by simp [h])]
theorem pool_add (h : vs.length = xs.length) : poolL vs (xs.map verI) ++ [(v, some (verI y))] = poolL (vs ++ [v]) ((xs ++ [y]).map verI) := by
  unfold poolL
  rw [List.map_append, List.map_singleton, zip_snoc2 (fun (v : Value) (r : List (List PV)) => (v, some r)) _ _ _ _ (by simp [h])]
theorem rowsV_len (h : vs.length = xs.length) : (rowsV (xs.map verC) vs).length = xs.length := by simp [rowsV, h]
end
/-! What marked versions show. -/
theorem mkV_length {k0 : Int} {ns : List Nat} : (mkV k0 ns).length = ns.length := by simp [mkV, nestL, mkC_length, mkI_length]
theorem mkV_get {k0 : Int} {ns : List Nat} {k n : Nat} (h : ns[k]? = some n) : (mkV k0 ns)[k]? = some [.v (.int .i64 (mkK k0 (ns.take k))), .v (.int .i64 (mkK k0 (ns.take k) + 1)), .v (str (mText (mkK k0 (ns.take k) + 2))), .sl 2 (mkAll [true, false] (mkK k0 (ns.take k) + 3) n)] := by
  have hk := lt_of_get h
  unfold mkV nestL
  rw [List.getElem?_zipWith, mkC_get ns k0 k hk, mkI_get ns k0 k n h]
  rfl
theorem mkK_step {k0 : Int} {ns : List Nat} {k n : Nat} (h : ns[k]? = some n) : mkK k0 (ns.take (k + 1)) = mkK k0 (ns.take k) + 3 + ((n * 2 : Nat) : Int) := by
  rw [take_snoc h, mkK_snoc]
theorem mkK_bound {k0 : Int} {ns : List Nat} (hl : ns.length ≤ 1048576) (hn : ∀ n ∈ ns, n ≤ 1048576) (k : Nat) : k0 ≤ mkK k0 (ns.take k) ∧ mkK k0 (ns.take k) ≤ k0 + 2199026401280 := by
  have h := mkK_le (ns.take k) k0 1048576 (fun n h => hn n (List.mem_of_mem_take h))
  have hl2 : (ns.take k).length ≤ 1048576 := by rw [List.length_take]; omega
  refine ⟨h.1, Int.le_trans h.2 ?_⟩
  have := Nat.mul_le_mul_right (3 + 1048576 * 2) hl2
  omega
theorem stL_good {xs : List Ver} (hg : VersGood xs) : (stL xs).length ≤ 1048576 ∧ ∀ n ∈ stL xs, n ≤ 1048576 := by
  refine ⟨by rw [stL_len]; exact hg.1, fun n hn => ?_⟩
  obtain ⟨x, hx, rfl⟩ := List.mem_map.1 hn
  exact (hg.2 x hx).2.1
theorem mkK_all {k0 : Int} {xs : List Ver} (hg : VersGood xs) : k0 ≤ mkK k0 (stL xs) ∧ mkK k0 (stL xs) ≤ k0 + 2199026401280 := by
  have h := mkK_bound (k0 := k0) (stL_good hg).1 (stL_good hg).2 (stL xs).length
  rwa [List.take_length] at h
theorem vers_flat {vt st : Nat} {r : List Ver} : Res.Flat (.cust (nestC vt 4 st 2 (r.map verC) (r.map verI) (r.map encVer) ver_nest)) := by
  refine nest_flat (fun c hc => ?_) (fun rows hr q hq => ?_)
  · obtain ⟨x, _, rfl⟩ := List.mem_map.1 hc; exact ⟨trivial, trivial, trivial, trivial⟩
  · obtain ⟨x, _, rfl⟩ := List.mem_map.1 hr
    obtain ⟨y, _, rfl⟩ := List.mem_map.1 hq; exact ⟨trivial, trivial, trivial⟩
end Go.V
/- Marks that are corrected. -/
namespace Go.V
open Go
/-- The first k are turned, the rest are as they were. -/
def mixed {α : Type} (f : α → α) (enc : α → List PV) (xs : List α) (k : Nat) : List (List PV) := ((xs.take k).map f).map enc ++ (xs.drop k).map enc
section
variable {α : Type} {f : α → α} {enc : α → List PV} {xs : List α} {k : Nat} {x : α}
theorem mixed_zero : mixed f enc xs 0 = xs.map enc := by simp [mixed]
theorem mixed_end : mixed f enc xs xs.length = (xs.map f).map enc := by simp [mixed]
theorem mixed_length (h : k ≤ xs.length) : (mixed f enc xs k).length = xs.length := by simp [mixed]; omega
theorem mixed_get (h : xs[k]? = some x) : (mixed f enc xs k)[k]? = some (enc x) := by
  have hk := lt_of_get h
  unfold mixed
  rw [List.getElem?_append_right (by simp; omega)]
  have e : k - (List.map enc (List.map f (List.take k xs))).length = 0 := by simp; omega
  rw [e]; simp [h]
theorem mixed_set (h : xs[k]? = some x) : (mixed f enc xs k).set k (enc (f x)) = mixed f enc xs (k + 1) := by
  have hk := lt_of_get h
  have hx : xs[k] = x := by rw [List.getElem?_eq_getElem hk] at h; exact Option.some.inj h
  unfold mixed
  rw [List.set_append_right _ _ (by simp; omega)]
  have e : k - (List.map enc (List.map f (List.take k xs))).length = 0 := by simp; omega
  rw [e, List.drop_eq_getElem_cons hk, take_snoc h]
  simp [hx]
end
def fixM (t l : Int) (x : CMark) : CMark := ⟨x.az, x.al, (x.found + t) % 360000, max 0 (min 90000 (x.height + l))⟩
theorem fix_lim {x : CMark} {t l : Int} (h : okMark x = true) : i64b (fixM t l x).az ∧ i64b (fixM t l x).al ∧ i64b (fixM t l x).found ∧ i64b (fixM t l x).height := by
  have := mark_lim h
  refine ⟨⟨?_, ?_⟩, ⟨?_, ?_⟩, ⟨?_, ?_⟩, ⟨?_, ?_⟩⟩ <;> simp only [fixM] <;> omega
def fitsAll (t l : Int) (xs : List CMark) : Bool := xs.all fun x => okMark (fixM t l x)
def fixL (t l : Int) (xs : List CMark) : List CMark := if fitsAll t l xs = true then xs.map (fixM t l) else []
def correctMarks (xs : List CMark) (t l : Int) : List CMark × Int :=
  if askMarks xs = 0 then (if (decide (-5000 ≤ t) && decide (t ≤ 5000)) && (decide (-5000 ≤ l) && decide (l ≤ 5000)) then (if fitsAll t l xs = true then (xs.map (fixM t l), 0) else ([], 6)) else ([], 2)) else ([], askMarks xs)
theorem correct_len (xs : List CMark) (t l : Int) : (correctMarks xs t l).1.length ≤ xs.length := by
  unfold correctMarks; split <;> (try split) <;> (try split) <;> simp
theorem fits_miss {xs : List CMark} {t l : Int} {k : Nat} {x : CMark} (hx : xs[k]? = some x) (h : okMark (fixM t l x) = false) : fitsAll t l xs = false := all_miss hx h
theorem fits_all {xs : List CMark} {t l : Int} (h : allTo (fun x => okMark (fixM t l x)) xs xs.length = true) : fitsAll t l xs = true := by rw [allTo_all] at h; exact h
theorem fixL_len (xs : List CMark) (t l : Int) : (fixL t l xs).length ≤ xs.length := by unfold fixL; split <;> simp
end Go.V
namespace Go.V
theorem tupB {i : Nat} {n m : Bool} (h : n = m) : AV.tup [.h i, .p (.v (.bool n))] = AV.tup [.h i, .p (.v (.bool m))] := by rw [h]
end Go.V
