/- What the program's functions on differences, needs and loads answer. -/
import Derived.Test.YtbbechcbdeknnaaD11
set_option linter.all false
namespace Go.V
open Go

structure Chg where
  kind : Int
  set : NV
  deriving DecidableEq, Inhabited
def encChg (x : Chg) : List PV := [.v (.int .i64 x.kind), .v (str x.set.name), .v (.int .i64 x.set.val)]
theorem flatChg (x : Chg) : PV.FlatL (encChg x) := by simp [encChg, PV.FlatL, PV.Flat]

theorem lenN {n K : Nat} {c : Int} (hc : c = (K : Int)) {b : Bool} (h : decide ((n : Int) > c) = b) : decide (n ≤ K) = !b := by
  subst hc; subst h
  by_cases e : n ≤ K
  · rw [decide_eq_true e, decide_eq_false (by omega)]; rfl
  · rw [decide_eq_false e, decide_eq_true (by omega)]; rfl
theorem allI_take {α : Type} {p : Nat → α → Bool} {xs : List α} (h : allITo p xs xs.length = true) : allI p xs = true := h
theorem all_memo {s : List UInt8} (h : allTo memoByte s s.length = true) : s.all memoByte = true := by rw [← allTo_all]; exact h
theorem ver_at {xs : List Ver} {k : Nat} {x : Ver} (h : okVers xs = true) (hx : xs[k]? = some x) : okVer k x = true := by
  simp only [okVers, Bool.and_eq_true] at h; exact allI_at h.1 hx
theorem ver_lim {i : Nat} {x : Ver} (h : okVer i x = true) : x.number = (i : Int) + 1 ∧ 0 ≤ x.parent ∧ x.parent ≤ i ∧ okMemo x.memo = true ∧ okState x.state = true := by
  simp only [okVer, Bool.and_eq_true, decide_eq_true_eq] at h
  exact ⟨h.1.1.1, h.1.1.2.1, h.1.1.2.2, h.1.2, h.2⟩
theorem vers_len {xs : List Ver} (h : okVers xs = true) : xs.length ≤ 32 := by simp only [okVers, Bool.and_eq_true, decide_eq_true_eq] at h; exact h.2
theorem state_len {xs : List NV} (h : okState xs = true) : xs.length ≤ 24 := by unfold okState at h; grind
theorem state_ok {xs : List NV} (h : okState xs = true) : okB okSetting geNV xs = true := by unfold okState at h; grind

/-! Names that rise are not equal. -/
def nameIs (n : List UInt8) (x : NV) : Bool := decide (x.name = n)
theorem bytesLess_irrefl (a : List UInt8) : Op.bytesLess a a = false := by
  induction a with
  | nil => rfl
  | cons x a ih => simp [Op.bytesLess, ih]
theorem bytesLess_trans : ∀ {a b c : List UInt8}, Op.bytesLess a b = true → Op.bytesLess b c = true → Op.bytesLess a c = true
  | a, [], c, h, _ => by cases a <;> simp [Op.bytesLess] at h
  | a, _ :: _, [], _, h => by simp [Op.bytesLess] at h
  | [], y :: b, z :: c, _, _ => by simp [Op.bytesLess]
  | x :: a, y :: b, z :: c, h1, h2 => by
    simp only [Op.bytesLess, Bool.or_eq_true, Bool.and_eq_true, decide_eq_true_eq, beq_iff_eq] at h1 h2 ⊢
    rcases h1 with h1 | ⟨rfl, h1⟩
    · rcases h2 with h2 | ⟨rfl, h2⟩
      · exact .inl (UInt8.lt_trans h1 h2)
      · exact .inl h1
    · rcases h2 with h2 | ⟨rfl, h2⟩
      · exact .inl h2
      · exact .inr ⟨rfl, bytesLess_trans h1 h2⟩
theorem state_rise {xs : List NV} (h : okState xs = true) : ∀ (j i : Nat) {x y : NV}, i < j → xs[i]? = some x → xs[j]? = some y → Op.bytesLess x.name y.name = true := by
  have step : ∀ (k : Nat) {x y : NV}, xs[k]? = some x → xs[k + 1]? = some y → Op.bytesLess x.name y.name = true := by
    intro k x y hx hy
    have := okB_next (state_ok h) hy (by omega) (by simpa using hx)
    simpa [geNV] using this
  intro j
  induction j with
  | zero => intro i x y hi; omega
  | succ j ih =>
    intro i x y hi hx hy
    obtain ⟨z, hz⟩ := get_some (xs := xs) (k := j) (by have := lt_of_get hy; omega)
    rcases Nat.lt_or_ge i j with h1 | h1
    · exact bytesLess_trans (ih i h1 hx hz) (step j hz hy)
    · obtain rfl : i = j := by omega
      rw [hx] at hz; obtain rfl := Option.some.inj hz
      exact step i hx hy
theorem state_uniq {xs : List NV} (h : okState xs = true) {i j : Nat} {x y : NV} (hx : xs[i]? = some x) (hy : xs[j]? = some y) (hn : x.name = y.name) : x = y := by
  rcases Nat.lt_trichotomy i j with h1 | h1 | h1
  · have := state_rise h j i h1 hx hy; rw [hn, bytesLess_irrefl] at this; cases this
  · subst h1; rw [hx] at hy; exact Option.some.inj hy
  · have := state_rise h i j h1 hy hx; rw [hn, bytesLess_irrefl] at this; cases this
theorem idx_found {α : Type} {p : α → Bool} {xs : List α} (h : ¬ idxOf p xs < 0) : ∃ (j : Nat) (y : α), idxOf p xs = (j : Int) ∧ xs[j]? = some y ∧ p y = true := by
  unfold idxOf at h ⊢
  cases hf : xs.findIdx? p with
  | none => rw [hf] at h; simp at h
  | some i =>
    rw [List.findIdx?_eq_some_iff_getElem] at hf
    obtain ⟨h1, h2, _⟩ := hf
    exact ⟨i, xs[i], rfl, List.getElem?_eq_getElem h1, h2⟩
theorem idx_none {α : Type} {p : α → Bool} {xs : List α} (h : idxOf p xs < 0) : ∀ x ∈ xs, p x = false := by
  unfold idxOf at h
  cases hf : xs.findIdx? p with
  | none => rw [List.findIdx?_eq_none_iff] at hf; intro x hx; simpa using hf x hx
  | some i => rw [hf] at h; simp at h; omega
theorem mem_none {xs : List NV} {x : NV} (h : idxOf (nameIs x.name) xs < 0) : x ∉ xs := fun hx => by
  have := idx_none h x hx; simp [nameIs] at this
theorem mem_at {xs : List NV} {x y : NV} {j : Nat} (hok : okState xs = true) (hy : xs[j]? = some y) (hn : nameIs x.name y = true) : x ∈ xs ↔ y = x := by
  constructor
  · intro hx
    obtain ⟨i, hi⟩ := List.getElem?_of_mem hx
    exact state_uniq hok hy hi (by simpa [nameIs] using hn)
  · rintro rfl; exact List.mem_of_getElem? hy

def drops (a b : List NV) (k : Nat) : List Chg := ((a.take k).filter fun x => decide (idxOf (nameIs x.name) b < 0)).map (Chg.mk 2)
def sets (a b : List NV) (k : Nat) : List Chg := ((b.take k).filter fun x => !decide (x ∈ a)).map (Chg.mk 1)
def diffStates (a b : List NV) : List Chg × Int := if okState a && okState b then (drops a b a.length ++ sets a b b.length, 0) else ([], 1)
section
variable {a b : List NV} {k : Nat} {x : NV}
theorem drops_T (hx : a[k]? = some x) (h : idxOf (nameIs x.name) b < 0) : drops a b (k + 1) = drops a b k ++ [⟨2, x⟩] := by simp [drops, take_snoc hx, List.filter_append, h]
theorem drops_F (hx : a[k]? = some x) (h : ¬ idxOf (nameIs x.name) b < 0) : drops a b (k + 1) = drops a b k := by simp [drops, take_snoc hx, List.filter_append, h]
theorem sets_T (hx : b[k]? = some x) (h : x ∉ a) : sets a b (k + 1) = sets a b k ++ [⟨1, x⟩] := by simp [sets, take_snoc hx, List.filter_append, h]
theorem sets_F (hx : b[k]? = some x) (h : x ∈ a) : sets a b (k + 1) = sets a b k := by simp [sets, take_snoc hx, List.filter_append, h]
theorem drops_len (k : Nat) : (drops a b k).length ≤ a.length := by
  simp only [drops, List.length_map]
  exact Nat.le_trans (List.length_filter_le ..) (by simp; omega)
theorem sets_len (k : Nat) : (sets a b k).length ≤ b.length := by
  simp only [sets, List.length_map]
  exact Nat.le_trans (List.length_filter_le ..) (by simp; omega)
end
theorem diff_len (a b : List NV) : (diffStates a b).1.length ≤ a.length + b.length := by
  unfold diffStates; split
  · have := drops_len (a := a) (b := b) a.length; have := sets_len (a := a) (b := b) b.length; simp; omega
  · simp

/-! Needs and loads. -/
def okNeed (ms xs : List NV) (i : Nat) (x : NV) : Bool :=
  !decide (lookup ms x.name = 0) && (decide (0 ≤ x.val) && decide (x.val ≤ 7200000)) && (match xs[i - 1]? with | some y => !(decide (0 < i) && decide (y.val > x.val)) | none => true) && !(xs.take i).any (nameIs x.name)
theorem any_take {α : Type} {p : α → Bool} {xs : List α} {j k : Nat} {y : α} (h : j < k) (hy : xs[j]? = some y) (hp : p y = true) : (xs.take k).any p = true := by
  rw [List.any_eq_true]
  exact ⟨y, List.mem_of_getElem? (i := j) (by rw [List.getElem?_take_of_lt h]; exact hy), hp⟩
def okNeeds (ms xs : List NV) : Bool := okMedias ms && (allI (okNeed ms xs) xs && decide (xs.length ≤ 16))
def loadT (ms : List NV) (b : Int) (x : NV) : Int := (1000 * lookup ms x.name + b - 1) / b
def lateTo (ms xs : List NV) (b : Int) : Nat → Int
  | 0 => -7200001
  | k + 1 => match xs[k]? with | some x => max (lateTo ms xs b k) (sumTo (loadT ms b) xs (k + 1) - x.val) | none => lateTo ms xs b k
theorem lateTo_succ {ms xs : List NV} {b : Int} {k : Nat} {x : NV} (hx : xs[k]? = some x) : lateTo ms xs b (k + 1) = max (lateTo ms xs b k) (sumTo (loadT ms b) xs (k + 1) - x.val) := by simp [lateTo, hx]
def planL (ms xs : List NV) (b : Int) (k : Nat) : List Int := (List.range k).map (sumTo (loadT ms b) xs)
theorem planL_succ (ms xs : List NV) (b : Int) (k : Nat) : planL ms xs b (k + 1) = planL ms xs b k ++ [sumTo (loadT ms b) xs k] := by simp [planL, List.range_succ]
theorem planL_len (ms xs : List NV) (b : Int) (k : Nat) : (planL ms xs b k).length = k := by simp [planL]
theorem planL_get {ms xs : List NV} {b : Int} {k n : Nat} (h : k < n) : (planL ms xs b n)[k]? = some (sumTo (loadT ms b) xs k) := by simp [planL, h]
def askNeeds (ms xs : List NV) (b : Int) : Int := if okNeeds ms xs = true then (if decide (1 ≤ b) && decide (b ≤ 100000) then 0 else 2) else 1
def loadPlan (ms xs : List NV) (b : Int) : List Int × Int := if askNeeds ms xs b = 0 then (planL ms xs b xs.length, 0) else ([], askNeeds ms xs b)
def latenessOf (ms xs : List NV) (b : Int) : Int × Int := if askNeeds ms xs b = 0 then (if xs.length = 0 then (0, 6) else (lateTo ms xs b xs.length, 0)) else (0, askNeeds ms xs b)
theorem needs_ok {ms xs : List NV} (h : okNeeds ms xs = true) : okMedias ms = true ∧ allI (okNeed ms xs) xs = true ∧ xs.length ≤ 16 := by
  simp only [okNeeds, Bool.and_eq_true, decide_eq_true_eq] at h; exact h
theorem need_lim {ms xs : List NV} {i : Nat} {x : NV} (h : okNeed ms xs i x = true) : lookup ms x.name ≠ 0 ∧ 0 ≤ x.val ∧ x.val ≤ 7200000 := by
  simp only [okNeed, Bool.and_eq_true, decide_eq_true_eq, Bool.not_eq_true', decide_eq_false_iff_not] at h; exact ⟨h.1.1.1, h.1.1.2.1, h.1.1.2.2⟩
theorem ask_needs {ms xs : List NV} {b : Int} (h : askNeeds ms xs b = 0) : okNeeds ms xs = true ∧ 1 ≤ b ∧ b ≤ 100000 := by
  unfold askNeeds at h
  split at h
  · next h1 =>
    split at h
    · next h2 => simp at h2; exact ⟨h1, h2.1, h2.2⟩
    · omega
  · omega
theorem loadT_lim {ms : List NV} (h : okMedias ms = true) {b : Int} (hb : 1 ≤ b) (x : NV) : 0 ≤ loadT ms b x ∧ loadT ms b x ≤ 100000000 := by
  have := lookup_lim h x.name
  unfold loadT
  refine ⟨Int.ediv_nonneg (by omega) (by omega), ?_⟩
  have h2 : (1000 * lookup ms x.name + b - 1) / b < 100000000 + 1 := by
    rw [Int.ediv_lt_iff_lt_mul (by omega)]
    have : (100000000 + 1) * b = 100000000 * b + b := by rw [Int.add_mul, Int.one_mul]
    omega
  omega
theorem sums_lim {ms xs : List NV} (h : okMedias ms = true) {b : Int} (hb : 1 ≤ b) (k : Nat) : 0 * (k : Int) ≤ sumTo (loadT ms b) xs k ∧ sumTo (loadT ms b) xs k ≤ 100000000 * k :=
  sumTo_lim (by omega) (by omega) (fun _ x _ => loadT_lim h hb x) k
theorem lateTo_lim {ms xs : List NV} (h : okNeeds ms xs = true) {b : Int} (hb : 1 ≤ b) (k : Nat) : -7200001 ≤ lateTo ms xs b k ∧ lateTo ms xs b k ≤ 100000000 * k := by
  obtain ⟨h1, h2, _⟩ := needs_ok h
  induction k with
  | zero => simp [lateTo]
  | succ k ih =>
    cases hx : xs[k]? with
    | none => simp only [lateTo, hx]; omega
    | some x =>
      rw [lateTo_succ hx]
      have := sums_lim (xs := xs) h1 hb (k + 1)
      have := need_lim (allI_at h2 hx)
      omega
theorem lateTo_one {ms xs : List NV} (h : okNeeds ms xs = true) {b : Int} (hb : 1 ≤ b) {x : NV} (hx : xs[0]? = some x) : lateTo ms xs b 1 = sumTo (loadT ms b) xs 1 - x.val := by
  obtain ⟨h1, h2, _⟩ := needs_ok h
  have e : lateTo ms xs b 1 = max (lateTo ms xs b 0) (sumTo (loadT ms b) xs 1 - x.val) := lateTo_succ hx
  rw [e]
  have := sums_lim (xs := xs) h1 hb 1
  have := need_lim (allI_at h2 hx)
  simp only [lateTo]; omega
/-- With more bandwidth nothing is loaded longer. -/
theorem ceil_anti {s b c : Int} (hs : 0 ≤ s) (hb : 1 ≤ b) (hc : b ≤ c) : (s + c - 1) / c ≤ (s + b - 1) / b := by
  have h1 : s ≤ b * ((s + b - 1) / b) := by
    have h2 := Int.mul_ediv_add_emod (s + b - 1) b
    have h3 := Int.emod_lt_of_pos (s + b - 1) (by omega : 0 < b)
    omega
  have h0 : 0 ≤ (s + b - 1) / b := Int.ediv_nonneg (by omega) (by omega)
  have h4 : b * ((s + b - 1) / b) ≤ c * ((s + b - 1) / b) := Int.mul_le_mul_of_nonneg_right hc h0
  have h5 : (s + c - 1) / c < (s + b - 1) / b + 1 := by
    rw [Int.ediv_lt_iff_lt_mul (by omega)]
    have : ((s + b - 1) / b + 1) * c = c * ((s + b - 1) / b) + c := by rw [Int.add_mul, Int.one_mul, Int.mul_comm]
    omega
  omega
theorem sums_anti {ms xs : List NV} (h : okMedias ms = true) {b c : Int} (hb : 1 ≤ b) (hc : b ≤ c) (k : Nat) : sumTo (loadT ms c) xs k ≤ sumTo (loadT ms b) xs k := by
  induction k with
  | zero => simp [sumTo]
  | succ k ih =>
    simp only [sumTo]
    split
    · next x _ =>
      have := lookup_lim h x.name
      have := ceil_anti (s := 1000 * lookup ms x.name) (by omega) hb hc
      simp only [loadT] at *; omega
    · exact ih
theorem late_anti {ms xs : List NV} (h : okMedias ms = true) {b c : Int} (hb : 1 ≤ b) (hc : b ≤ c) (k : Nat) : lateTo ms xs c k ≤ lateTo ms xs b k := by
  induction k with
  | zero => simp [lateTo]
  | succ k ih =>
    simp only [lateTo]
    split
    · next x _ => have := sums_anti (xs := xs) h hb hc (k + 1); omega
    · exact ih
/-- The least from lo on, below hi, by halves. -/
def halve (p : Int → Bool) (lo hi : Int) : Int := if h : lo < hi then (if p ((lo + hi) / 2) = true then halve p lo ((lo + hi) / 2) else halve p ((lo + hi) / 2 + 1) hi) else lo
termination_by (hi - lo).toNat
decreasing_by all_goals omega
section
variable {p : Int → Bool}
theorem halve_T {lo hi : Int} (h : lo < hi) (hp : p ((lo + hi) / 2) = true) : halve p lo hi = halve p lo ((lo + hi) / 2) := by rw [halve, dif_pos h, if_pos hp]
theorem halve_F {lo hi : Int} (h : lo < hi) (hp : p ((lo + hi) / 2) = false) : halve p lo hi = halve p ((lo + hi) / 2 + 1) hi := by rw [halve, dif_pos h, if_neg (by simp [hp])]
theorem halve_end {lo hi : Int} (h : ¬ lo < hi) : halve p lo hi = lo := by rw [halve, dif_neg h]
theorem halve_ind {Q : Int → Int → Prop} (hend : ∀ lo hi, lo = hi → Q lo hi) (hT : ∀ lo hi, lo < hi → p ((lo + hi) / 2) = true → Q lo ((lo + hi) / 2) → Q lo hi) (hF : ∀ lo hi, lo < hi → p ((lo + hi) / 2) = false → Q ((lo + hi) / 2 + 1) hi → Q lo hi) :
    ∀ (n : Nat) (lo hi : Int), (hi - lo).toNat ≤ n → lo ≤ hi → Q lo hi := by
  intro n
  induction n with
  | zero => intro lo hi h1 h2; exact hend lo hi (by omega)
  | succ n ih =>
    intro lo hi h1 h2
    by_cases h : lo < hi
    · cases hp : p ((lo + hi) / 2) with
      | true => exact hT lo hi h hp (ih _ _ (by omega) (by omega))
      | false => exact hF lo hi h hp (ih _ _ (by omega) (by omega))
    · exact hend lo hi (by omega)
theorem halve_range {lo hi : Int} (h : lo ≤ hi) : lo ≤ halve p lo hi ∧ halve p lo hi ≤ hi :=
  halve_ind (p := p) (Q := fun lo hi => lo ≤ halve p lo hi ∧ halve p lo hi ≤ hi) (fun lo hi e => by rw [halve_end (by omega)]; omega) (fun lo hi h hp q => by rw [halve_T h hp]; omega) (fun lo hi h hp q => by rw [halve_F h hp]; omega) _ lo hi (Nat.le_refl _) h
theorem halve_hit {lo hi : Int} (h : lo ≤ hi) (hp : p hi = true) : p (halve p lo hi) = true :=
  halve_ind (p := p) (Q := fun lo hi => p hi = true → p (halve p lo hi) = true) (fun lo hi e hp => by rw [halve_end (by omega), e]; exact hp) (fun lo hi h hp q _ => by rw [halve_T h hp]; exact q hp) (fun lo hi h hp q h2 => by rw [halve_F h hp]; exact q h2) _ lo hi (Nat.le_refl _) h hp
theorem halve_min (hm : ∀ m n, 1 ≤ m → m ≤ n → p m = true → p n = true) {lo hi : Int} (h1 : 1 ≤ lo) (h : lo ≤ hi) : ∀ m, lo ≤ m → m < halve p lo hi → p m = false :=
  halve_ind (p := p) (Q := fun lo hi => 1 ≤ lo → ∀ m, lo ≤ m → m < halve p lo hi → p m = false) (fun lo hi e _ m h1 h2 => by rw [halve_end (by omega)] at h2; omega) (fun lo hi h hp q h0 m h1 h2 => by rw [halve_T h hp] at h2; exact q h0 m h1 h2)
    (fun lo hi h hp q h0 m h1 h2 => by
      rw [halve_F h hp] at h2
      rcases Int.lt_or_le ((lo + hi) / 2) m with h3 | h3
      · exact q (by omega) m (by omega) h2
      · cases hpm : p m with
        | false => rfl
        | true => have := hm m _ (by omega) h3 hpm; rw [hp] at this; cases this) _ lo hi (Nat.le_refl _) h h1
end
def inTime (ms xs : List NV) (b : Int) : Bool := decide (lateTo ms xs b xs.length ≤ 0)
theorem inTime_up {ms xs : List NV} (h : okMedias ms = true) : ∀ m n, 1 ≤ m → m ≤ n → inTime ms xs m = true → inTime ms xs n = true := by
  intro m n h1 h2 h3
  simp only [inTime, decide_eq_true_eq] at h3 ⊢
  have := late_anti (xs := xs) h h1 h2 xs.length
  omega
def leastBandwidth (ms xs : List NV) : Int × Int :=
  if okNeeds ms xs = true then (if inTime ms xs 100000 = true then (halve (inTime ms xs) 1 100000, 0) else (0, 3)) else (0, 1)
theorem least_nil {ms xs : List NV} (h : okNeeds ms xs = true) (hl : xs.length = 0) : leastBandwidth ms xs = (1, 0) := by
  have ht : ∀ b, inTime ms xs b = true := fun b => by simp [inTime, hl, lateTo]
  have hh : halve (inTime ms xs) 1 100000 = 1 := halve_ind (p := inTime ms xs) (Q := fun lo hi => halve (inTime ms xs) lo hi = lo) (fun lo hi e => halve_end (by omega)) (fun lo hi h hp q => by rw [halve_T h hp]; exact q) (fun lo hi h hp q => by rw [ht] at hp; cases hp) 99999 1 100000 (by omega) (by omega)
  unfold leastBandwidth
  rw [if_pos h, if_pos (ht _), hh]
theorem least_bad {ms xs : List NV} (h : okNeeds ms xs = true) (hb : inTime ms xs (halve (inTime ms xs) 1 100000) = false) : leastBandwidth ms xs = (0, 3) := by
  unfold leastBandwidth
  rw [if_pos h, if_neg]
  intro h2
  rw [halve_hit (by omega) h2] at hb
  cases hb
theorem least_good {ms xs : List NV} (h : okNeeds ms xs = true) (hb : inTime ms xs (halve (inTime ms xs) 1 100000) = true) : leastBandwidth ms xs = (halve (inTime ms xs) 1 100000, 0) := by
  have hr := halve_range (p := inTime ms xs) (lo := 1) (hi := 100000) (by omega)
  have := inTime_up (xs := xs) (needs_ok h).1 _ 100000 hr.1 hr.2 hb
  unfold leastBandwidth
  rw [if_pos h, if_pos this]
end Go.V
namespace Go.V
theorem late_in {ms xs : List NV} {b : Int} (h : decide (lateTo ms xs b xs.length ≤ 0) = true) : inTime ms xs b = true := h
theorem late_out {ms xs : List NV} {b : Int} (h : decide (lateTo ms xs b xs.length ≤ 0) = false) : inTime ms xs b = false := h
theorem late0 {ms xs : List NV} {b : Int} : decide ((if xs.length = 0 then 0 else lateTo ms xs b xs.length) ≤ 0) = inTime ms xs b := by
  unfold inTime
  split
  · next h => rw [h]; rfl
  · rfl
theorem late_in0 {ms xs : List NV} {b : Int} (h : decide ((if xs.length = 0 then 0 else lateTo ms xs b xs.length) ≤ 0) = true) : inTime ms xs b = true := by rw [late0] at h; exact h
theorem late_out0 {ms xs : List NV} {b : Int} (h : decide ((if xs.length = 0 then 0 else lateTo ms xs b xs.length) ≤ 0) = false) : inTime ms xs b = false := by rw [late0] at h; exact h
theorem gt_le {n : Int} {c : Bool} (h : decide (n > 0) = c) : decide (n ≤ 0) = !c := by
  subst h
  by_cases e : n ≤ 0
  · rw [decide_eq_true e, decide_eq_false (by omega)]; rfl
  · rw [decide_eq_false e, decide_eq_true (by omega)]; rfl
theorem late_gt {ms xs : List NV} {b : Int} (h : decide (lateTo ms xs b xs.length > 0) = true) : inTime ms xs b = false := gt_le h
theorem late_ngt {ms xs : List NV} {b : Int} (h : decide (lateTo ms xs b xs.length > 0) = false) : inTime ms xs b = true := gt_le h
theorem late_gt0 {ms xs : List NV} {b : Int} (h : decide ((if xs.length = 0 then 0 else lateTo ms xs b xs.length) > 0) = true) : inTime ms xs b = false := by rw [← late0]; exact gt_le h
theorem late_ngt0 {ms xs : List NV} {b : Int} (h : decide ((if xs.length = 0 then 0 else lateTo ms xs b xs.length) > 0) = false) : inTime ms xs b = true := by rw [← late0]; exact gt_le h
theorem late_new {ms xs : List NV} {b : Int} {k : Nat} {x : NV} (hok : okNeeds ms xs = true) (hb : 1 ≤ b) (hx : xs[k]? = some x) (hs : sumTo (loadT ms b) xs (k + 1) = sumTo (loadT ms b) xs k + loadT ms b x) (h : k = 0 ∨ sumTo (loadT ms b) xs k + loadT ms b x - x.val > (if k = 0 then 0 else lateTo ms xs b k)) :
    some (AV.p (PV.v (Value.int IntKind.i64 (sumTo (loadT ms b) xs k + loadT ms b x - x.val)))) = some (AV.p (PV.v (Value.int IntKind.i64 (lateTo ms xs b (k + 1))))) := by
  by_cases h0 : k = 0
  · subst h0
    have e : lateTo ms xs b (0 + 1) = _ := lateTo_one hok hb hx
    rw [e, ← hs]
  · rcases h with h | h
    · exact absurd h h0
    · rw [if_neg h0] at h
      rw [lateTo_succ hx, hs, Int.max_eq_right (by omega)]
theorem late_old {ms xs : List NV} {b : Int} {k : Nat} {x : NV} (hok : okNeeds ms xs = true) (hb : 1 ≤ b) (hx : xs[k]? = some x) (hs : sumTo (loadT ms b) xs (k + 1) = sumTo (loadT ms b) xs k + loadT ms b x) (h0 : ¬ k = 0) (h : sumTo (loadT ms b) xs k + loadT ms b x - x.val ≤ (if k = 0 then 0 else lateTo ms xs b k)) :
    some (AV.p (PV.v (Value.int IntKind.i64 (if k = 0 then 0 else lateTo ms xs b k)))) = some (AV.p (PV.v (Value.int IntKind.i64 (lateTo ms xs b (k + 1))))) := by
  rw [if_neg h0] at h ⊢
  rw [lateTo_succ hx, hs, Int.max_eq_left (by omega)]
end Go.V
