/- Lemmas on the search for seats, for its walks. -/
import Derived.Test.YtnejigdldeipdaaD19
set_option linter.all false
namespace Go.V
open Go
def isF : Seat → Bool
  | .found _ => true
  | _ => false
def okS : Seat → Bool
  | .full => false
  | _ => true
def remS (gs : List Group) (m : Nat) : List Int := (gs.map Group.persons).drop m
theorem rem_cons {gs : List Group} {m : Nat} {g : Group} (h : gs[m]? = some g) : remS gs m = g.persons :: remS gs (m + 1) := by
  have hk := lt_of_get h
  have hg : gs[m] = g := by rw [List.getElem?_eq_getElem hk] at h; exact Option.some.inj h
  unfold remS
  rw [List.drop_eq_getElem_cons (by simpa using hk)]
  simp [hg]
theorem rem_nil {gs : List Group} : remS gs gs.length = [] := by unfold remS; rw [List.drop_eq_nil_iff]; simp
theorem rowAt_get {free : List Int} {r : Nat} {z : Int} (h : free[r]? = some z) : rowAt free r = z := by simp [rowAt, h]
theorem rows_set {free : List Int} {r : Nat} {z : Int} (h : free.all okRow = true) (hz : okRow z = true) : (free.set r z).all okRow = true := by
  rw [List.all_eq_true] at h ⊢
  intro x hx
  rcases List.mem_or_eq_of_mem_set hx with h1 | h1
  · exact h x h1
  · rw [h1]; exact hz
theorem set_back {free : List Int} {r : Nat} {z y : Int} (h : free[r]? = some z) : (free.set r y).set r z = free := by
  have hk := lt_of_get h
  have hg : free[r] = z := by rw [List.getElem?_eq_getElem hk] at h; exact Option.some.inj h
  rw [List.set_set, ← hg, List.set_getElem_self]
theorem seatLoop_left {f : List Int → List Int → Int → Seat} {p : Int} {free pl : List Int} (hf : ∀ a b c l, 0 ≤ c → f a b c = .none l → 0 ≤ l ∧ l ≤ c) : ∀ (k : Nat) (left l : Int), 0 ≤ left → seatLoop f p free pl k left = .none l → 0 ≤ l ∧ l ≤ left := by
  intro k
  induction k with
  | zero => intro left l h0 h; simp only [seatLoop, Seat.none.injEq] at h; omega
  | succ k ih =>
    intro left l h0 h
    rw [seatLoop] at h
    split at h
    · exact ih left l h0 h
    · split at h
      · cases h
      · next hne =>
        split at h
        · next l' he =>
          have h1 := hf _ _ _ _ (by omega) he
          have h2 := ih l' l h1.1 h
          omega
        · next hx => exact absurd h (hx l)
theorem seat_left : ∀ (ps free pl : List Int) (left l : Int), 0 ≤ left → seat ps free pl left = .none l → 0 ≤ l ∧ l ≤ left
  | [], _, _, _, _, _, h => by simp [seat] at h
  | p :: ps, free, pl, left, l, h0, h => seatLoop_left (fun a b c l' hc he => seat_left ps a b c l' hc he) _ _ _ h0 h
def SeatR (s : Seat) (free pl fr2 pl2 : List Int) (l2 : Int) : Prop := fr2.length = free.length ∧ match s with
  | .found q => pl2 = q
  | .none l => fr2 = free ∧ pl2 = pl ∧ l2 = l
  | .full => True
theorem tupBB {a b a' b' : Bool} (h : a = a') (h' : b = b') : AV.tup [.p (.v (.bool a)), .p (.v (.bool b))] = .tup [.p (.v (.bool a')), .p (.v (.bool b'))] := by rw [h, h']
theorem seatR_up {s : Seat} {free pl free' pl' fr2 pl2 : List Int} {l2 : Int} (h : SeatR s free pl fr2 pl2 l2) (hl : free.length = free'.length) (hn : isF s = true ∨ okS s = false) : SeatR s free' pl' fr2 pl2 l2 := by
  obtain ⟨h1, h2⟩ := h
  refine ⟨h1.trans hl, ?_⟩
  cases s with
  | found q => exact h2
  | none l => simp [isF, okS] at hn
  | full => trivial
theorem seat_up {f : List Int → List Int → Int → Seat} {p l : Int} {free pl : List Int} {r : Nat} {z : Int} (hz : free[r]? = some z) (h : ¬ z < p) (h0 : l ≠ 0) (hn : isF (f (free.set r (z - p)) (pl ++ [(r : Int)]) (l - 1)) = true ∨ okS (f (free.set r (z - p)) (pl ++ [(r : Int)]) (l - 1)) = false) :
    seatLoop f p free pl (free.length - r) l = f (free.set r (z - p)) (pl ++ [(r : Int)]) (l - 1) := by
  have hr := lt_of_get hz
  have hk : free.length - r = (free.length - r - 1) + 1 := by omega
  have hra := rowAt_get hz
  cases hs : f (free.set r (z - p)) (pl ++ [(r : Int)]) (l - 1) with
  | found q => exact seatLoop_found hk (by rw [hra]; exact h) h0 (by rw [hra]; exact hs)
  | none l' => rw [hs] at hn; simp [isF, okS] at hn
  | full => exact seatLoop_fulls hk (by rw [hra]; exact h) h0 (by rw [hra]; exact hs)
theorem seat_next {f : List Int → List Int → Int → Seat} {p l : Int} {free pl : List Int} {r : Nat} {z : Int} (hz : free[r]? = some z) (h : ¬ z < p) (h0 : l ≠ 0) (h1 : isF (f (free.set r (z - p)) (pl ++ [(r : Int)]) (l - 1)) = false) (h2 : okS (f (free.set r (z - p)) (pl ++ [(r : Int)]) (l - 1)) = true) :
    ∃ l', f (free.set r (z - p)) (pl ++ [(r : Int)]) (l - 1) = .none l' ∧ seatLoop f p free pl (free.length - r) l = seatLoop f p free pl (free.length - (r + 1)) l' := by
  have hr := lt_of_get hz
  have hk : free.length - r = (free.length - r - 1) + 1 := by omega
  have hra := rowAt_get hz
  cases hs : f (free.set r (z - p)) (pl ++ [(r : Int)]) (l - 1) with
  | found q => rw [hs] at h1; simp [isF] at h1
  | none l' => exact ⟨l', rfl, seatLoop_none hk (by rw [hra]; exact h) h0 (by rw [hra]; exact hs)⟩
  | full => rw [hs] at h2; simp [okS] at h2
theorem AO.vecEq {P : Program} {fr : Fr} {st : St} {ops : Array Oper} {rest : List Oper} {k : List It} (id : Nat) {ty rs : Nat} {rows : List (List PV)} (rows' : List (List PV)) (hg : get st.hp id = some (.vec ty rs rows)) (h : rows = rows')
    (hk : AO P fr ops rest k false ⟨st.tm, setR id (.vec ty rs rows') st.hp⟩) : AO P fr ops rest k false st :=
  fun a w ⟨_, _, hr⟩ => hk a w ⟨_, _, hr.recust id hg (by subst h; exact hr.res id _ hg)⟩
theorem int_set {free : List Int} {k : Nat} {y : Int} : (free.map encI).set k [.v (.int .i64 y)] = (free.set k y).map encI := by rw [List.map_set]; rfl
theorem int_snoc {pl : List Int} {y : Int} : pl.map encI ++ [[.v (.int .i64 y)]] = (pl ++ [y]).map encI := by simp [encI]
theorem rows_back {free : List Int} {k : Nat} {z y : Int} (h : free[k]? = some z) : free.map encI = ((free.set k (z - y)).map encI).set k [.v (.int .i64 (z - y + y))] := by
  rw [int_set, Int.sub_add_cancel, set_back h]
theorem rows_all {rs : List Int} (h : okRows rs = true) : rs.all okRow = true := by unfold okRows at h; rw [Bool.and_eq_true] at h; exact h.1
theorem first_bad {gs : List Group} {rs : List Int} {b : Int} (h : ¬ (okGroups gs = true ∧ okRows rs = true)) : firstSeating gs rs b = ([], 1) := by
  unfold firstSeating; rw [if_neg (by rw [Bool.and_eq_true]; exact h)]
theorem first_range {gs : List Group} {rs : List Int} {b : Int} (h : okGroups gs = true ∧ okRows rs = true) (hb : ¬ (1 ≤ b ∧ b ≤ 20000)) : firstSeating gs rs b = ([], 2) := by
  unfold firstSeating; rw [if_pos (by rw [Bool.and_eq_true]; exact h), if_neg (by simp only [Bool.and_eq_true, decide_eq_true_eq]; exact hb)]
theorem first_run {gs : List Group} {rs : List Int} {b : Int} (h : okGroups gs = true ∧ okRows rs = true) (hb : 1 ≤ b ∧ b ≤ 20000) : firstSeating gs rs b = (match seat (remS gs ([] : List Int).length) rs [] b with
    | .found pl => (pl, 0)
    | .none _ => ([], 3)
    | .full => ([], 5)) := by
  unfold firstSeating; rw [if_pos (by rw [Bool.and_eq_true]; exact h), if_pos (by simp only [Bool.and_eq_true, decide_eq_true_eq]; exact hb)]; rfl
theorem seat_is_full {s : Seat} (h : okS s = false) : s = .full := by cases s <;> simp_all [okS]
theorem seat_is_none {s : Seat} (h : okS s = true) (h2 : isF s = false) : ∃ l, s = .none l := by
  cases s with
  | found q => simp [isF] at h2
  | none l => exact ⟨l, rfl⟩
  | full => simp [okS] at h
theorem seat_is_found {s : Seat} (h2 : isF s = true) : ∃ q, s = .found q := by
  cases s with
  | found q => exact ⟨q, rfl⟩
  | none l => simp [isF] at h2
  | full => simp [isF] at h2
end Go.V
